/- The plain proofs for this law. -/
import Derived.Test.YtkadhadceongiaaP
import Derived.Test.YtkadhadceongiaaAux
namespace Go.Proofs.Ytkadhadceongiaa.Pure
open Go.RowKit Go.Proofs.Ytkadhadceongiaa.G Go.Proofs.YtkadhadceongiaaW.PrintWords Go.Proofs.YtkadhadceongiaaW.PrintLast Go.Proofs.YtkadhadceongiaaW.PrintMore Go.Proofs.Ytkadhadceongiaa.Aux
set_option linter.unusedVariables false
set_option linter.unusedSimpArgs false

theorem Dr.ite {α : Type} {c : Prop} [Decidable c] {f g : Nat → Option α} {P : α → Prop} (h1 : c → Dr f P) (h2 : ¬ c → Dr g P) : Dr (fun k => if c then f k else g k) P := by
 by_cases h : c
 ·obtain ⟨r, e, p⟩ := h1 h
  exact ⟨r, Ev.pos h e, p⟩
 ·obtain ⟨r, e, p⟩ := h2 h
  exact ⟨r, Ev.neg h e, p⟩

theorem Dr.pos {α : Type} {c : Prop} [Decidable c] {f g : Nat → Option α} {P : α → Prop} (h : c) (h1 : Dr f P) : Dr (fun k => if c then f k else g k) P := Dr.ite (fun _ => h1) (fun x => absurd h x)

theorem Dr.neg {α : Type} {c : Prop} [Decidable c] {f g : Nat → Option α} {P : α → Prop} (h : ¬ c) (h1 : Dr g P) : Dr (fun k => if c then f k else g k) P := Dr.ite (fun x => absurd x h) (fun _ => h1)

theorem Dr.succ {α : Type} {g : Nat → Option α} {P : α → Prop} (e : Dr (fun k => g (k + 1)) P) : Dr g P := by
 obtain ⟨r, e, p⟩ := e
 exact ⟨r, Ev.succ e, p⟩

theorem Dr.mono {α : Type} {g : Nat → Option α} {P Q : α → Prop} (e : Dr g P) (h : ∀ r, P r → Q r) : Dr g Q := by
 obtain ⟨r, e, p⟩ := e
 exact ⟨r, e, h r p⟩

/-- A code of bytes. -/
def Code (c : List Int) : Prop := c.length ≤ 4096 ∧ ∀ y ∈ c, 0 ≤ y ∧ y ≤ 255

theorem from_loop (c : List Int) (hc : Code c) : ∀ (d i : Nat) (h : Int), i + d = c.length → Dr (fun k => spec_l01From.l0 k c (i : Int) c 0 h) (fun r => r.1 = c ∧ 0 ≤ r.2.1) := by
 intro d
 induction d with
 | zero =>
  intro i h hi
  refine Dr.succ ?_
  simp only [spec_l01From.l0]
  exact Dr.neg (by omega) (Dr.now ⟨rfl, Int.le_refl _⟩)
 | succ d ih =>
  intro i h hi
  have := hc.1
  refine Dr.succ ?_
  simp only [spec_l01From.l0]
  refine Dr.pos (by omega) (Dr.pos (by omega) (Dr.pos (by omega) ?_))
  rw [wrap_succ (by omega)]
  exact ih (i + 1) _ (by omega)

theorem from_ex (c : List Int) (hc : Code c) : Dr (fun k => spec_l01From.f k c) (fun r => r.1 = c ∧ 0 ≤ r.2.1) := from_loop c hc c.length 0 _ (by omega)

theorem mask_small (x : Int) : 0 ≤ Go.bits .and .u64 (IntKind.u64.wrap x / 2147483648) 1073741823 ∧ Go.bits .and .u64 (IntKind.u64.wrap x / 2147483648) 1073741823 ≤ 1073741823 := by
 have e0 : IntKind.u64.wrap x = x % 18446744073709551616 := by rw [IntKind.wrap_u64]
 rw [e0]
 have h := bits_mask .u64 63 (by decide) (fun n h₀ h₁ => by rw [IntKind.wrap_u64]; omega) 30 (by decide) (x % 18446744073709551616 / 2147483648) (by omega) (by omega)
 rw [show ((2 : Int) ^ 30 - 1) = 1073741823 by decide, show ((2 : Int) ^ 30) = 1073741824 by decide] at h
 rw [h]
 omega

theorem tmod_range {x n : Int} (hx : 0 ≤ x) (hn : 1 ≤ n) : 0 ≤ Int.tmod x n ∧ Int.tmod x n < n := by
 rw [Int.tmod_eq_emod_of_nonneg hx]
 exact ⟨Int.emod_nonneg _ (by omega), Int.emod_lt_of_pos _ (by omega)⟩

theorem next_ex {c : List Int} (hc : Code c) {a : Int} (ha : 0 ≤ a) (h n : Int) : ∃ r : Int × Int × Int, spec_l01Next.f c a h n = some r ∧ 0 ≤ r.2.1 ∧ 0 ≤ r.1 ∧ (1 ≤ n → r.1 < n) ∧ (n < 1 → r.1 = 0) := by
 unfold spec_l01Next.f
 have hl := hc.1
 have hb := mask_small (IntKind.u64.wrap (h * 6364136223846793005) + 1442695040888963407)
 by_cases hn : n < 1
 ·exact ⟨_, if_pos hn, ha, Int.le_refl _, fun x => absurd x (by omega), fun _ => rfl⟩
 ·rw [if_neg hn]
  generalize Go.bits .and .u64 (IntKind.u64.wrap (IntKind.u64.wrap (h * 6364136223846793005) + 1442695040888963407) / 2147483648) 1073741823 = b at hb
  by_cases hl2 : a < (c.length : Int)
  ·rw [if_pos hl2, if_pos ha, if_neg (by omega)]
   obtain ⟨i, rfl⟩ := Int.eq_ofNat_of_zero_le ha
   have hy := hc.2 _ (rd_mem (show i < c.length by omega))
   have e : wrap64 (wrap64 b + wrap64 (rd c (i : Int))) = b + rd c (i : Int) := by
    rw [wrap_id (x := b) (by omega) (by omega), wrap_id (x := rd c (i : Int)) (by omega) (by omega), wrap_id (by omega) (by omega)]
   have e2 : wrap64 ((i : Int) + 1) = i + 1 := wrap_id (by omega) (by omega)
   have ht := tmod_range (x := b + rd c (i : Int)) (n := n) (by omega) (by omega)
   refine ⟨_, rfl, ?_, ?_, fun _ => ?_, fun x => absurd x hn⟩
   ·show 0 ≤ wrap64 ((i : Int) + 1)
    omega
   ·show 0 ≤ Int.tmod _ n
    rw [e]; exact ht.1
   ·show Int.tmod _ n < n
    rw [e]; exact ht.2
  ·rw [if_neg hl2, if_neg (by omega)]
   have ht := tmod_range (x := b) (n := n) (by omega) (by omega)
   refine ⟨_, rfl, ha, ?_, fun _ => ?_, fun x => absurd x hn⟩
   ·show 0 ≤ Int.tmod (wrap64 b) n
    rw [wrap_id (by omega) (by omega)]; exact ht.1
   ·show Int.tmod (wrap64 b) n < n
    rw [wrap_id (by omega) (by omega)]; exact ht.2

theorem pick_ex {c : List Int} (hc : Code c) {a : Int} (ha : 0 ≤ a) (h : Int) (l : List Int) (hl : 0 < l.length) : ∃ r : Int × Int × Int, spec_l01Pick.f c a h l = some r ∧ 0 ≤ r.2.1 ∧ r.1 ∈ l := by
 unfold spec_l01Pick.f
 obtain ⟨r, e, h1, h2, h3, _⟩ := next_ex hc ha h (l.length : Int)
 have h4 := h3 (by omega)
 rw [e]
 simp only [Option.bind_some]
 rw [if_pos h2, if_pos h4]
 obtain ⟨i, hi⟩ := Int.eq_ofNat_of_zero_le h2
 exact ⟨_, rfl, h1, by rw [hi]; exact rd_mem (by omega)⟩

theorem own_eq (l : List Int) (hl : l.length ≤ 1048576) : spec_l01Own.f l = some l := specOwn l hl

theorem rough_loop (c : List Int) : ∀ (d : Nat) (l : List Int) (a h : Int), 0 ≤ a → l.length ≤ 100 → 41 ≤ l.length + d → Dr (fun k => spec_l01Rough.l0 k l c a h) (fun r => r.1.length ≤ 101 ∧ 0 ≤ r.2.1) := by
 intro d
 induction d with
 | zero =>
  intro l a h ha hl hd
  refine Dr.succ ?_
  simp only [spec_l01Rough.l0]
  exact Dr.neg (by omega) (Dr.now ⟨by simp only; omega, ha⟩)
 | succ d ih =>
  intro l a h ha hl hd
  refine Dr.succ ?_
  simp only [spec_l01Rough.l0]
  refine Dr.ite (fun hx => Dr.pos (by omega) ?_) (fun _ => Dr.now ⟨by simp only; omega, ha⟩)
  exact ih (l ++ [1]) a h ha (by simp; omega) (by simp; omega)

theorem rough_ex {c : List Int} (hc : Code c) {a : Int} (ha : 0 ≤ a) (h : Int) (l : List Int) (hl : l.length ≤ 100) : Dr (fun k => spec_l01Rough.f k c a h l) (fun r => r.1.length ≤ 101 ∧ 0 ≤ r.2.1) := by
 unfold spec_l01Rough.f
 have ho := own_eq l (by omega)
 refine Dr.bind (Dr.eq (next_ex hc ha h 30)) (fun r hr => ?_)
 refine Dr.ite (fun _ => ?_) (fun _ => Dr.ite (fun _ => ?_) (fun _ => Dr.ite (fun _ => ?_) (fun _ => Dr.ite (fun _ => ?_) (fun _ => ?_))))
 ·refine Dr.bind (Dr.eq ⟨l, ho, rfl⟩) (fun x hx => ?_)
  subst hx
  exact Dr.pos (by omega) (Dr.now ⟨by simp; omega, hr.1⟩)
 ·refine Dr.bind (Dr.eq ⟨l, ho, rfl⟩) (fun x hx => ?_)
  subst hx
  refine Dr.bind (Dr.eq (pick_ex hc hr.1 _ _ (by decide))) (fun p hp => ?_)
  exact Dr.pos (by omega) (Dr.now ⟨by simp; omega, hp.1⟩)
 ·refine Dr.bind (Dr.eq ⟨l, ho, rfl⟩) (fun x hx => ?_)
  subst hx
  refine Dr.bind (Dr.eq (pick_ex hc hr.1 _ _ (by decide))) (fun p hp => ?_)
  exact Dr.pos (by omega) (Dr.now ⟨by simp; omega, hp.1⟩)
 ·refine Dr.bind (Dr.eq ⟨l, ho, rfl⟩) (fun x hx => ?_)
  subst hx
  exact rough_loop c 41 l _ _ hr.1 hl (by omega)
 ·exact Dr.now ⟨by simp only; omega, hr.1⟩

theorem trim_ex (l : List Int) (hl : l.length ≤ 1048576) : Dr (fun k => spec_l01Trim.f k l) (fun r => r.length ≤ l.length) := ⟨_, specTrim l hl, trimN_length l _⟩

theorem poly_loop {c : List Int} (hc : Code c) (g : Int) : ∀ (d : Nat) (l : List Int) (a h : Int), 0 ≤ a → l.length + d ≤ 50 → Dr (fun k => spec_l01DrawPoly.l0 k l g (d : Int) c a h) (fun r => r.1.length ≤ 50 ∧ 0 ≤ r.2.1) := by
 intro d
 induction d with
 | zero =>
  intro l a h ha hl
  refine Dr.succ ?_
  simp only [spec_l01DrawPoly.l0]
  refine Dr.neg (by omega) (Dr.bind (trim_ex l (by omega)) (fun x hx => Dr.now ⟨by simp only; omega, ha⟩))
 | succ d ih =>
  intro l a h ha hl
  refine Dr.succ ?_
  simp only [spec_l01DrawPoly.l0]
  refine Dr.pos (by omega) (Dr.bind (Dr.eq (next_ex hc ha _ _)) (fun r hr => Dr.bind (Dr.eq (pick_ex hc hr.1 _ _ (by decide))) (fun p hp => Dr.pos (by omega) ?_)))
  rw [show wrap64 (((d + 1 : Nat) : Int) - 1) = (d : Int) by rw [wrap_id (by omega) (by omega)]; omega]
  exact ih _ _ _ hp.1 (by simp; omega)

theorem poly_ex {c : List Int} (hc : Code c) {a : Int} (ha : 0 ≤ a) (h m : Int) (h0 : 0 ≤ m) (hm : m ≤ 40) : Dr (fun k => spec_l01DrawPoly.f k c a h m) (fun r => r.1.length ≤ 50 ∧ 0 ≤ r.2.1) := by
 unfold spec_l01DrawPoly.f
 refine Dr.bind (Dr.eq (pick_ex hc ha _ _ (by decide))) (fun p hp => Dr.bind (Dr.eq (next_ex hc hp.1 _ _)) (fun r hr => ?_))
 rw [wrap_id (x := m + 1) (by omega) (by omega)] at hr
 have h1 := hr.2.1
 have h2 := hr.2.2.1 (by omega)
 obtain ⟨d, hd⟩ := Int.eq_ofNat_of_zero_le h1
 rw [hd]
 exact poly_loop hc _ d [] _ _ hr.1 (by simp; omega)
theorem mx_le {a b c : Int} (h1 : a ≤ c) (h2 : b ≤ c) : mx a b ≤ c := by unfold mx; split <;> omega
theorem mx_ge {a b : Int} : a ≤ mx a b ∧ b ≤ mx a b := by unfold mx; split <;> omega

theorem times_inner (l m : List Int) (hl : l.length ≤ 101) (hm : m.length ≤ 101) (P : List Int → Prop) (i : Nat) (hi : i < l.length) (hnext : ∀ xs : List Int, xs.length + 1 = l.length + m.length → Dr (fun k => spec_l01Times.l0 k l m xs ((i + 1 : Nat) : Int)) P) : ∀ (d j : Nat) (xs : List Int), j + d = m.length → xs.length + 1 = l.length + m.length → Dr (fun k => spec_l01Times.l1 k l m xs (i : Int) (j : Int)) P := by
 intro d
 induction d with
 | zero =>
  intro j xs hj hx
  refine Dr.succ ?_
  simp only [spec_l01Times.l1]
  refine Dr.neg (by omega) ?_
  rw [wrap_succ (by omega)]
  exact hnext xs hx
 | succ d ih =>
  intro j xs hj hx
  refine Dr.succ ?_
  simp only [spec_l01Times.l1]
  have e : wrap64 ((i : Int) + j) = ((i + j : Nat) : Int) := by rw [wrap_id (by omega) (by omega)]; omega
  rw [e, wrap_succ (i := j) (by omega)]
  refine Dr.pos (by omega) (Dr.pos (by omega) (Dr.pos (by omega) (Dr.pos (by omega) (Dr.pos (by omega) (Dr.pos (by omega) ?_)))))
  exact ih (j + 1) _ (by omega) (by rw [List.length_set]; exact hx)

theorem times_outer (l m : List Int) (hl : l.length ≤ 101) (hm : m.length ≤ 101) (hm0 : 0 < m.length) : ∀ (d i : Nat) (xs : List Int), i + d = l.length → xs.length + 1 = l.length + m.length → Dr (fun k => spec_l01Times.l0 k l m xs (i : Int)) (fun r => r.length + 1 ≤ l.length + m.length) := by
 intro d
 induction d with
 | zero =>
  intro i xs hi hx
  refine Dr.succ ?_
  simp only [spec_l01Times.l0]
  exact Dr.neg (by omega) (Dr.bind (trim_ex xs (by omega)) (fun t ht => Dr.now (by omega)))
 | succ d ih =>
  intro i xs hi hx
  refine Dr.succ ?_
  simp only [spec_l01Times.l0]
  refine Dr.pos (by omega) ?_
  exact times_inner l m hl hm _ i (by omega) (fun ys hy => ih (i + 1) ys (by omega) hy) m.length 0 xs (by omega) hx

theorem times_ex (l m : List Int) (hl : l.length ≤ 50) (hm : m.length ≤ 51) : Dr (fun k => spec_l01Times.f k l m) (fun r => r.length ≤ 100) := by
 unfold spec_l01Times.f
 have nil : Dr (fun k => spec_l01Times.j0 k l m true) (fun r => r.length ≤ 100) := by
  refine Dr.succ ?_
  simp only [spec_l01Times.j0]
  exact Dr.pos (by first | exact trivial | rfl) (Dr.now (by simp))
 refine Dr.ite (fun _ => nil) (fun h0 => ?_)
 by_cases hm0 : m.length = 0
 ·rw [show ((m.length : Int) == 0) = true by rw [hm0]; rfl]
  exact nil
 ·rw [show ((m.length : Int) == 0) = false from beq_eq_false_iff_ne.2 (by omega)]
  refine Dr.succ ?_
  simp only [spec_l01Times.j0]
  rw [wrap_id (x := (l.length : Int) + m.length) (by omega) (by omega), wrap_id (x := (l.length : Int) + m.length - 1) (by omega) (by omega)]
  refine Dr.neg (by decide) (Dr.pos (by omega) (Dr.pos (by omega) ?_))
  refine Dr.mono (times_outer l m (by omega) (by omega) (by omega) l.length 0 _ (by omega) ?_) (fun r hr => by omega)
  rw [List.length_replicate]
  omega

theorem add_two (m : List Int) (t : Int) (n : Nat) (hn : n ≤ 1000) (hm : m.length ≤ n) : ∀ (d i : Nat) (xs : List Int), i + d = m.length → xs.length = n → Dr (fun k => spec_l01Add.l1 k m t xs (i : Int)) (fun r => r.length ≤ n) := by
 intro d
 induction d with
 | zero =>
  intro i xs hi hx
  refine Dr.succ ?_
  simp only [spec_l01Add.l1]
  exact Dr.neg (by omega) (Dr.bind (trim_ex xs (by omega)) (fun t ht => Dr.now (by omega)))
 | succ d ih =>
  intro i xs hi hx
  refine Dr.succ ?_
  simp only [spec_l01Add.l1]
  refine Dr.pos (by omega) (Dr.pos (by omega) (Dr.pos (by omega) ?_))
  rw [wrap_succ (i := i) (by omega)]
  exact ih (i + 1) _ (by omega) (by rw [List.length_set]; exact hx)

theorem add_one (l m : List Int) (t : Int) (n : Nat) (hn : n ≤ 1000) (hl : l.length ≤ n) (hm : m.length ≤ n) : ∀ (d i : Nat) (xs : List Int), i + d = l.length → xs.length = n → Dr (fun k => spec_l01Add.l0 k l m t xs (i : Int)) (fun r => r.length ≤ n) := by
 intro d
 induction d with
 | zero =>
  intro i xs hi hx
  refine Dr.succ ?_
  simp only [spec_l01Add.l0]
  exact Dr.neg (by omega) (add_two m t n hn hm m.length 0 xs (by omega) hx)
 | succ d ih =>
  intro i xs hi hx
  refine Dr.succ ?_
  simp only [spec_l01Add.l0]
  refine Dr.pos (by omega) (Dr.pos (by omega) (Dr.pos (by omega) ?_))
  rw [wrap_succ (i := i) (by omega)]
  exact ih (i + 1) _ (by omega) (by rw [List.length_set]; exact hx)

theorem add_ex (l m : List Int) (t : Int) (hl : l.length ≤ 100) (hm : m.length ≤ 100) : Dr (fun k => spec_l01Add.f k l m t) (fun r => r.length ≤ 100) := by
 unfold spec_l01Add.f
 have h1 := @mx_ge (l.length : Int) (m.length : Int)
 have h2 : mx (l.length : Int) (m.length : Int) ≤ 100 := mx_le (by omega) (by omega)
 refine Dr.pos (by omega) (Dr.pos (by omega) ?_)
 refine Dr.mono (add_one l m t (mx (l.length : Int) (m.length : Int)).toNat (by omega) (by omega) (by omega) l.length 0 _ (by omega) (by rw [List.length_replicate])) (fun r hr => by omega)

section
variable {c : List Int} (hc : Code c)
include hc

theorem drawMultiply_ex : Dr (fun k => spec_DrawMultiplyWhole.f k c) (fun r => r.1.length ≤ 101 ∧ r.2.length ≤ 101) := by
 unfold spec_DrawMultiplyWhole.f
 refine Dr.bind (from_ex c hc) (fun s hs => ?_)
 obtain ⟨s0, s1, s2⟩ := s
 obtain ⟨rfl, hs⟩ := hs
 refine Dr.bind (Dr.eq (pick_ex hc hs _ _ (by decide))) (fun p hp => ?_)
 have hm : 0 ≤ p.1 ∧ p.1 ≤ 40 := by
  have : ∀ y ∈ ([3, 6, 24] : List Int), 0 ≤ y ∧ y ≤ 40 := by decide
  exact this _ hp.2
 refine Dr.bind (poly_ex hc hp.1 _ _ hm.1 hm.2) (fun q hq => Dr.bind (rough_ex hc hq.2 _ _ (by omega)) (fun r hr => ?_))
 refine Dr.bind (poly_ex hc hr.2 _ _ hm.1 hm.2) (fun q' hq' => Dr.bind (rough_ex hc hq'.2 _ _ (by omega)) (fun r' hr' => ?_))
 exact Dr.now ⟨hr.1, hr'.1⟩

theorem drawValue_ex : Dr (fun k => spec_DrawValueOfWhole.f k c) (fun r => r.1.length ≤ 101) := by
 unfold spec_DrawValueOfWhole.f
 refine Dr.bind (from_ex c hc) (fun s hs => ?_)
 obtain ⟨s0, s1, s2⟩ := s
 obtain ⟨rfl, hs⟩ := hs
 refine Dr.bind (poly_ex hc hs _ _ (by decide) (by decide)) (fun q hq => Dr.bind (rough_ex hc hq.2 _ _ (by omega)) (fun r hr => ?_))
 refine Dr.bind (Dr.eq (pick_ex hc hr.2 _ _ (by decide))) (fun p hp => Dr.now hr.1)

theorem drawDerivative_ex : Dr (fun k => spec_DrawDerivativeOfWhole.f k c) (fun r => r.length ≤ 101) := by
 unfold spec_DrawDerivativeOfWhole.f
 refine Dr.bind (from_ex c hc) (fun s hs => ?_)
 obtain ⟨s0, s1, s2⟩ := s
 obtain ⟨rfl, hs⟩ := hs
 exact Dr.bind (poly_ex hc hs _ _ (by decide) (by decide)) (fun q hq => Dr.bind (rough_ex hc hq.2 _ _ (by omega)) (fun r hr => Dr.now hr.1))

theorem drawAdd_ex : Dr (fun k => spec_DrawAddWhole.f k c) (fun r => r.1.length ≤ 101 ∧ r.2.1.length ≤ 101) := by
 unfold spec_DrawAddWhole.f
 refine Dr.bind (from_ex c hc) (fun s hs => ?_)
 obtain ⟨s0, s1, s2⟩ := s
 obtain ⟨rfl, hs⟩ := hs
 refine Dr.bind (poly_ex hc hs _ _ (by decide) (by decide)) (fun q hq => Dr.bind (rough_ex hc hq.2 _ _ (by omega)) (fun r hr => ?_))
 refine Dr.bind (poly_ex hc hr.2 _ _ (by decide) (by decide)) (fun q' hq' => Dr.bind (rough_ex hc hq'.2 _ _ (by omega)) (fun r' hr' => ?_))
 exact Dr.bind (Dr.eq (pick_ex hc hr'.2 _ _ (by decide))) (fun p hp => Dr.now ⟨hr.1, hr'.1⟩)

theorem drawDivide_end (l m : List Int) (hl : l.length ≤ 100) (hm : m.length ≤ 51) (b : Bool) {a : Int} (ha : 0 ≤ a) (h : Int) : Dr (fun k => spec_DrawDivideWhole.j0 k l m b c a h) (fun r => r.1.length ≤ 101 ∧ r.2.length ≤ 101) := by
 refine Dr.succ ?_
 simp only [spec_DrawDivideWhole.j0]
 refine Dr.ite (fun _ => ?_) (fun _ => ?_)
 ·refine Dr.bind (Dr.eq (next_ex hc ha _ _)) (fun n hn => Dr.bind (add_ex l _ _ (by omega) (by decide)) (fun t ht => ?_))
  exact Dr.bind (rough_ex hc hn.1 _ _ ht) (fun r hr => Dr.bind (rough_ex hc hr.2 _ _ (by omega)) (fun r' hr' => Dr.now ⟨hr.1, hr'.1⟩))
 ·exact Dr.bind (rough_ex hc ha _ _ (by omega)) (fun r hr => Dr.bind (rough_ex hc hr.2 _ _ (by omega)) (fun r' hr' => Dr.now ⟨hr.1, hr'.1⟩))

theorem drawDivide_ex : Dr (fun k => spec_DrawDivideWhole.f k c) (fun r => r.1.length ≤ 101 ∧ r.2.length ≤ 101) := by
 unfold spec_DrawDivideWhole.f
 refine Dr.bind (from_ex c hc) (fun s hs => ?_)
 obtain ⟨s0, s1, s2⟩ := s
 obtain ⟨rfl, hs⟩ := hs
 refine Dr.bind (poly_ex hc hs _ _ (by decide) (by decide)) (fun f hf => ?_)
 refine Dr.bind (Dr.eq (pick_ex hc hf.2 _ _ (by decide))) (fun p hp => ?_)
 refine Dr.bind (Dr.eq ⟨_, rfl, rfl⟩) (fun y hy => ?_)
 subst hy
 refine Dr.bind (poly_ex hc hp.1 _ _ (by decide) (by decide)) (fun g hg => ?_)
 refine Dr.pos (by simp; omega) ?_
 refine Dr.bind (Dr.eq ⟨_, rfl, rfl⟩) (fun y hy => ?_)
 have hyl : y.length ≤ 51 := by rw [← hy]; simp; omega
 clear hy
 refine Dr.bind (Dr.eq (next_ex hc hg.2 _ _)) (fun n hn => ?_)
 refine Dr.ite (fun _ => ?_) (fun _ => Dr.ite (fun _ => ?_) (fun _ => ?_))
 ·refine Dr.bind (poly_ex hc hn.1 _ _ (by decide) (by decide)) (fun q hq => Dr.bind (rough_ex hc hq.2 _ _ (by omega)) (fun r hr => ?_))
  exact Dr.bind (rough_ex hc hr.2 _ _ (by omega)) (fun r' hr' => Dr.now ⟨hr.1, hr'.1⟩)
 ·refine Dr.bind (poly_ex hc hn.1 _ _ (by decide) (by decide)) (fun q hq => ?_)
  refine Dr.bind (times_ex f.1 q.1 hf.1 (by omega)) (fun t ht => ?_)
  exact Dr.bind (rough_ex hc hq.2 _ _ (by omega)) (fun r hr => Dr.bind (rough_ex hc hr.2 _ _ (by omega)) (fun r' hr' => Dr.now ⟨hr.1, hr'.1⟩))
 ·refine Dr.bind (times_ex f.1 y hf.1 hyl) (fun t ht => ?_)
  refine Dr.bind (Dr.eq (next_ex hc hn.1 _ _)) (fun n' hn' => ?_)
  exact Dr.ite (fun _ => drawDivide_end hc t y ht hyl _ hn'.1 _) (fun _ => drawDivide_end hc t y ht hyl _ hn'.1 _)

/-- Rows of moderate size. -/
def Few (l : List (List Int)) : Prop := l.length ≤ 9 ∧ ∀ r ∈ l, r.length ≤ 10

theorem drawDet_end (n : Nat) (l : List (List Int)) (hl : l.length = n) (hn : n ≤ 9) (hr : ∀ r ∈ l, r.length = n) (b : Bool) (hb : b = true → 0 < n) {a : Int} (ha : 0 ≤ a) (h : Int) : Dr (fun k => spec_DrawDeterminantWhole.j2 k l b c a h) Few := by
 refine Dr.succ ?_
 simp only [spec_DrawDeterminantWhole.j2]
 have few : Few l := ⟨by omega, fun r h => by have := hr r h; omega⟩
 have fset : ∀ x : List Int, x.length ≤ 10 → Few (l.set 0 x) := fun x hx => ⟨by rw [List.length_set]; omega, fun r h => by
  rcases List.mem_or_eq_of_mem_set h with h | h
  ·exact few.2 r h
  ·rw [h]; exact hx⟩
 refine Dr.ite (fun e => ?_) (fun _ => Dr.now few)
 have h0 := hb e
 have hrow : (rd_L2 l 0).length = n := by
  have : rd_L2 l ((0 : Nat) : Int) = l[0] := rl_lt (by omega)
  rw [show rd_L2 l 0 = l[0] from this]
  exact hr _ (List.getElem_mem _)
 refine Dr.bind (Dr.eq (next_ex hc ha _ _)) (fun r hr' => ?_)
 refine Dr.ite (fun _ => ?_) (fun _ => ?_)
 ·refine Dr.pos (by omega) (Dr.pos (by omega) (Dr.now (fset _ ?_)))
  simp; omega
 ·refine Dr.pos (by omega) (Dr.bind (Dr.eq (pick_ex hc hr'.1 _ _ (by decide))) (fun p hp => Dr.pos (by omega) (Dr.now (fset _ ?_))))
  rw [List.length_set]; omega

theorem drawDet_row (n : Nat) (hn : n ≤ 9) (g : Int) (l : List (List Int)) (i : Nat) (hl : l.length ≤ 9) (hnext : ∀ (r : List Int) (a h : Int), r.length = n → 0 ≤ a → Dr (fun k => spec_DrawDeterminantWhole.l0 k (n : Int) g (l ++ [r]) (wrap64 ((i : Int) + 1)) c a h) Few) : ∀ (d j : Nat) (xs : List Int) (a h : Int), j + d = n → xs.length = j → 0 ≤ a → Dr (fun k => spec_DrawDeterminantWhole.l1 k (n : Int) g l (i : Int) xs (j : Int) c a h) Few := by
 intro d
 induction d with
 | zero =>
  intro j xs a h hj hx ha
  refine Dr.succ ?_
  simp only [spec_DrawDeterminantWhole.l1]
  exact Dr.neg (by omega) (Dr.pos (by omega) (hnext xs a h (by omega) ha))
 | succ d ih =>
  intro j xs a h hj hx ha
  refine Dr.succ ?_
  simp only [spec_DrawDeterminantWhole.l1]
  refine Dr.pos (by omega) (Dr.bind (Dr.eq (next_ex hc ha _ _)) (fun r hr => Dr.bind (Dr.eq (pick_ex hc hr.1 _ _ (by decide))) (fun p hp => Dr.pos (by omega) ?_)))
  rw [wrap_succ (i := j) (by omega)]
  exact ih (j + 1) _ _ _ (by omega) (by simp; omega) hp.1

theorem drawDet_rows (n : Nat) (hn : n ≤ 9) (g : Int) : ∀ (d i : Nat) (l : List (List Int)) (a h : Int), i + d = n → l.length = i → (∀ r ∈ l, r.length = n) → 0 ≤ a → Dr (fun k => spec_DrawDeterminantWhole.l0 k (n : Int) g l (i : Int) c a h) Few := by
 intro d
 induction d with
 | zero =>
  intro i l a h hi hl hr ha
  refine Dr.succ ?_
  simp only [spec_DrawDeterminantWhole.l0]
  refine Dr.neg (by omega) (Dr.ite (fun h0 => ?_) (fun h0 => ?_))
  ·refine Dr.bind (Dr.eq (next_ex hc ha _ _)) (fun r hr' => ?_)
   exact drawDet_end hc n l (by omega) hn hr _ (fun _ => by omega) hr'.1 _
  ·exact drawDet_end hc n l (by omega) hn hr _ (fun e => absurd e (by decide)) ha _
 | succ d ih =>
  intro i l a h hi hl hr ha
  refine Dr.succ ?_
  simp only [spec_DrawDeterminantWhole.l0]
  refine Dr.pos (by omega) ?_
  refine drawDet_row hc n hn g l i (by omega) (fun r a' h' hrl ha' => ?_) n 0 [] a h (by omega) rfl ha
  rw [wrap_succ (by omega)]
  refine ih (i + 1) (l ++ [r]) a' h' (by omega) (by simp; omega) (fun x hx => ?_) ha'
  rcases List.mem_append.1 hx with hx | hx
  ·exact hr x hx
  ·rw [List.mem_singleton.1 hx]; exact hrl

theorem drawDet_ex : Dr (fun k => spec_DrawDeterminantWhole.f k c) Few := by
 unfold spec_DrawDeterminantWhole.f
 refine Dr.bind (from_ex c hc) (fun s hs => ?_)
 obtain ⟨s0, s1, s2⟩ := s
 obtain ⟨rfl, hs⟩ := hs
 refine Dr.bind (Dr.eq (pick_ex hc hs _ _ (by decide))) (fun p hp => ?_)
 have hm : 0 ≤ p.1 ∧ p.1 ≤ 9 := by
  have : ∀ y ∈ ([0, 1, 2, 3, 4, 6, 8, 9] : List Int), 0 ≤ y ∧ y ≤ 9 := by decide
  exact this _ hp.2
 obtain ⟨n, hn⟩ := Int.eq_ofNat_of_zero_le hm.1
 refine Dr.bind (Dr.eq (pick_ex hc hp.1 _ _ (by decide))) (fun q hq => ?_)
 rw [hn]
 exact drawDet_rows hc n (by omega) q.1 n 0 [] _ _ (by omega) rfl (fun r h => absurd h (by simp)) hq.1

end
def co (l : List Int) (i : Nat) : Int := rd l (i : Int)

theorem co_ge {l : List Int} {i : Nat} (h : l.length ≤ i) : co l i = 0 := rd_ge h

theorem more_eq {a b c : Int} (h : (more a b c).2 = true) : (more a b c).1 = a + b * c := by
 unfold more at h ⊢
 by_cases g : -big ≤ b * c ∧ b * c ≤ big
 ·rw [if_pos g]
 ·rw [if_neg g] at h
  cases h

theorem cv_val (l m : List Int) (k : Nat) : ∀ (d i : Nat) (acc : Int), i + d ≤ k + 1 → (cv l m k d i acc).2 = true → (cv l m k d i acc).1 = acc + Sm d (fun t => co l (i + t) * co m (k - (i + t))) := by
 intro d
 induction d with
 | zero => intro i acc _ _; exact (Int.add_zero acc).symm
 | succ d ih =>
  intro i acc hi h
  rw [Sm_first]
  have e : ∀ x : Int, x + Sm d (fun t => co l (i + 1 + t) * co m (k - (i + 1 + t))) = x + Sm d (fun t => co l (i + (t + 1)) * co m (k - (i + (t + 1)))) := fun x => by
   congr 1
   exact Sm_congr (fun t _ => by rw [show i + 1 + t = i + (t + 1) by omega])
  unfold cv at h ⊢
  by_cases c : i + m.length ≤ k
  ·rw [if_pos c] at h ⊢
   rw [ih (i + 1) acc (by omega) h, e, co_ge (l := m) (i := k - (i + 0)) (by omega)]
   omega
  ·rw [if_neg c] at h ⊢
   by_cases g : (more acc (rd l (i : Int)) (rd m ((k - i : Nat) : Int))).2 = true
   ·rw [if_pos g] at h ⊢
    rw [ih (i + 1) _ (by omega) h, e, more_eq g]
    show acc + co l i * co m (k - i) + _ = acc + (co l (i + 0) * co m (k - (i + 0)) + _)
    rw [Nat.add_zero]
    omega
   ·rw [if_neg g] at h
    cases h

theorem cv_small (l m : List Int) (k : Nat) : ∀ (d i : Nat) (acc : Int), (-big ≤ acc ∧ acc ≤ big) → (cv l m k d i acc).2 = true → -big ≤ (cv l m k d i acc).1 ∧ (cv l m k d i acc).1 ≤ big := by
 intro d
 induction d with
 | zero => intro i acc ha _; exact ha
 | succ d ih =>
  intro i acc ha h
  unfold cv at h ⊢
  by_cases c : i + m.length ≤ k
  ·rw [if_pos c] at h ⊢
   exact ih (i + 1) acc ha h
  ·rw [if_neg c] at h ⊢
   by_cases g : (more acc (rd l (i : Int)) (rd m ((k - i : Nat) : Int))).2 = true
   ·rw [if_pos g] at h ⊢
    exact ih (i + 1) _ (more_small g) h
   ·rw [if_neg g] at h
    cases h

theorem Sm_upto {d e : Nat} (f : Nat → Int) (hde : d ≤ e) (h : ∀ i, d ≤ i → i < e → f i = 0) : Sm e f = Sm d f := by
 induction e with
 | zero => rw [show d = 0 by omega]
 | succ e ih =>
  rcases Nat.lt_or_eq_of_le hde with c | c
  ·show Sm e f + f e = Sm d f
   rw [ih (by omega) (fun i h1 h2 => h i h1 (by omega)), h e (by omega) (by omega), Int.add_zero]
  ·rw [c]

theorem cvk_val (l m : List Int) (k : Nat) (h : (cvk l m k).2 = true) : (cvk l m k).1 = cw (co l) (co m) k := by
 unfold cvk at h ⊢
 rw [cv_val l m k _ 0 0 (by omega) h, Int.zero_add]
 unfold cw
 rw [Sm_upto (d := min (k + 1) l.length) (e := k + 1) (fun i => co l i * co m (k - i)) (by omega) (fun i hi hi2 => by rw [co_ge (l := l) (by omega), Int.zero_mul])]
 exact Sm_congr (fun t _ => by rw [Nat.zero_add])

/-- A product of two lists, number by number. -/
def IsProd (l m p : List Int) : Prop := (l.length = 0 ∧ p = []) ∨ (m.length = 0 ∧ p = []) ∨ (0 < l.length ∧ 0 < m.length ∧ p.length + 1 = l.length + m.length ∧ ∀ k, k < p.length → co p k = cw (co l) (co m) k)

theorem prodR_facts (l m : List Int) (hw : whole l = true) (hw' : whole m = true) (h : (prodR l m).2 = true) : whole (prodR l m).1 = true ∧ IsProd l m (prodR l m).1 := by
 unfold prodR at h ⊢
 by_cases h0 : l.length = 0
 ·rw [if_pos h0]
  exact ⟨rfl, Or.inl ⟨h0, rfl⟩⟩
 rw [if_neg h0] at h ⊢
 by_cases h0' : m.length = 0
 ·rw [if_pos h0']
  exact ⟨rfl, Or.inr (Or.inl ⟨h0', rfl⟩)⟩
 rw [if_neg h0'] at h ⊢
 by_cases h40 : l.length + m.length - 1 ≤ 40
 ·rw [if_pos h40] at h ⊢
  by_cases hok : ∀ k, k < l.length + m.length - 1 → (cvk l m k).2 = true
  ·rw [if_pos hok]
   have hs : ∀ y ∈ prod l m (l.length + m.length - 1), -big ≤ y ∧ y ≤ big := fun y hy => by
    unfold prod at hy
    obtain ⟨k, hk, rfl⟩ := List.mem_map.1 hy
    have := hok k (List.mem_range.1 hk)
    exact cv_small l m k _ 0 0 (by decide) this
   have hw2 := whole_trim (q := prod l m (l.length + m.length - 1)) (by rw [prod_length]; exact h40) hs _ (Nat.le_of_eq (prod_length l m _).symm)
   rw [trim_prod l m hw hw' (by omega) (by omega) _ (by omega) hok] at hw2
   refine ⟨hw2, Or.inr (Or.inr ⟨by omega, by omega, by simp only [prod_length]; omega, fun k hk => ?_⟩)⟩
   simp only [prod_length] at hk
   rw [← cvk_val l m k (hok k hk)]
   exact rd_map_range _ hk
  ·rw [if_neg hok] at h
   cases h
 ·rw [if_neg h40] at h
  cases h

theorem mulR_zero {l m p : List Int} (h : mulR l m = (p, 0)) : whole l = true ∧ whole m = true ∧ (prodR l m).2 = true ∧ (prodR l m).1 = p := by
 unfold mulR at h
 by_cases hw : whole l = true ∧ whole m = true
 ·rw [if_pos hw] at h
  by_cases c : (prodR l m).2 = true
  ·rw [if_pos c] at h
   exact ⟨hw.1, hw.2, c, (Prod.mk.inj h).1⟩
  ·rw [if_neg c] at h
   exact absurd (Prod.mk.inj h).2 (by decide)
 ·rw [if_neg hw] at h
  exact absurd (Prod.mk.inj h).2 (by decide)

/-- The value. -/
def Hn (l : List Int) (x : Int) : Int := Sm l.length (fun i => co l i * x ^ i)

theorem val_at (l : List Int) (x : Int) : ∀ (j : Nat) (acc : Int), (val l x j acc).2 = 0 → (val l x j acc).1 = acc * x ^ j + Sm j (fun i => co l i * x ^ i) := by
 intro j
 induction j with
 | zero => intro acc _; show acc = acc * x ^ 0 + 0; rw [Int.pow_zero]; omega
 | succ j ih =>
  intro acc h
  unfold val at h ⊢
  by_cases c : (more (l.getD j 0) acc x).2 = true
  ·rw [if_pos c] at h ⊢
   rw [ih _ h, more_eq c]
   show (l.getD j 0 + acc * x) * x ^ j + _ = acc * x ^ (j + 1) + (Sm j _ + l.getD j 0 * x ^ j)
   rw [Int.pow_succ]
   grind
  ·rw [if_neg c] at h
   exact absurd h (by decide)

theorem valR_at {l : List Int} {x : Int} (h : (valR l x).2 = 0) : (valR l x).1 = Hn l x := by
 unfold valR at h ⊢
 by_cases hw : whole l = true
 ·rw [if_pos hw] at h ⊢
  by_cases hx : -1000 ≤ x ∧ x ≤ 1000
  ·rw [if_pos hx] at h ⊢
   rw [val_at l x _ _ h]
   unfold Hn
   omega
  ·rw [if_neg hx] at h
   exact absurd h (by decide)
 ·rw [if_neg hw] at h
  exact absurd h (by decide)

theorem prod_at {l m p : List Int} (h : IsProd l m p) (x : Int) : Hn p x = Hn l x * Hn m x := by
 rcases h with ⟨h, rfl⟩ | ⟨h, rfl⟩ | ⟨hl, hm, hp, h⟩
 ·unfold Hn; rw [h]; exact (Int.zero_mul _).symm
 ·unfold Hn; rw [h]; exact (Int.mul_zero _).symm
 ·obtain ⟨n, hn⟩ : ∃ n, p.length = n + 1 := ⟨p.length - 1, by omega⟩
  have e1 : Hn p x = Sm (n + 1) (fun k => Sm (k + 1) (fun i => (co l i * x ^ i) * (co m (k - i) * x ^ (k - i)))) := by
   unfold Hn
   rw [hn]
   refine Sm_congr (fun k hk => ?_)
   rw [h k (by omega)]
   unfold cw
   rw [← Sm_mul_right]
   refine Sm_congr (fun i hi => ?_)
   have : x ^ k = x ^ i * x ^ (k - i) := by rw [← Int.pow_add, show i + (k - i) = k by omega]
   rw [this]
   grind
  rw [e1, Sm_tri (fun i j => (co l i * x ^ i) * (co m j * x ^ j)), Sm_more (d := l.length) (e := n + 1) _ (by omega) (fun i hi => ?_)]
  ·unfold Hn
   rw [← Sm_mul_right]
   refine Sm_congr (fun i hi => ?_)
   rw [Sm_mul_left, Sm_more (d := m.length) (e := n - i + 1) _ (by omega) (fun j hj => by rw [co_ge hj, Int.zero_mul])]
  ·rw [Sm_congr (g := fun _ => 0) (fun j _ => by rw [co_ge hi, Int.zero_mul, Int.zero_mul]), Sm_zero]

/-- Values of products are products of values. -/
theorem mul_value {f g p : List Int} {x : Int} (h : mulR f g = (p, 0)) (h1 : (valR f x).2 = 0) (h2 : (valR g x).2 = 0) (h3 : (valR p x).2 = 0) : (valR f x).1 * (valR g x).1 = (valR p x).1 := by
 obtain ⟨a, b, c, d⟩ := mulR_zero h
 rw [valR_at h1, valR_at h2, valR_at h3, ← d]
 exact (prod_at (prodR_facts f g a b c).2 x).symm

theorem trim_whole {l : List Int} (h : whole l = true) : trimN l l.length = l := by
 rcases Nat.eq_zero_or_pos l.length with e | e
 ·rw [List.length_eq_zero_iff.1 e]; rfl
 ·obtain ⟨n, hn⟩ : ∃ n, l.length = n + 1 := ⟨l.length - 1, by omega⟩
  have := last_ne h e
  rw [hn, Nat.add_sub_cancel] at this
  rw [hn]
  unfold trimN
  rw [if_neg this, ← hn, List.take_length]

theorem dv_val (b q : List Int) (k : Nat) : ∀ (d i : Nat) (acc : Int), (dv b q k d i acc).2 = true → (dv b q k d i acc).1 = acc - Sm d (fun t => co b (i + t) * co q (k - (i + t))) := by
 intro d
 induction d with
 | zero => intro i acc _; exact (Int.sub_zero acc).symm
 | succ d ih =>
  intro i acc h
  rw [Sm_first]
  unfold dv at h ⊢
  by_cases g : (more acc (-(rd b (i : Int))) (rd q ((k - i : Nat) : Int))).2 = true
  ·rw [if_pos g] at h ⊢
   rw [ih (i + 1) _ h, more_eq g]
   rw [Sm_congr (g := fun t => co b (i + (t + 1)) * co q (k - (i + (t + 1)))) (fun t _ => by rw [show i + 1 + t = i + (t + 1) by omega])]
   show acc + -(co b i) * co q (k - i) - _ = acc - (co b (i + 0) * co q (k - (i + 0)) + _)
   rw [Nat.add_zero, Int.neg_mul]
   omega
  ·rw [if_neg g] at h
   cases h

theorem qs_mul {f g p : List Int} (hp : p.length + 1 = f.length + g.length) (h : ∀ k, k < p.length → co p k = cw (co f) (co g) k) (hg : rd g 0 = 1 ∨ rd g 0 = -1) (hg0 : 0 < g.length) : ∀ (k : Nat) (Q : List Int), k ≤ f.length → qs p g k = some Q → Q = f.take k := by
 intro k
 induction k with
 | zero => intro Q _ hQ; cases hQ; rfl
 | succ k ih =>
  intro Q hk hQ
  unfold qs at hQ
  cases hq : qs p g k with
  | none => rw [hq] at hQ; cases hQ
  | some q =>
   rw [hq] at hQ
   have eq := ih q (by omega) hq
   simp only at hQ
   by_cases c : (dv g q k (min (k + 1) g.length - 1) 1 (rd p (k : Int))).2 = true
   ·rw [if_pos c] at hQ
    rw [← Option.some.inj hQ, dv_val g q k _ _ _ c, eq, List.take_succ_eq_append_getElem (by omega)]
    congr 2
    have e1 : rd p (k : Int) = co g 0 * co f k + Sm k (fun t => co g (t + 1) * co f (k - (t + 1))) := by
     show co p k = _
     rw [h k (by omega), cw_comm]
     unfold cw
     rw [Sm_first, Nat.sub_zero]
    have e2 : Sm (min (k + 1) g.length - 1) (fun t => co g (1 + t) * co (f.take k) (k - (1 + t))) = Sm k (fun t => co g (t + 1) * co f (k - (t + 1))) := by
     rw [Sm_upto (d := min (k + 1) g.length - 1) (e := k) (fun t => co g (t + 1) * co f (k - (t + 1))) (by omega) (fun t ht ht2 => by rw [co_ge (l := g) (by omega), Int.zero_mul])]
     refine Sm_congr (fun t ht => ?_)
     rw [Nat.add_comm 1 t]
     congr 1
     have h1 : k - (t + 1) < (f.take k).length := by simp only [List.length_take]; omega
     unfold co
     rw [rd_lt h1, rd_lt (by omega), List.getElem_take]
    rw [e1, e2]
    have e3 : f[k] = co f k := (rd_lt (by omega)).symm
    rw [e3]
    have e4 : co g 0 = rd g 0 := rfl
    rw [e4]
    rcases hg with e | e <;> rw [e] <;> omega
   ·rw [if_neg c] at hQ
    cases hQ

/-- A product divided again. -/
theorem mul_divide {f g p : List Int} (h : mulR f g = (p, 0)) (hg : rd g 0 = 1 ∨ rd g 0 = -1) : divR p g = (f, 0) ∨ (divR p g).2 = 3 := by
 obtain ⟨hf, hgw, h2, h1⟩ := mulR_zero h
 obtain ⟨hpw, hi⟩ := prodR_facts f g hf hgw h2
 rw [h1] at hpw hi
 have hg0 := b_pos g hg
 unfold divR
 rw [if_pos ⟨hpw, hgw⟩, if_pos hg]
 rcases hi with ⟨e, rfl⟩ | ⟨e, rfl⟩ | ⟨hl, hm, hp, hc⟩
 ·rw [if_pos (show ([] : List Int).length = 0 from rfl), List.length_eq_zero_iff.1 e]
  exact Or.inl rfl
 ·omega
 ·rw [if_neg (by omega), if_pos (by omega)]
  unfold divC
  rw [show p.length + 1 - g.length = f.length by omega]
  cases hq : qs p g f.length with
  | none => exact Or.inr rfl
  | some Q =>
   have e := qs_mul hp hc hg hg0 f.length Q (Nat.le_refl _) hq
   rw [List.take_length] at e
   subst e
   simp only
   rw [trim_whole hf, if_pos h2, if_pos h1]
   exact Or.inl rfl

/-- A quotient multiplied again. -/
theorem divide_mul {a b q : List Int} (h : divR a b = (q, 0)) : mulR q b = (a, 0) := by
 unfold divR at h
 by_cases hw : whole a = true ∧ whole b = true
 ·rw [if_pos hw] at h
  by_cases hb : rd b 0 = 1 ∨ rd b 0 = -1
  ·rw [if_pos hb] at h
   by_cases h0 : a.length = 0
   ·rw [if_pos h0] at h
    rw [← (Prod.mk.inj h).1, List.length_eq_zero_iff.1 h0]
    unfold mulR
    rw [if_pos ⟨rfl, hw.2⟩, if_pos (show (prodR [] b).2 = true from rfl)]
    rfl
   ·rw [if_neg h0] at h
    by_cases hab : b.length ≤ a.length
    ·rw [if_pos hab] at h
     unfold divC at h
     cases hq : qs a b (a.length + 1 - b.length) with
     | none => rw [hq] at h; exact absurd (Prod.mk.inj h).2 (by decide)
     | some Q =>
      rw [hq] at h
      simp only at h
      by_cases c : (prodR (trimN Q Q.length) b).2 = true
      ·rw [if_pos c] at h
       by_cases d : (prodR (trimN Q Q.length) b).1 = a
       ·rw [if_pos d] at h
        rw [← (Prod.mk.inj h).1]
        obtain ⟨f1, f2⟩ := qs_form a b (whole_small hw.1) hb _ Q hq
        have hwq := whole_trim (q := Q) (by have := whole_length hw.1; have := b_pos b hb; omega) f2 Q.length (Nat.le_refl _)
        unfold mulR
        rw [if_pos ⟨hwq, hw.2⟩, if_pos c, d]
       ·rw [if_neg d] at h
        exact absurd (Prod.mk.inj h).2 (by decide)
      ·rw [if_neg c] at h
       exact absurd (Prod.mk.inj h).2 (by decide)
    ·rw [if_neg hab] at h
     exact absurd (Prod.mk.inj h).2 (by decide)
  ·rw [if_neg hb] at h
   exact absurd (Prod.mk.inj h).2 (by decide)
 ·rw [if_neg hw] at h
  exact absurd (Prod.mk.inj h).2 (by decide)

theorem co_trim (l : List Int) : ∀ (i : Nat), i ≤ l.length → ∀ j, j < i → co (trimN l i) j = co l j := by
 intro i
 induction i with
 | zero => intro _ j hj; omega
 | succ i ih =>
  intro hi j hj
  unfold trimN
  by_cases c : rd l (i : Int) = 0
  ·rw [if_pos c]
   rcases Nat.lt_or_eq_of_le (Nat.le_of_lt_succ hj) with h | h
   ·exact ih (by omega) j h
   ·subst h
    rw [show co l j = 0 from c]
    have e : ∀ k, (trimN l k).length ≤ k := by
     intro k
     induction k with
     | zero => exact Nat.le_refl _
     | succ k ih =>
      unfold trimN
      split
      ·omega
      ·simp only [List.length_take]; omega
    exact co_ge (e j)
  ·rw [if_neg c]
   unfold co
   rw [rd_lt (by simp only [List.length_take]; omega), rd_lt (by omega), List.getElem_take]

theorem ch_zero (n : Nat) (a : Nat → Nat → Int) : ch n a 0 = 1 := (dc_zero n idm (ng a)).trans (det_idm n)

theorem ch_one (n : Nat) (a : Nat → Nat → Int) : ch n a 1 = - Sm n (fun i => a i i) := by
 have h := newton n a 0 (by omega)
 have e : tn n a 0 = Sm n (fun i => a i i) := by
  unfold tn
  refine Sm_congr (fun k hk => ?_)
  rw [Sm_congr (g := fun i => (if i = k then 1 else 0) * a i k) (fun i hi => ?_), Sm_pick' n (fun i => a i k) hk]
  rw [nc_step n a 0 k i hk hi, if_pos rfl, Int.zero_add]
  by_cases c : k = i
  ·rw [if_pos c, if_pos c.symm, ch_zero]
  ·rw [if_neg c, if_neg (fun x => c x.symm)]
 rw [e] at h
 have e2 : ((0 + 1 : Nat) : Int) = 1 := rfl
 rw [e2, Int.one_mul] at h
 exact h

/-- Determinants begin with 1, and tell the trace. -/
theorem det_trace {l : List (List Int)} {r : List Int} (h : detR l = (r, 0)) : Sq l.length l ∧ l.length ≤ 8 ∧ 0 < r.length ∧ co r 0 = 1 ∧ co r 1 = - Sm l.length (fun i => mat l i i) ∧ ∀ i j, i < l.length → j < l.length → -20 ≤ mat l i j ∧ mat l i j ≤ 20 := by
 unfold detR at h
 by_cases h8 : l.length ≤ 8
 ·rw [if_pos h8] at h
  by_cases hg : l.all (goodRow l.length) = true
  ·rw [if_pos hg] at h
   obtain ⟨h1, h2⟩ := fit_all hg
   have e := (Prod.mk.inj h).1
   have hlen : (chL l.length (mat l) (l.length + 1)).length = l.length + 1 := rowOf_length _ _
   have hc := co_trim (chL l.length (mat l) (l.length + 1)) (l.length + 1) (by omega)
   rw [e] at hc
   have c0 : co r 0 = 1 := by
    rw [hc 0 (by omega)]
    show rd (rowOf _ _) ((0 : Nat) : Int) = 1
    rw [rowOf_rd _ (by omega), ch_zero]
    exact wrap_id (by decide) (by decide)
   refine ⟨h1, h8, ?_, c0, ?_, h2⟩
   ·rcases Nat.eq_zero_or_pos r.length with x | x
    ·rw [co_ge (by omega)] at c0
     exact absurd c0 (by decide)
    ·exact x
   ·rcases Nat.eq_zero_or_pos l.length with x | x
    ·have : r.length ≤ 1 := by
      have h3 : ∀ k, (trimN (chL l.length (mat l) (l.length + 1)) k).length ≤ (chL l.length (mat l) (l.length + 1)).length := fun k => trimN_length _ _
      have h4 := h3 (l.length + 1)
      rw [e] at h4
      omega
     rw [co_ge (by omega), x]
     rfl
    ·rw [hc 1 (by omega)]
     show rd (rowOf _ _) ((1 : Nat) : Int) = _
     rw [rowOf_rd _ (by omega), ch_one]
     have b1 : Sm l.length (fun i => mat l i i) ≤ l.length * 20 := Sm_le (fun i hi => (h2 i i hi hi).2)
     have b2 : Sm l.length (fun i => - mat l i i) ≤ l.length * 20 := Sm_le (fun i hi => by have := (h2 i i hi hi).1; omega)
     have b3 : Sm l.length (fun i => - mat l i i) = - Sm l.length (fun i => mat l i i) := by
      have := Sm_mul_left l.length (-1) (fun i => mat l i i)
      rw [Sm_congr (g := fun i => - mat l i i) (fun i _ => by omega)] at this
      omega
     exact wrap_id (by omega) (by omega)
  ·rw [if_neg hg] at h
   exact absurd (Prod.mk.inj h).2 (by decide)
 ·rw [if_neg h8] at h
  exact absurd (Prod.mk.inj h).2 (by decide)
theorem likeInts_loop (a b : List Int) (hl : a.length ≤ 1048576) (hab : a.length = b.length) : ∀ (d i : Nat), i + d = a.length →
  Ev (fun k => laws_likeInts.l0 k a b (i : Int)) (decide (a.drop i = b.drop i)) := by
 intro d
 induction d with
 | zero =>
  intro i hi
  refine Ev.succ ?_; simp only [laws_likeInts.l0]
  rw [List.drop_eq_nil_of_le (by omega), List.drop_eq_nil_of_le (by omega)]
  repeat (first | with_reducible exact Ev.now _ | dsimp only | refine Ev.pos (by first | omega | rfl | assumption | decide) ?_ | refine Ev.neg (by first | omega | assumption | exact Bool.false_ne_true | exact fun e => absurd e (by decide)) ?_ | simp only [bne_self_eq_false, Bool.not_true, Bool.not_false, List.length_cons, List.length_nil] | rw [wrap_id (by omega) (by omega)] | ((with_reducible refine Ev.eq (congrArg some ?_)); rfl))
 | succ d ih =>
  intro i hi
  refine Ev.succ ?_; simp only [laws_likeInts.l0]
  rw [List.drop_eq_getElem_cons (by omega : i < a.length), List.drop_eq_getElem_cons (by omega : i < b.length), wrap_succ (by omega)]
  by_cases e : rd a i = rd b i
  ·repeat (first | with_reducible exact Ev.now _ | dsimp only | refine Ev.pos (by first | omega | rfl | assumption | decide) ?_ | refine Ev.neg (by first | omega | assumption | exact Bool.false_ne_true | exact fun e => absurd e (by decide)) ?_ | simp only [bne_self_eq_false, Bool.not_true, Bool.not_false, List.length_cons, List.length_nil] | rw [wrap_id (by omega) (by omega)] | ((with_reducible refine Ev.eq (congrArg some ?_)); rfl))
   have := ih (i + 1) (by omega)
   rw [rd_lt (by omega), rd_lt (by omega)] at e
   rw [e, decide_cons]
   exact this
  ·rw [decide_eq_false (fun h => e (by rw [rd_lt (by omega), rd_lt (by omega)]; exact (List.cons.inj h).1))]
   repeat (first | with_reducible exact Ev.now _ | dsimp only | refine Ev.pos (by first | omega | rfl | assumption | decide) ?_ | refine Ev.neg (by first | omega | assumption | exact Bool.false_ne_true | exact fun e => absurd e (by decide)) ?_ | simp only [bne_self_eq_false, Bool.not_true, Bool.not_false, List.length_cons, List.length_nil] | rw [wrap_id (by omega) (by omega)] | ((with_reducible refine Ev.eq (congrArg some ?_)); rfl))

theorem likeInts_self (a : List Int) (hl : a.length ≤ 1048576) : Ev (fun k => laws_likeInts.f k a a) true := by
 unfold laws_likeInts.f
 refine Ev.pos rfl ?_
 have := likeInts_loop a a hl rfl a.length 0 (by omega)
 rw [decide_eq_true rfl] at this
 exact this

section
variable {c : List Int} (hc : Code c)
include hc

theorem wh9 : Ev (fun k => laws_FnWholePolynomials.j9 k c) true := by
 refine Ev.succ ?_; simp only [laws_FnWholePolynomials.j9]
 obtain ⟨⟨f, g, t⟩, hd, hf, hg⟩ := drawAdd_ex hc
 simp only at hf hg
 obtain ⟨r, hr, hs, hi⟩ := add_same f g t (by omega) (by omega)
 obtain ⟨⟨e, x⟩, hd2, he⟩ := drawValue_ex hc
 simp only at he
 obtain ⟨vs, vi⟩ := value_is e x (by omega)
 obtain ⟨h, hd3, hh⟩ := drawDerivative_ex hc
 obtain ⟨r2, hr2, hs2, hi2⟩ := der_same h (by omega)
 refine Ev.bind hd (Ev.bind hi (Ev.bind hs (Ev.bind hd2 (Ev.bind vi (Ev.bind vs (Ev.bind hd3 (Ev.bind hi2 (Ev.bind hs2 ?_))))))))
 refine Ev.pos rfl (Ev.bind (likeInts_self r.1 hr) (Ev.pos rfl (Ev.pos rfl (Ev.pos rfl (Ev.pos rfl ?_)))))
 exact Ev.bind (likeInts_self r2.1 hr2) (Ev.now _)

theorem wh_trace (l : List (List Int)) (t : List Int) (h8 : l.length ≤ 8) (hsq : Sq l.length l) (hent : ∀ i j, i < l.length → j < l.length → -20 ≤ mat l i j ∧ mat l i j ≤ 20) (ht : 0 < t.length) (h0 : co t 0 = 1) (h1 : co t 1 = - Sm l.length (fun i => mat l i i)) : ∀ (d i : Nat), i + d = l.length → Ev (fun k => laws_FnWholePolynomials.l0 k c l t (Sm i (fun i => mat l i i)) 0 (i : Int)) true := by
 have hb : ∀ i, i ≤ l.length → -160 ≤ Sm i (fun i => mat l i i) ∧ Sm i (fun i => mat l i i) ≤ 160 := fun i hi => by
  have b1 : Sm i (fun i => mat l i i) ≤ i * 20 := Sm_le (fun j hj => (hent j j (by omega) (by omega)).2)
  have b2 : Sm i (fun i => - mat l i i) ≤ i * 20 := Sm_le (fun j hj => by have := (hent j j (by omega) (by omega)).1; omega)
  have b3 : Sm i (fun i => - mat l i i) = - Sm i (fun i => mat l i i) := by
   have := Sm_mul_left i (-1) (fun i => mat l i i)
   rw [Sm_congr (g := fun i => - mat l i i) (fun i _ => by omega)] at this
   omega
  omega
 intro d
 induction d with
 | zero =>
  intro i hi
  have e : i = l.length := by omega
  subst e
  have hbl := hb l.length (Nat.le_refl _)
  refine Ev.succ ?_; simp only [laws_FnWholePolynomials.l0]
  refine Ev.neg (by omega) ?_
  have e0 : rd t 0 = 1 := h0
  have e1 : rd t 1 = - Sm l.length (fun i => mat l i i) := h1
  have ew : wrap64 (-Sm l.length (fun i => mat l i i)) = -Sm l.length (fun i => mat l i i) := wrap_id (by omega) (by omega)
  by_cases h2 : (t.length : Int) > 1
  ·refine Ev.pos h2 (Ev.pos (by omega) (Ev.neg (by omega) (Ev.pos (by omega) (Ev.pos e0 (Ev.pos ?_ (wh9 hc))))))
   rw [e1, ew]
  ·refine Ev.neg h2 (Ev.neg (by omega) (Ev.pos (by omega) (Ev.pos e0 (Ev.pos ?_ (wh9 hc)))))
   rw [ew, ← e1]
   exact (rd_ge (xs := t) (i := 1) (by omega)).symm
 | succ d ih =>
  intro i hi
  have hrow := hsq.2 i (by omega)
  have hbl := hb i (by omega)
  have hbl2 := hb (i + 1) (by omega)
  refine Ev.succ ?_; simp only [laws_FnWholePolynomials.l0]
  refine Ev.pos (by omega) (Ev.pos (by omega) (Ev.pos (by omega) ?_))
  have e : wrap64 (Sm i (fun i => mat l i i) + rd (rd_L2 l (i : Int)) (i : Int)) = Sm (i + 1) (fun i => mat l i i) := wrap_id (x := Sm (i + 1) (fun i => mat l i i)) (by omega) (by omega)
  rw [e, wrap_succ (by omega)]
  exact ih (i + 1) (by omega)

theorem wh6 : Ev (fun k => laws_FnWholePolynomials.j6 k c) true := by
 refine Ev.succ ?_; simp only [laws_FnWholePolynomials.j6]
 obtain ⟨l, hd, hl, hr⟩ := drawDet_ex hc
 have hm : Mod l := ⟨by omega, fun r h => by have := hr r h; omega⟩
 obtain ⟨hn, hs, hi⟩ := detw_is l hm
 refine Ev.bind hd (Ev.bind hi (Ev.bind hs (Ev.pos rfl (Ev.bind (likeInts_self _ hn) ?_))))
 refine Ev.succ ?_; simp only [laws_FnWholePolynomials.j7]
 refine Ev.neg (by decide) ?_
 by_cases h : (detR l).2 = 0
 ·obtain ⟨a1, a2, a3, a4, a5, a6⟩ := det_trace (l := l) (r := (detR l).1) (by rw [← h])
  exact Ev.pos h (wh_trace hc l (detR l).1 a2 a1 a6 a3 a4 a5 l.length 0 (by omega))
 ·exact Ev.neg h (wh9 hc)

theorem wh4 : Ev (fun k => laws_FnWholePolynomials.j4 k c) true := by
 refine Ev.succ ?_; simp only [laws_FnWholePolynomials.j4]
 obtain ⟨⟨a, b⟩, hd, ha, hb⟩ := drawDivide_ex hc
 simp only at ha hb
 obtain ⟨hr, hs, hi⟩ := divide_is a b (by omega) (by omega)
 refine Ev.bind hd (Ev.bind hi (Ev.bind hs (Ev.pos rfl (Ev.bind (likeInts_self _ hr) ?_))))
 refine Ev.succ ?_; simp only [laws_FnWholePolynomials.j5]
 refine Ev.neg (by decide) ?_
 by_cases h : (divR a b).2 = 0
 ·have hm := divide_mul (a := a) (b := b) (q := (divR a b).1) (by rw [← h])
  obtain ⟨mr, ms, mi⟩ := multiply_is (divR a b).1 b hr (by omega)
  rw [hm] at mi
  exact Ev.pos h (Ev.bind mi (Ev.pos rfl (Ev.bind (likeInts_self a (by omega)) (Ev.pos rfl (wh6 hc)))))
 ·exact Ev.neg h (wh6 hc)

theorem wh3 (f g p : List Int) (hf : f.length ≤ 101) (hg : g.length ≤ 101) (hp : p.length ≤ 1048576) (hm : mulR f g = (p, 0)) (b : Bool) (hb : b = true → rd g 0 = 1 ∨ rd g 0 = -1) : Ev (fun k => laws_FnWholePolynomials.j3 k c f g p b) true := by
 refine Ev.succ ?_; simp only [laws_FnWholePolynomials.j3]
 by_cases h : b = true
 ·obtain ⟨hr, hs, hi⟩ := divide_is p g hp (by omega)
  refine Ev.pos h (Ev.bind hi ?_)
  rcases mul_divide hm (hb h) with e | e
  ·rw [e]
   exact Ev.pos rfl (Ev.bind (likeInts_self f (by omega)) (Ev.pos rfl (Ev.neg (show ¬ (0 : Int) = 4 by decide) (wh4 hc))))
  ·exact Ev.neg (by rw [e]; decide) (Ev.neg (by rw [e]; decide) (wh4 hc))
 ·exact Ev.neg h (wh4 hc)

theorem wh2 (f g p : List Int) (hf : f.length ≤ 101) (hg : g.length ≤ 101) (hp : p.length ≤ 1048576) (hm : mulR f g = (p, 0)) : Ev (fun k => laws_FnWholePolynomials.j2 k c f g p false) true := by
 refine Ev.succ ?_; simp only [laws_FnWholePolynomials.j2]
 refine Ev.neg (by decide) ?_
 by_cases h : (g.length : Int) > 0
 ·refine Ev.pos h (Ev.pos h ?_)
  by_cases e : rd g 0 = 1
  ·exact Ev.pos e (wh3 hc f g p hf hg hp hm true (fun _ => Or.inl e))
  ·exact Ev.neg e (wh3 hc f g p hf hg hp hm _ (fun x => Or.inr (beq_iff_eq.1 x)))
 ·exact Ev.neg h (wh3 hc f g p hf hg hp hm false (fun x => absurd x (by decide)))

theorem wh1 (f g p : List Int) (hf : f.length ≤ 101) (hg : g.length ≤ 101) (hp : p.length ≤ 1048576) (hm : mulR f g = (p, 0)) (b : Bool) (hb : b = true → ((valR f (-1)).1 < 1000000 ∧ (valR f (-1)).1 > -1000000) ∧ ((valR g (-1)).1 < 1000000 ∧ (valR g (-1)).1 > -1000000)) :
  Ev (fun k => laws_FnWholePolynomials.j1 k c f g p (valR f (-1)).1 (valR f (-1)).2 (valR g (-1)).1 (valR g (-1)).2 (valR p (-1)).1 (valR p (-1)).2 b) true := by
 have last := wh2 hc f g p hf hg hp hm
 refine Ev.succ ?_; simp only [laws_FnWholePolynomials.j1]
 by_cases h1 : (valR f (-1)).2 = 0
 ·refine Ev.pos h1 ?_
  by_cases h2 : (valR g (-1)).2 = 0
  ·refine Ev.pos h2 ?_
   by_cases h3 : (valR p (-1)).2 = 0
   ·refine Ev.pos h3 ?_
    by_cases h4 : b = true
    ·refine Ev.pos h4 ?_
     have e := mul_value hm h1 h2 h3
     obtain ⟨hx, hy⟩ := hb h4
     have hab : ab ((valR f (-1)).1 * (valR g (-1)).1) ≤ 1000000 * 1000000 := by
      rw [ab_mul]
      have a1 : ab (valR f (-1)).1 ≤ 1000000 := by unfold ab; omega
      have a2 : ab (valR g (-1)).1 ≤ 1000000 := by unfold ab; omega
      exact Int.mul_le_mul a1 a2 (ab_nonneg _) (by decide)
     have ew : wrap64 ((valR f (-1)).1 * (valR g (-1)).1) = (valR p (-1)).1 := by
      rw [← e]
      unfold ab at hab
      exact wrap_id (by omega) (by omega)
     rw [ew, bne_self_eq_false]
     exact last
    ·exact Ev.neg h4 last
   ·exact Ev.neg h3 last
  ·exact Ev.neg h2 last
 ·exact Ev.neg h1 last

theorem wh0 (f g : List Int) (hf : f.length ≤ 101) (hg : g.length ≤ 101) : Ev (fun k => laws_FnWholePolynomials.j0 k c f g (mulR f g).1 (mulR f g).2 false) true := by
 refine Ev.succ ?_; simp only [laws_FnWholePolynomials.j0]
 refine Ev.neg (by decide) ?_
 by_cases h : (mulR f g).2 = 0
 ·have hm : mulR f g = ((mulR f g).1, 0) := by rw [← h]
  have hp := (multiply_is f g (by omega) (by omega)).1
  generalize (mulR f g).1 = p at hm hp
  refine Ev.pos h (Ev.bind (value_is f (-1) (by omega)).2 (Ev.bind (value_is g (-1) (by omega)).2 (Ev.bind (value_is p (-1) hp).2 ?_)))
  have no : Ev (fun k => laws_FnWholePolynomials.j1 k c f g p (valR f (-1)).1 (valR f (-1)).2 (valR g (-1)).1 (valR g (-1)).2 (valR p (-1)).1 (valR p (-1)).2 false) true := wh1 hc f g p hf hg hp hm false (fun x => absurd x (by decide))
  by_cases h1 : (valR f (-1)).1 < 1000000
  ·refine Ev.pos h1 ?_
   by_cases h2 : (valR f (-1)).1 > -1000000
   ·refine Ev.pos h2 ?_
    by_cases h3 : (valR g (-1)).1 < 1000000
    ·refine Ev.pos h3 ?_
     exact wh1 hc f g p hf hg hp hm _ (fun x => ⟨⟨h1, h2⟩, h3, of_decide_eq_true x⟩)
    ·exact Ev.neg h3 no
   ·exact Ev.neg h2 no
  ·exact Ev.neg h1 no
 ·exact Ev.neg h (wh4 hc)

end

theorem wf8 {x : Int} (h : (Lit.int .u8 x).wf = true) : 0 ≤ x ∧ x ≤ 255 := by
 simpa [Lit.wf, IntKind.min, IntKind.max, IntKind.signed, IntKind.bits] using h

theorem FnWholePolynomials : laws_FnWholePolynomials.Pure := by
 intro c _ hb
 refine Ev.rounds ?_
 unfold laws_FnWholePolynomials.f laws_big.f
 by_cases hbig : (c.length : Int) > 4096
 ·rw [decide_eq_true hbig]
  exact Ev.bind (Ev.now _) (Ev.pos rfl (Ev.now _))
 ·rw [decide_eq_false hbig]
  have hc : Code c := ⟨by omega, fun y hy => wf8 (hb y hy)⟩
  refine Ev.bind (Ev.now _) (Ev.neg (by decide) ?_)
  obtain ⟨⟨f, g⟩, hd, hf, hg⟩ := drawMultiply_ex hc
  simp only at hf hg
  obtain ⟨hr, hs, hi⟩ := multiply_is f g (by omega) (by omega)
  have w1 : Ev (fun k => spec_IsWhole.f k f) (whole f) := by
   unfold spec_IsWhole.f
   repeat (first | with_reducible exact Ev.now _ | dsimp only | with_reducible refine Ev.bind (specPoly f (by omega)) ?_ | refine Ev.pos (by first | omega | rfl | assumption | decide) ?_ | refine Ev.neg (by first | omega | assumption | exact Bool.false_ne_true | exact fun e => absurd e (by decide)) ?_ | simp only [bne_self_eq_false, Bool.not_true, Bool.not_false, List.length_cons, List.length_nil] | rw [wrap_id (by omega) (by omega)] | with_reducible exact (specPoly f (by omega)) | ((with_reducible refine Ev.eq (congrArg some ?_)); rfl))
  refine Ev.bind hd (Ev.bind hi (Ev.bind hs (Ev.pos rfl (Ev.bind (likeInts_self _ hr) (Ev.pos rfl (Ev.bind (implWhole f (by omega)) (Ev.bind w1 ?_)))))))
  rw [bne_self_eq_false]
  exact wh0 hc f g hf hg
end Go.Proofs.Ytkadhadceongiaa.Pure
