/- The plain proofs for this law. -/
import Derived.Test.YteeoehohocoecaaC3
import Derived.Test.YteeoehohocoecaaAux
namespace Go.Proofs.Yteeoehohocoecaa.Pure
open Go.RowKit Go.Proofs.Yteeoehohocoecaa.G Go.Proofs.YteeoehohocoecaaW.PrintWords Go.Proofs.YteeoehohocoecaaW.PrintLast Go.Proofs.YteeoehohocoecaaW.PrintMore Go.Proofs.Yteeoehohocoecaa.Aux
set_option linter.unusedVariables false
set_option linter.unusedSimpArgs false

theorem toInt64S_loop (l : List Int) (hl : l.length ≤ 1048576) : ∀ (d i : Nat) (ys : List Int), i + d = l.length → ys.length = l.length → ys.take i = l.take i →
    Ev (fun k => laws_toInt64S.l0 k l ys (i : Int)) l := by
  intro d
  induction d with
  | zero =>
    intro i ys hi hy ht
    refine Ev.succ ?_; simp only [laws_toInt64S.l0]
    repeat (first | with_reducible exact Ev.now _ | dsimp only | refine Ev.pos (by first | omega | rfl | assumption | decide) ?_ | refine Ev.neg (by first | omega | assumption | exact Bool.false_ne_true | exact fun e => absurd e (by decide)) ?_ | simp only [bne_self_eq_false, Bool.not_true, Bool.not_false, List.length_cons, List.length_nil] | rw [wrap_id (by omega) (by omega)] | ((with_reducible refine Ev.eq (congrArg some ?_)); rfl))
    exact Ev.eq (congrArg some (eq_of_take hy (by omega) ht))
  | succ d ih =>
    intro i ys hi hy ht
    refine Ev.succ ?_; simp only [laws_toInt64S.l0]
    rw [wrap_succ (by omega)]
    repeat (first | with_reducible exact Ev.now _ | dsimp only | refine Ev.pos (by first | omega | rfl | assumption | decide) ?_ | refine Ev.neg (by first | omega | assumption | exact Bool.false_ne_true | exact fun e => absurd e (by decide)) ?_ | simp only [bne_self_eq_false, Bool.not_true, Bool.not_false, List.length_cons, List.length_nil] | rw [wrap_id (by omega) (by omega)] | ((with_reducible refine Ev.eq (congrArg some ?_)); rfl))
    exact ih (i + 1) _ (by omega) (by simpa using hy) (take_set_succ hy (by omega) (rd_lt (by omega)) ht)

theorem toInt64S (l : List Int) (hl : l.length ≤ 1048576) : Ev (fun k => laws_toInt64S.f k l) l := by
  unfold laws_toInt64S.f
  repeat (first | with_reducible exact Ev.now _ | dsimp only | refine Ev.pos (by first | omega | rfl | assumption | decide) ?_ | refine Ev.neg (by first | omega | assumption | exact Bool.false_ne_true | exact fun e => absurd e (by decide)) ?_ | simp only [bne_self_eq_false, Bool.not_true, Bool.not_false, List.length_cons, List.length_nil] | rw [wrap_id (by omega) (by omega)] | ((with_reducible refine Ev.eq (congrArg some ?_)); rfl))
  exact toInt64S_loop l hl l.length 0 _ (by omega) (by simp) (by simp)

theorem eqInt64S_loop (a b : List Int) (hl : a.length ≤ 1048576) (hab : a.length = b.length) : ∀ (d i : Nat), i + d = a.length →
    Ev (fun k => laws_eqInt64S.l0 k a b (i : Int)) (decide (a.drop i = b.drop i)) := by
  intro d
  induction d with
  | zero =>
    intro i hi
    refine Ev.succ ?_; simp only [laws_eqInt64S.l0]
    rw [List.drop_eq_nil_of_le (by omega), List.drop_eq_nil_of_le (by omega)]
    repeat (first | with_reducible exact Ev.now _ | dsimp only | refine Ev.pos (by first | omega | rfl | assumption | decide) ?_ | refine Ev.neg (by first | omega | assumption | exact Bool.false_ne_true | exact fun e => absurd e (by decide)) ?_ | simp only [bne_self_eq_false, Bool.not_true, Bool.not_false, List.length_cons, List.length_nil] | rw [wrap_id (by omega) (by omega)] | ((with_reducible refine Ev.eq (congrArg some ?_)); rfl))
  | succ d ih =>
    intro i hi
    refine Ev.succ ?_; simp only [laws_eqInt64S.l0]
    rw [List.drop_eq_getElem_cons (by omega : i < a.length), List.drop_eq_getElem_cons (by omega : i < b.length), wrap_succ (by omega)]
    by_cases e : rd a i = rd b i
    · repeat (first | with_reducible exact Ev.now _ | dsimp only | refine Ev.pos (by first | omega | rfl | assumption | decide) ?_ | refine Ev.neg (by first | omega | assumption | exact Bool.false_ne_true | exact fun e => absurd e (by decide)) ?_ | simp only [bne_self_eq_false, Bool.not_true, Bool.not_false, List.length_cons, List.length_nil] | rw [wrap_id (by omega) (by omega)] | ((with_reducible refine Ev.eq (congrArg some ?_)); rfl))
      have := ih (i + 1) (by omega)
      rw [rd_lt (by omega), rd_lt (by omega)] at e
      rw [e, decide_cons]
      exact this
    · rw [decide_eq_false (fun h => e (by rw [rd_lt (by omega), rd_lt (by omega)]; exact (List.cons.inj h).1))]
      repeat (first | with_reducible exact Ev.now _ | dsimp only | refine Ev.pos (by first | omega | rfl | assumption | decide) ?_ | refine Ev.neg (by first | omega | assumption | exact Bool.false_ne_true | exact fun e => absurd e (by decide)) ?_ | simp only [bne_self_eq_false, Bool.not_true, Bool.not_false, List.length_cons, List.length_nil] | rw [wrap_id (by omega) (by omega)] | ((with_reducible refine Ev.eq (congrArg some ?_)); rfl))

theorem eqInt64S (a b : List Int) (hl : a.length ≤ 1048576) : Ev (fun k => laws_eqInt64S.f k a b) (decide (a = b)) := by
  unfold laws_eqInt64S.f
  by_cases h : a.length = b.length
  · repeat (first | with_reducible exact Ev.now _ | dsimp only | refine Ev.pos (by first | omega | rfl | assumption | decide) ?_ | refine Ev.neg (by first | omega | assumption | exact Bool.false_ne_true | exact fun e => absurd e (by decide)) ?_ | simp only [bne_self_eq_false, Bool.not_true, Bool.not_false, List.length_cons, List.length_nil] | rw [wrap_id (by omega) (by omega)] | ((with_reducible refine Ev.eq (congrArg some ?_)); rfl))
    exact eqInt64S_loop a b hl h a.length 0 (by omega)
  · rw [decide_eq_false (fun e => h (by rw [e]))]
    repeat (first | with_reducible exact Ev.now _ | dsimp only | refine Ev.pos (by first | omega | rfl | assumption | decide) ?_ | refine Ev.neg (by first | omega | assumption | exact Bool.false_ne_true | exact fun e => absurd e (by decide)) ?_ | simp only [bne_self_eq_false, Bool.not_true, Bool.not_false, List.length_cons, List.length_nil] | rw [wrap_id (by omega) (by omega)] | ((with_reducible refine Ev.eq (congrArg some ?_)); rfl))

theorem eqInt64S_self (a : List Int) (hl : a.length ≤ 1048576) : Ev (fun k => laws_eqInt64S.f k a a) true :=
  Ev.conv (eqInt64S a a hl) (by simp)
theorem rl_lt {xs : List (List Int)} {i : Nat} (h : i < xs.length) : rd_L1 xs (i : Int) = xs[i] := by
  simp [rd_L1, List.getD_eq_getElem?_getD, h]

/-- Rows of which each, and their number, is of a moderate size. -/
def Mod (l : List (List Int)) : Prop := l.length ≤ 1048576 ∧ ∀ r ∈ l, r.length ≤ 1048576

theorem Mod.row {l : List (List Int)} (h : Mod l) {i : Nat} (hi : i < l.length) : l[i].length ≤ 1048576 := h.2 _ (List.getElem_mem hi)

theorem markInt64S_loop (n : Nat) (hn : n ≤ 1048576) (a : Int) (h0 : 0 ≤ a) (h1 : a ≤ 1125899906842624) : ∀ (d i : Nat) (ys : List Int), i + d = n → ys.length = n → ys.take i = (marks a n).take i →
    Ev (fun k => laws_markInt64S.l0 k ys (a + i) (i : Int)) (a + n, marks a n) := by
  intro d
  induction d with
  | zero =>
    intro i ys hi hy ht
    refine Ev.succ ?_; simp only [laws_markInt64S.l0]
    rw [show ys = marks a n from eq_of_take (by rw [hy, marks_length]) (by rw [marks_length]; omega) ht, show i = n by omega]
    have := marks_length a n
    repeat (first | with_reducible exact Ev.now _ | dsimp only | refine Ev.pos (by first | omega | rfl | assumption | decide) ?_ | refine Ev.neg (by first | omega | assumption | exact Bool.false_ne_true | exact fun e => absurd e (by decide)) ?_ | simp only [bne_self_eq_false, Bool.not_true, Bool.not_false, List.length_cons, List.length_nil] | rw [wrap_id (by omega) (by omega)] | ((with_reducible refine Ev.eq (congrArg some ?_)); rfl))
  | succ d ih =>
    intro i ys hi hy ht
    refine Ev.succ ?_; simp only [laws_markInt64S.l0]
    rw [wrap_succ (by omega), wrap_id (x := a + i + 1) (by omega) (by omega)]
    repeat (first | with_reducible exact Ev.now _ | dsimp only | refine Ev.pos (by first | omega | rfl | assumption | decide) ?_ | refine Ev.neg (by first | omega | assumption | exact Bool.false_ne_true | exact fun e => absurd e (by decide)) ?_ | simp only [bne_self_eq_false, Bool.not_true, Bool.not_false, List.length_cons, List.length_nil] | rw [wrap_id (by omega) (by omega)] | ((with_reducible refine Ev.eq (congrArg some ?_)); rfl))
    have := ih (i + 1) (ys.set i (a + i)) (by omega) (by simpa using hy) (take_set_succ (by rw [hy, marks_length]) (by rw [marks_length]; omega) (marks_get a n i (by rw [marks_length]; omega)).symm ht)
    rw [show a + ((i + 1 : Nat) : Int) = a + i + 1 by omega] at this
    exact this

theorem markInt64S (l : List Int) (hl : l.length ≤ 1048576) (a : Int) (h0 : 0 ≤ a) (h1 : a ≤ 1125899906842624) : Ev (fun k => laws_markInt64S.f k l a) (a + l.length, marks a l.length) := by
  unfold laws_markInt64S.f
  have := markInt64S_loop l.length hl a h0 h1 l.length 0 l (by omega) rfl (by simp)
  rw [show a + ((0 : Nat) : Int) = a by omega] at this
  exact this

theorem heldInt64S_loop (n : Nat) (hn : n ≤ 1048576) (a : Int) (h0 : 0 ≤ a) (h1 : a ≤ 1125899906842624) : ∀ (d i : Nat), i + d = n →
    Ev (fun k => laws_heldInt64S.l0 k (marks a n) (a + i) (i : Int)) (a + n) := by
  have hm := marks_length a n
  intro d
  induction d with
  | zero =>
    intro i hi
    refine Ev.succ ?_; simp only [laws_heldInt64S.l0]
    rw [show i = n by omega]
    repeat (first | with_reducible exact Ev.now _ | dsimp only | refine Ev.pos (by first | omega | rfl | assumption | decide) ?_ | refine Ev.neg (by first | omega | assumption | exact Bool.false_ne_true | exact fun e => absurd e (by decide)) ?_ | simp only [bne_self_eq_false, Bool.not_true, Bool.not_false, List.length_cons, List.length_nil] | rw [wrap_id (by omega) (by omega)] | ((with_reducible refine Ev.eq (congrArg some ?_)); rfl))
  | succ d ih =>
    intro i hi
    refine Ev.succ ?_; simp only [laws_heldInt64S.l0]
    rw [wrap_succ (by omega), wrap_id (x := a + i + 1) (by omega) (by omega)]
    have e := marks_get a n i (by omega)
    rw [← rd_lt] at e
    have := ih (i + 1) (by omega)
    rw [show a + ((i + 1 : Nat) : Int) = a + i + 1 by omega] at this
    repeat (first | with_reducible exact Ev.now _ | dsimp only | refine Ev.pos (by first | omega | rfl | assumption | decide) ?_ | refine Ev.neg (by first | omega | assumption | exact Bool.false_ne_true | exact fun e => absurd e (by decide)) ?_ | simp only [bne_self_eq_false, Bool.not_true, Bool.not_false, List.length_cons, List.length_nil] | rw [wrap_id (by omega) (by omega)] | ((with_reducible refine Ev.eq (congrArg some ?_)); rfl))
    exact this

theorem heldInt64S (a : Int) (n : Nat) (hn : n ≤ 1048576) (h0 : 0 ≤ a) (h1 : a ≤ 1125899906842624) : Ev (fun k => laws_heldInt64S.f k (marks a n) a) (a + n) := by
  unfold laws_heldInt64S.f
  have := heldInt64S_loop n hn a h0 h1 n 0 (by omega)
  rw [show a + ((0 : Nat) : Int) = a by omega] at this
  exact this
def small (x : Int) : Bool := decide (-1000000000000000 ≤ x ∧ x ≤ 1000000000000000)

def whole (l : List Int) : Bool := l.all small && decide (l.length ≤ 40) && (l.getLast? != some 0)

theorem specIn (a b c : Int) : spec_l01In.f a b c = some (decide (b ≤ a ∧ a ≤ c)) := by
  unfold spec_l01In.f
  by_cases h : b ≤ a
  · rw [if_pos h]; simp [h]
  · rw [if_neg h]; simp [h]

theorem implWithin (a b c : Int) : impl_within.f a b c = some (decide (b ≤ a ∧ a ≤ c)) := by
  unfold impl_within.f
  by_cases h : b ≤ a
  · rw [if_pos h]; simp [h]
  · rw [if_neg h]; simp [h]

theorem implSmall (x : Int) : impl_isSmall.f x = some (small x) := by
  unfold impl_isSmall.f
  rw [implWithin]
  rfl

theorem last_rd (l : List Int) (h : l ≠ []) : rd l ((l.length : Int) - 1) = l.getLast h := by
  have hp := List.length_pos_iff.2 h
  have : (l.length : Int) - 1 = ((l.length - 1 : Nat) : Int) := by omega
  rw [this, rd_lt (by omega), List.getLast_eq_getElem]

theorem end_test (l : List Int) (hl : l.length ≤ 1048576) : Ev (fun _ => (if (l.length : Int) ≤ 40 then (if (l.length : Int) = 0 then (some true) else (if 0 ≤ (wrap64 ((l.length : Int) - 1)) then (if (wrap64 ((l.length : Int) - 1)) < (l.length : Int) then (some ((rd l (wrap64 ((l.length : Int) - 1))) != 0)) else (none)) else (none))) else (some false)))
    (decide (l.length ≤ 40) && (l.getLast? != some 0)) := by
  by_cases h40 : (l.length : Int) ≤ 40
  · rw [decide_eq_true (show l.length ≤ 40 by omega), Bool.true_and]
    by_cases h0 : (l.length : Int) = 0
    · have : l = [] := List.length_eq_zero_iff.1 (by omega)
      subst this
      exact Ev.now _
    · have hne : l ≠ [] := fun e => h0 (by rw [e]; rfl)
      rw [wrap_id (by omega) (by omega), last_rd l hne, List.getLast?_eq_some_getLast hne]
      have : (some (l.getLast hne) != some 0) = (l.getLast hne != 0) := rfl
      rw [this]
      repeat (first | with_reducible exact Ev.now _ | dsimp only | refine Ev.pos (by first | omega | rfl | assumption | decide) ?_ | refine Ev.neg (by first | omega | assumption | exact Bool.false_ne_true | exact fun e => absurd e (by decide)) ?_ | simp only [bne_self_eq_false, Bool.not_true, Bool.not_false, List.length_cons, List.length_nil] | rw [wrap_id (by omega) (by omega)] | ((with_reducible refine Ev.eq (congrArg some ?_)); rfl))
  · rw [decide_eq_false (show ¬ l.length ≤ 40 by omega), Bool.false_and]
    repeat (first | with_reducible exact Ev.now _ | dsimp only | refine Ev.pos (by first | omega | rfl | assumption | decide) ?_ | refine Ev.neg (by first | omega | assumption | exact Bool.false_ne_true | exact fun e => absurd e (by decide)) ?_ | simp only [bne_self_eq_false, Bool.not_true, Bool.not_false, List.length_cons, List.length_nil] | rw [wrap_id (by omega) (by omega)] | ((with_reducible refine Ev.eq (congrArg some ?_)); rfl))

theorem specPoly_loop (l : List Int) (hl : l.length ≤ 1048576) : ∀ (d i : Nat), i + d = l.length →
    Ev (fun k => spec_l01Poly.l0 k l (i : Int)) ((l.drop i).all small && (decide (l.length ≤ 40) && (l.getLast? != some 0))) := by
  intro d
  induction d with
  | zero =>
    intro i hi
    refine Ev.succ ?_; simp only [spec_l01Poly.l0]
    rw [List.drop_eq_nil_of_le (by omega), List.all_nil, Bool.true_and]
    refine Ev.neg (by omega) ?_
    exact end_test l hl
  | succ d ih =>
    intro i hi
    refine Ev.succ ?_; simp only [spec_l01Poly.l0]
    rw [List.drop_eq_getElem_cons (by omega : i < l.length), List.all_cons, rd_lt (by omega), wrap_succ (by omega), specIn]
    have := ih (i + 1) (by omega)
    by_cases h : small l[i] = true
    · rw [h, Bool.true_and]
      unfold small at h
      repeat (first | with_reducible exact Ev.now _ | dsimp only | with_reducible refine Ev.bind (Ev.eq (congrArg some h)) ?_ | refine Ev.pos (by first | omega | rfl | assumption | decide) ?_ | refine Ev.neg (by first | omega | assumption | exact Bool.false_ne_true | exact fun e => absurd e (by decide)) ?_ | simp only [bne_self_eq_false, Bool.not_true, Bool.not_false, List.length_cons, List.length_nil] | rw [wrap_id (by omega) (by omega)] | with_reducible exact (Ev.eq (congrArg some h)) | ((with_reducible refine Ev.eq (congrArg some ?_)); rfl))
      exact this
    · rw [Bool.not_eq_true] at h
      rw [h, Bool.false_and, Bool.false_and]
      unfold small at h
      repeat (first | with_reducible exact Ev.now _ | dsimp only | with_reducible refine Ev.bind (Ev.eq (congrArg some h)) ?_ | refine Ev.pos (by first | omega | rfl | assumption | decide) ?_ | refine Ev.neg (by first | omega | assumption | exact Bool.false_ne_true | exact fun e => absurd e (by decide)) ?_ | simp only [bne_self_eq_false, Bool.not_true, Bool.not_false, List.length_cons, List.length_nil] | rw [wrap_id (by omega) (by omega)] | with_reducible exact (Ev.eq (congrArg some h)) | ((with_reducible refine Ev.eq (congrArg some ?_)); rfl))

theorem specPoly (l : List Int) (hl : l.length ≤ 1048576) : Ev (fun k => spec_l01Poly.f k l) (whole l) := by
  unfold spec_l01Poly.f whole
  rw [Bool.and_assoc]
  exact specPoly_loop l hl l.length 0 (by omega)

theorem implWhole_loop (l : List Int) (hl : l.length ≤ 1048576) : ∀ (d i : Nat), i + d = l.length →
    Ev (fun k => impl_IsWhole.l0 k l l (l.length : Int) (i : Int)) ((l.drop i).all small && (decide (l.length ≤ 40) && (l.getLast? != some 0))) := by
  intro d
  induction d with
  | zero =>
    intro i hi
    refine Ev.succ ?_; simp only [impl_IsWhole.l0]
    rw [List.drop_eq_nil_of_le (by omega), List.all_nil, Bool.true_and]
    refine Ev.neg (by omega) ?_
    exact end_test l hl
  | succ d ih =>
    intro i hi
    refine Ev.succ ?_; simp only [impl_IsWhole.l0]
    rw [List.drop_eq_getElem_cons (by omega : i < l.length), List.all_cons, rd_lt (by omega), wrap_succ (by omega), implSmall]
    have := ih (i + 1) (by omega)
    by_cases h : small l[i] = true
    · rw [h, Bool.true_and]
      repeat (first | with_reducible exact Ev.now _ | dsimp only | with_reducible refine Ev.bind (Ev.now _) ?_ | refine Ev.pos (by first | omega | rfl | assumption | decide) ?_ | refine Ev.neg (by first | omega | assumption | exact Bool.false_ne_true | exact fun e => absurd e (by decide)) ?_ | simp only [bne_self_eq_false, Bool.not_true, Bool.not_false, List.length_cons, List.length_nil] | rw [wrap_id (by omega) (by omega)] | with_reducible exact (Ev.now _) | ((with_reducible refine Ev.eq (congrArg some ?_)); rfl))
      exact this
    · rw [Bool.not_eq_true] at h
      rw [h, Bool.false_and, Bool.false_and]
      repeat (first | with_reducible exact Ev.now _ | dsimp only | with_reducible refine Ev.bind (Ev.now _) ?_ | refine Ev.pos (by first | omega | rfl | assumption | decide) ?_ | refine Ev.neg (by first | omega | assumption | exact Bool.false_ne_true | exact fun e => absurd e (by decide)) ?_ | simp only [bne_self_eq_false, Bool.not_true, Bool.not_false, List.length_cons, List.length_nil] | rw [wrap_id (by omega) (by omega)] | with_reducible exact (Ev.now _) | ((with_reducible refine Ev.eq (congrArg some ?_)); rfl))

theorem implWhole (l : List Int) (hl : l.length ≤ 1048576) : Ev (fun k => impl_IsWhole.f k l) (whole l) := by
  unfold impl_IsWhole.f whole
  rw [Bool.and_assoc]
  exact implWhole_loop l hl l.length 0 (by omega)

theorem whole_small {l : List Int} (h : whole l = true) : ∀ x ∈ l, -1000000000000000 ≤ x ∧ x ≤ 1000000000000000 := by
  unfold whole at h
  rw [Bool.and_eq_true, Bool.and_eq_true, List.all_eq_true] at h
  intro x hx
  exact decide_eq_true_iff.1 (h.1.1 x hx)

theorem whole_length {l : List Int} (h : whole l = true) : l.length ≤ 40 := by
  unfold whole at h
  rw [Bool.and_eq_true, Bool.and_eq_true] at h
  exact decide_eq_true_iff.1 h.1.2

theorem whole_last {l : List Int} (h : whole l = true) : l.getLast? ≠ some 0 := by
  unfold whole at h
  rw [Bool.and_eq_true] at h
  exact bne_iff_ne.1 h.2
def big : Int := 1000000000000000

/-- a + b * c, and whether product and sum are small. -/
def more (a b c : Int) : Int × Bool := if -big ≤ b * c ∧ b * c ≤ big then (a + b * c, small (a + b * c)) else (0, false)

theorem mx_abs {a : Int} (h : -big ≤ a ∧ a ≤ big) : mx a (wrap64 (-a)) = a.natAbs := by
  unfold big at h
  rw [wrap_id (by omega) (by omega)]
  unfold mx
  split <;> omega

theorem guard_iff {b c : Int} (hb : b ≠ 0) : ¬ ((c.natAbs : Int) > big.tdiv (b.natAbs : Int)) ↔ (-big ≤ b * c ∧ b * c ≤ big) := by
  have hp : (0 : Int) < (b.natAbs : Int) := by omega
  rw [Int.tdiv_eq_ediv_of_nonneg (by decide), Int.not_lt, Int.le_ediv_iff_mul_le hp]
  have : (c.natAbs : Int) * (b.natAbs : Int) = ((b * c).natAbs : Int) := by
    rw [Int.natAbs_mul]
    push_cast
    exact Int.mul_comm _ _
  rw [this]
  omega

theorem div_small {b : Int} : wrap64 (big.tdiv (b.natAbs : Int)) = big.tdiv (b.natAbs : Int) := by
  have h1 : big.tdiv (b.natAbs : Int) = big / (b.natAbs : Int) := Int.tdiv_eq_ediv_of_nonneg (by decide)
  have h2 : big / (b.natAbs : Int) ≤ big := Int.ediv_le_self _ (by decide)
  have h3 : 0 ≤ big / (b.natAbs : Int) := Int.ediv_nonneg (by decide) (by omega)
  rw [h1]
  unfold big at *
  exact wrap_id (by omega) (by omega)

theorem sum_wrap {a p : Int} (ha : -big ≤ a ∧ a ≤ big) (hp : -big ≤ p ∧ p ≤ big) : wrap64 (a + wrap64 p) = a + p := by
  unfold big at *
  rw [wrap_id (x := p) (by omega) (by omega), wrap_id (by omega) (by omega)]

theorem specMore {a b c : Int} (ha : -big ≤ a ∧ a ≤ big) (hb : -big ≤ b ∧ b ≤ big) (hc : -big ≤ c ∧ c ≤ big) : spec_l01More.f a b c = some (more a b c) := by
  unfold spec_l01More.f more
  by_cases h0 : b = 0
  · subst h0
    rw [if_pos rfl, Int.zero_mul, if_pos (by decide), sum_wrap ha (by decide), specIn]
    rfl
  · rw [if_neg h0, mx_abs hb, mx_abs hc, if_neg (by omega)]
    rw [show (1000000000000000 : Int) = big from rfl, div_small (b := b)]
    by_cases h : -big ≤ b * c ∧ b * c ≤ big
    · rw [if_neg ((guard_iff h0).2 h), if_pos h, sum_wrap ha h, specIn]
      rfl
    · rw [if_pos (Decidable.not_not.1 (fun g => h ((guard_iff h0).1 g))), if_neg h]

theorem implTimes {a b c : Int} (ha : -big ≤ a ∧ a ≤ big) (hb : -big ≤ b ∧ b ≤ big) (hc : -big ≤ c ∧ c ≤ big) : Ev (fun k => impl_plusTimes.f k a b c) (more a b c) := by
  have hs : small a = true := decide_eq_true ha
  unfold impl_plusTimes.f
  by_cases h0 : b = 0
  · refine Ev.pos h0 ?_
    refine Ev.succ ?_; simp only [impl_plusTimes.j0]
    subst h0
    unfold more
    rw [Int.zero_mul, if_pos (by decide), Int.add_zero, hs]
    repeat (first | with_reducible exact Ev.now _ | dsimp only | refine Ev.pos (by first | omega | rfl | assumption | decide) ?_ | refine Ev.neg (by first | omega | assumption | exact Bool.false_ne_true | exact fun e => absurd e (by decide)) ?_ | simp only [bne_self_eq_false, Bool.not_true, Bool.not_false, List.length_cons, List.length_nil] | rw [wrap_id (by omega) (by omega)] | ((with_reducible refine Ev.eq (congrArg some ?_)); rfl))
  · refine Ev.neg h0 ?_
    refine Ev.succ ?_; simp only [impl_plusTimes.j0]
    by_cases h1 : c = 0
    · subst h1
      unfold more
      rw [Int.mul_zero, if_pos (by decide), Int.add_zero, hs]
      repeat (first | with_reducible exact Ev.now _ | dsimp only | refine Ev.pos (by first | omega | rfl | assumption | decide) ?_ | refine Ev.neg (by first | omega | assumption | exact Bool.false_ne_true | exact fun e => absurd e (by decide)) ?_ | simp only [bne_self_eq_false, Bool.not_true, Bool.not_false, List.length_cons, List.length_nil] | rw [wrap_id (by omega) (by omega)] | ((with_reducible refine Ev.eq (congrArg some ?_)); rfl))
    · rw [show (c == 0) = false from beq_eq_false_iff_ne.2 h1]
      refine Ev.neg (by decide) ?_
      unfold impl_absolute.f
      rw [mx_abs hb, mx_abs hc]
      repeat (first | with_reducible exact Ev.now _ | dsimp only | with_reducible refine Ev.bind (Ev.now _) ?_ | refine Ev.pos (by first | omega | rfl | assumption | decide) ?_ | refine Ev.neg (by first | omega | assumption | exact Bool.false_ne_true | exact fun e => absurd e (by decide)) ?_ | simp only [bne_self_eq_false, Bool.not_true, Bool.not_false, List.length_cons, List.length_nil] | rw [wrap_id (by omega) (by omega)] | with_reducible exact (Ev.now _) | ((with_reducible refine Ev.eq (congrArg some ?_)); rfl))
      rw [show (1000000000000000 : Int) = big from rfl, div_small (b := c)]
      unfold more
      by_cases h : -big ≤ b * c ∧ b * c ≤ big
      · rw [if_pos h, sum_wrap ha h]
        refine Ev.neg ((guard_iff h1).2 (by rw [Int.mul_comm]; exact h)) ?_
        rw [implSmall]
        repeat (first | with_reducible exact Ev.now _ | dsimp only | with_reducible refine Ev.bind (Ev.now _) ?_ | refine Ev.pos (by first | omega | rfl | assumption | decide) ?_ | refine Ev.neg (by first | omega | assumption | exact Bool.false_ne_true | exact fun e => absurd e (by decide)) ?_ | simp only [bne_self_eq_false, Bool.not_true, Bool.not_false, List.length_cons, List.length_nil] | rw [wrap_id (by omega) (by omega)] | with_reducible exact (Ev.now _) | ((with_reducible refine Ev.eq (congrArg some ?_)); rfl))
      · rw [if_neg h]
        refine Ev.pos (Decidable.not_not.1 (fun g => h (by rw [Int.mul_comm]; exact (guard_iff h1).1 g))) ?_
        repeat (first | with_reducible exact Ev.now _ | dsimp only | refine Ev.pos (by first | omega | rfl | assumption | decide) ?_ | refine Ev.neg (by first | omega | assumption | exact Bool.false_ne_true | exact fun e => absurd e (by decide)) ?_ | simp only [bne_self_eq_false, Bool.not_true, Bool.not_false, List.length_cons, List.length_nil] | rw [wrap_id (by omega) (by omega)] | ((with_reducible refine Ev.eq (congrArg some ?_)); rfl))
theorem areWhole_loop (L : List (List Int)) (hL : Mod L) : ∀ (d i : Nat), i + d = L.length →
    Ev (fun k => slices_IndexFunc_int64_int64_117_at_areWhole_1.l0 k L (L.length : Int) (i : Int)) (if (L.drop i).all whole = true then -1 else ((L.length : Int) - d + ((L.drop i).findIdx (fun x => !whole x) : Nat))) := by
  have hl1 := hL.1
  intro d
  induction d with
  | zero =>
    intro i hi
    refine Ev.succ ?_; simp only [slices_IndexFunc_int64_int64_117_at_areWhole_1.l0]
    rw [List.drop_eq_nil_of_le (by omega), List.all_nil, if_pos rfl]
    repeat (first | with_reducible exact Ev.now _ | dsimp only | refine Ev.pos (by first | omega | rfl | assumption | decide) ?_ | refine Ev.neg (by first | omega | assumption | exact Bool.false_ne_true | exact fun e => absurd e (by decide)) ?_ | simp only [bne_self_eq_false, Bool.not_true, Bool.not_false, List.length_cons, List.length_nil] | rw [wrap_id (by omega) (by omega)] | ((with_reducible refine Ev.eq (congrArg some ?_)); rfl))
  | succ d ih =>
    intro i hi
    refine Ev.succ ?_; simp only [slices_IndexFunc_int64_int64_117_at_areWhole_1.l0]
    rw [List.drop_eq_getElem_cons (by omega : i < L.length), List.all_cons, rl_lt (by omega), wrap_succ (by omega), List.findIdx_cons]
    have h1 : Ev (fun k => impl_areWhole_1.f k L[i]) (!whole L[i]) := by
      unfold impl_areWhole_1.f
      repeat (first | with_reducible exact Ev.now _ | dsimp only | with_reducible refine Ev.bind (implWhole L[i] (hL.row (by omega))) ?_ | refine Ev.pos (by first | omega | rfl | assumption | decide) ?_ | refine Ev.neg (by first | omega | assumption | exact Bool.false_ne_true | exact fun e => absurd e (by decide)) ?_ | simp only [bne_self_eq_false, Bool.not_true, Bool.not_false, List.length_cons, List.length_nil] | rw [wrap_id (by omega) (by omega)] | with_reducible exact (implWhole L[i] (hL.row (by omega))) | ((with_reducible refine Ev.eq (congrArg some ?_)); rfl))
    by_cases h : whole L[i] = true
    · rw [h, Bool.not_true] at h1
      rw [h, Bool.true_and, Bool.not_true, cond_false]
      have := ih (i + 1) (by omega)
      rw [show ((L.length : Int) - (d + 1 : Nat) + ((L.drop (i + 1)).findIdx (fun x => !whole x) + 1 : Nat)) = (L.length : Int) - d + ((L.drop (i + 1)).findIdx (fun x => !whole x) : Nat) by omega]
      repeat (first | with_reducible exact Ev.now _ | dsimp only | with_reducible refine Ev.bind (h1) ?_ | refine Ev.pos (by first | omega | rfl | assumption | decide) ?_ | refine Ev.neg (by first | omega | assumption | exact Bool.false_ne_true | exact fun e => absurd e (by decide)) ?_ | simp only [bne_self_eq_false, Bool.not_true, Bool.not_false, List.length_cons, List.length_nil] | rw [wrap_id (by omega) (by omega)] | with_reducible exact (h1) | ((with_reducible refine Ev.eq (congrArg some ?_)); rfl))
      exact this
    · rw [Bool.not_eq_true] at h
      rw [h, Bool.not_false] at h1
      rw [h, Bool.false_and, Bool.not_false, cond_true, if_neg (by decide), show (L.length : Int) - (d + 1 : Nat) + (0 : Nat) = i by omega]
      repeat (first | with_reducible exact Ev.now _ | dsimp only | with_reducible refine Ev.bind (h1) ?_ | refine Ev.pos (by first | omega | rfl | assumption | decide) ?_ | refine Ev.neg (by first | omega | assumption | exact Bool.false_ne_true | exact fun e => absurd e (by decide)) ?_ | simp only [bne_self_eq_false, Bool.not_true, Bool.not_false, List.length_cons, List.length_nil] | rw [wrap_id (by omega) (by omega)] | with_reducible exact (h1) | ((with_reducible refine Ev.eq (congrArg some ?_)); rfl))

theorem areWhole' (L : List (List Int)) (hL : Mod L) : Ev (fun k => impl_areWhole.f k L) (L.all whole) := by
  have hl1 := hL.1
  have h2 : Ev (fun k => slices_IndexFunc_int64_int64_117_at_areWhole_1.f k L) _ := areWhole_loop L hL L.length 0 (by omega)
  rw [List.drop_zero] at h2
  unfold impl_areWhole.f slices_ContainsFunc_int64_int64_107_at_areWhole_1.f
  by_cases h : L.all whole = true
  · rw [if_pos h] at h2
    rw [h]
    repeat (first | with_reducible exact Ev.now _ | dsimp only | with_reducible refine Ev.bind (Ev.bind h2 (Ev.now _)) ?_ | refine Ev.pos (by first | omega | rfl | assumption | decide) ?_ | refine Ev.neg (by first | omega | assumption | exact Bool.false_ne_true | exact fun e => absurd e (by decide)) ?_ | simp only [bne_self_eq_false, Bool.not_true, Bool.not_false, List.length_cons, List.length_nil] | rw [wrap_id (by omega) (by omega)] | with_reducible exact (Ev.bind h2 (Ev.now _)) | ((with_reducible refine Ev.eq (congrArg some ?_)); rfl))
  · rw [if_neg h] at h2
    rw [Bool.not_eq_true] at h
    rw [h]
    refine Ev.bind (Ev.bind h2 (Ev.now _)) ?_
    rw [decide_eq_true (by omega)]
    exact Ev.now _

theorem areWhole2 (l m : List Int) (hl : l.length ≤ 1048576) (hm : m.length ≤ 1048576) : Ev (fun k => impl_areWhole.f k [l, m]) (whole l && whole m) := by
  have := areWhole' [l, m] ⟨by simp, fun r h => by
    rcases List.mem_cons.1 h with h | h
    · rw [h]; exact hl
    · rw [List.mem_singleton.1 h]; exact hm⟩
  rw [List.all_cons, List.all_cons, List.all_nil, Bool.and_true] at this
  exact this
/-- The first i numbers without zeros at the end. -/
def trimN (l : List Int) : Nat → List Int
  | 0 => []
  | i + 1 => if rd l (i : Int) = 0 then trimN l i else l.take (i + 1)

theorem trimN_length (l : List Int) (i : Nat) : (trimN l i).length ≤ l.length := by
  induction i with
  | zero => simp [trimN]
  | succ i ih =>
    unfold trimN
    split
    · exact ih
    · simp only [List.length_take]; omega

theorem specOwn (l : List Int) (hl : l.length ≤ 1048576) : spec_l01Own.f l = some l := by
  unfold spec_l01Own.f
  simp only [Option.bind_some, List.length_nil, List.nil_append]
  exact if_pos (by omega)

theorem specTrim_loop (l : List Int) (hl : l.length ≤ 1048576) : ∀ (i : Nat), i ≤ l.length → Ev (fun k => spec_l01Trim.l0 k l (i : Int)) (trimN l i) := by
  intro i
  induction i with
  | zero =>
    intro hi
    refine Ev.succ ?_; simp only [spec_l01Trim.l0]
    repeat (first | with_reducible exact Ev.now _ | dsimp only | with_reducible refine Ev.bind (Ev.eq (specOwn _ (by simp))) ?_ | refine Ev.pos (by first | omega | rfl | assumption | decide) ?_ | refine Ev.neg (by first | omega | assumption | exact Bool.false_ne_true | exact fun e => absurd e (by decide)) ?_ | simp only [bne_self_eq_false, Bool.not_true, Bool.not_false, List.length_cons, List.length_nil] | rw [wrap_id (by omega) (by omega)] | with_reducible exact (Ev.eq (specOwn _ (by simp))) | ((with_reducible refine Ev.eq (congrArg some ?_)); rfl))
  | succ i ih =>
    intro hi
    refine Ev.succ ?_; simp only [spec_l01Trim.l0]
    rw [wrap_id (by omega) (by omega), show ((i + 1 : Nat) : Int) - 1 = i by omega]
    unfold trimN
    by_cases h : rd l (i : Int) = 0
    · rw [if_pos h]
      repeat (first | with_reducible exact Ev.now _ | dsimp only | refine Ev.pos (by first | omega | rfl | assumption | decide) ?_ | refine Ev.neg (by first | omega | assumption | exact Bool.false_ne_true | exact fun e => absurd e (by decide)) ?_ | simp only [bne_self_eq_false, Bool.not_true, Bool.not_false, List.length_cons, List.length_nil] | rw [wrap_id (by omega) (by omega)] | ((with_reducible refine Ev.eq (congrArg some ?_)); rfl))
      exact ih (by omega)
    · rw [if_neg h, Int.toNat_natCast]
      repeat (first | with_reducible exact Ev.now _ | dsimp only | (with_reducible refine Ev.bind (Ev.eq (specOwn (l.take (i + 1)) (by simp only [List.length_take]; omega))) ?_) | refine Ev.pos (by first | omega | rfl | assumption | decide) ?_ | refine Ev.neg (by first | omega | assumption | exact Bool.false_ne_true | exact fun e => absurd e (by decide)) ?_ | simp only [bne_self_eq_false, Bool.not_true, Bool.not_false, List.length_cons, List.length_nil] | rw [wrap_id (by omega) (by omega)] | (with_reducible exact (Ev.eq (specOwn (l.take (i + 1)) (by simp only [List.length_take]; omega)))) | ((with_reducible refine Ev.eq (congrArg some ?_)); rfl))

theorem specTrim (l : List Int) (hl : l.length ≤ 1048576) : Ev (fun k => spec_l01Trim.f k l) (trimN l l.length) := by
  unfold spec_l01Trim.f
  exact specTrim_loop l hl _ (Nat.le_refl _)
theorem implTrim_loop (l : List Int) (hl : l.length ≤ 1048576) : ∀ (i : Nat), i ≤ l.length → Ev (fun k => impl_trimmed.l0 k (l.take i)) (trimN l i) := by
  intro i
  have hc : ∀ x : List Int, x.length ≤ 1048576 → slices_Clone_int64_int64.f x = some x := fun x hx => if_pos (by omega)
  induction i with
  | zero =>
    intro hi
    refine Ev.succ ?_; simp only [impl_trimmed.l0]
    rw [List.take_zero]
    repeat (first | with_reducible exact Ev.now _ | dsimp only | with_reducible refine Ev.bind (Ev.eq (hc _ (by simp))) ?_ | refine Ev.pos (by first | omega | rfl | assumption | decide) ?_ | refine Ev.neg (by first | omega | assumption | exact Bool.false_ne_true | exact fun e => absurd e (by decide)) ?_ | simp only [bne_self_eq_false, Bool.not_true, Bool.not_false, List.length_cons, List.length_nil] | rw [wrap_id (by omega) (by omega)] | with_reducible exact (Ev.eq (hc _ (by simp))) | ((with_reducible refine Ev.eq (congrArg some ?_)); rfl))
  | succ i ih =>
    intro hi
    refine Ev.succ ?_; simp only [impl_trimmed.l0]
    have e : (l.take (i + 1)).length = i + 1 := by simp only [List.length_take]; omega
    rw [e, wrap_id (by omega) (by omega), show ((i + 1 : Nat) : Int) - 1 = i by omega]
    have e2 : rd (l.take (i + 1)) (i : Int) = rd l (i : Int) := by rw [rd_lt (by omega), rd_lt (by omega), List.getElem_take]
    have e3 : (l.take (i + 1)).take i = l.take i := by rw [List.take_take, Nat.min_eq_left (by omega)]
    rw [e2, show ((i : Int)).toNat = i from rfl, e3]
    unfold trimN
    by_cases h : rd l (i : Int) = 0
    · rw [if_pos h]
      repeat (first | with_reducible exact Ev.now _ | dsimp only | refine Ev.pos (by first | omega | rfl | assumption | decide) ?_ | refine Ev.neg (by first | omega | assumption | exact Bool.false_ne_true | exact fun e => absurd e (by decide)) ?_ | simp only [bne_self_eq_false, Bool.not_true, Bool.not_false, List.length_cons, List.length_nil] | rw [wrap_id (by omega) (by omega)] | ((with_reducible refine Ev.eq (congrArg some ?_)); rfl))
      exact ih (by omega)
    · rw [if_neg h]
      repeat (first | with_reducible exact Ev.now _ | dsimp only | with_reducible refine Ev.bind (Ev.eq (hc (l.take (i + 1)) (by omega))) ?_ | refine Ev.pos (by first | omega | rfl | assumption | decide) ?_ | refine Ev.neg (by first | omega | assumption | exact Bool.false_ne_true | exact fun e => absurd e (by decide)) ?_ | simp only [bne_self_eq_false, Bool.not_true, Bool.not_false, List.length_cons, List.length_nil] | rw [wrap_id (by omega) (by omega)] | with_reducible exact (Ev.eq (hc (l.take (i + 1)) (by omega))) | ((with_reducible refine Ev.eq (congrArg some ?_)); rfl))

theorem implTrim (l : List Int) (hl : l.length ≤ 1048576) : Ev (fun k => impl_trimmed.f k l) (trimN l l.length) := by
  unfold impl_trimmed.f
  have := implTrim_loop l hl _ (Nat.le_refl _)
  rw [List.take_length] at this
  exact this
theorem more_small {a b c : Int} (h : (more a b c).2 = true) : -big ≤ (more a b c).1 ∧ (more a b c).1 ≤ big := by
  unfold more at h ⊢
  by_cases g : -big ≤ b * c ∧ b * c ≤ big
  · rw [if_pos g] at h ⊢
    exact decide_eq_true_iff.1 h
  · rw [if_neg g] at h
    cases h

section
variable (l m : List Int)

/-- The product's number k: d rounds from the place i on. -/
def cv (k : Nat) : Nat → Nat → Int → Int × Bool
  | 0, _, acc => (acc, true)
  | d + 1, i, acc => if i + m.length ≤ k then cv k d (i + 1) acc else if (more acc (rd l (i : Int)) (rd m ((k - i : Nat) : Int))).2 = true then cv k d (i + 1) (more acc (rd l (i : Int)) (rd m ((k - i : Nat) : Int))).1 else (0, false)

def cvk (k : Nat) : Int × Bool := cv l m k (min (k + 1) l.length) 0 0

def prod (n : Nat) : List Int := (List.range n).map (fun k => (cvk l m k).1)

theorem prod_length (n : Nat) : (prod l m n).length = n := by simp [prod]

theorem cv_skip (k : Nat) (acc : Int) : ∀ (e d i : Nat), i + e = k + 1 - m.length → e ≤ d → cv l m k d i acc = cv l m k (d - e) (i + e) acc := by
  intro e
  induction e with
  | zero => intro d i h h2; rfl
  | succ e ih =>
    intro d i h h2
    match d, h2 with
    | d + 1, h2 =>
      show (if i + m.length ≤ k then cv l m k d (i + 1) acc else _) = _
      rw [if_pos (by omega), ih d (i + 1) (by omega) (by omega), Nat.add_sub_add_right, show i + 1 + e = i + (e + 1) by omega]

theorem cv_last (n : Nat) (h : n + 1 = l.length + m.length - 1) (hl : 0 < l.length) (hm : 0 < m.length) (ok : (cvk l m n).2 = true) : (cvk l m n).1 = rd l ((l.length - 1 : Nat) : Int) * rd m ((m.length - 1 : Nat) : Int) := by
  have e : cvk l m n = cv l m n 1 (l.length - 1) 0 := by
    unfold cvk
    rw [cv_skip l m n 0 (l.length - 1) _ 0 (by omega) (by omega), Nat.zero_add]
    congr 1
    omega
  rw [e] at ok ⊢
  unfold cv at ok ⊢
  rw [if_neg (by omega)] at ok ⊢
  rw [show n - (l.length - 1) = m.length - 1 by omega] at ok ⊢
  by_cases g : (more 0 (rd l ((l.length - 1 : Nat) : Int)) (rd m ((m.length - 1 : Nat) : Int))).2 = true
  · rw [if_pos g]
    unfold cv
    unfold more at g ⊢
    by_cases g2 : -big ≤ rd l ((l.length - 1 : Nat) : Int) * rd m ((m.length - 1 : Nat) : Int) ∧ rd l ((l.length - 1 : Nat) : Int) * rd m ((m.length - 1 : Nat) : Int) ≤ big
    · rw [if_pos g2]
      exact Int.zero_add _
    · rw [if_neg g2] at g
      cases g
  · rw [if_neg g] at ok
    cases ok

variable (hl : l.length ≤ 40) (hs : ∀ y ∈ l, -big ≤ y ∧ y ≤ big) (hm : m.length ≤ 40) (hn : ∀ y ∈ m, -big ≤ y ∧ y ≤ big)
include hl hs hm hn

theorem spec_inner (k : Nat) (hk : k < 80) (x6 : List Int) (h6 : x6.length ≤ 80) (r : List Int × Bool) : ∀ (d i : Nat) (acc : Int), i + d = min (k + 1) l.length → (-big ≤ acc ∧ acc ≤ big) →
    ((cv l m k d i acc).2 = true → Ev (fun f => spec_l01Product.l0 f l m (x6 ++ [(cv l m k d i acc).1]) ((k + 1 : Nat) : Int)) r) → (¬ (cv l m k d i acc).2 = true → r = ([], false)) →
    Ev (fun f => spec_l01Product.l1 f l m x6 (k : Int) acc (i : Int)) r := by
  intro d
  induction d with
  | zero =>
    intro i acc hi ha h1 h2
    have h1' := h1 rfl
    have e : Ev (fun f => spec_l01Product.j3 f l m x6 (k : Int) acc (i : Int) false) r := by
      refine Ev.succ ?_; simp only [spec_l01Product.j3]
      rw [wrap_succ (by omega)]
      repeat (first | with_reducible exact Ev.now _ | dsimp only | refine Ev.pos (by first | omega | rfl | assumption | decide) ?_ | refine Ev.neg (by first | omega | assumption | exact Bool.false_ne_true | exact fun e => absurd e (by decide)) ?_ | simp only [bne_self_eq_false, Bool.not_true, Bool.not_false, List.length_cons, List.length_nil] | rw [wrap_id (by omega) (by omega)] | ((with_reducible refine Ev.eq (congrArg some ?_)); rfl))
      exact h1'
    refine Ev.succ ?_; simp only [spec_l01Product.l1]
    by_cases c : (i : Int) ≤ k
    · refine Ev.pos c ?_
      rw [decide_eq_false (by omega)]
      exact e
    · refine Ev.neg c ?_
      exact e
  | succ d ih =>
    intro i acc hi ha h1 h2
    refine Ev.succ ?_; simp only [spec_l01Product.l1]
    refine Ev.pos (by omega) ?_
    rw [decide_eq_true (by omega)]
    refine Ev.succ ?_; simp only [spec_l01Product.j3]
    rw [wrap_id (x := (k : Int) - i) (by omega) (by omega), wrap_succ (i := i) (by omega), show (k : Int) - i = ((k - i : Nat) : Int) by omega]
    unfold cv at h1 h2
    by_cases c : i + m.length ≤ k
    · rw [if_pos c] at h1 h2
      repeat (first | with_reducible exact Ev.now _ | dsimp only | refine Ev.pos (by first | omega | rfl | assumption | decide) ?_ | refine Ev.neg (by first | omega | assumption | exact Bool.false_ne_true | exact fun e => absurd e (by decide)) ?_ | simp only [bne_self_eq_false, Bool.not_true, Bool.not_false, List.length_cons, List.length_nil] | rw [wrap_id (by omega) (by omega)] | ((with_reducible refine Ev.eq (congrArg some ?_)); rfl))
      exact ih (i + 1) acc (by omega) ha h1 h2
    · rw [if_neg c] at h1 h2
      rw [specMore ha (hs _ (rd_mem (by omega))) (hn _ (rd_mem (by omega)))]
      by_cases g : (more acc (rd l (i : Int)) (rd m ((k - i : Nat) : Int))).2 = true
      · rw [if_pos g] at h1 h2
        repeat (first | with_reducible exact Ev.now _ | dsimp only | with_reducible refine Ev.bind (Ev.now _) ?_ | refine Ev.pos (by first | omega | rfl | assumption | decide) ?_ | refine Ev.neg (by first | omega | assumption | exact Bool.false_ne_true | exact fun e => absurd e (by decide)) ?_ | simp only [bne_self_eq_false, Bool.not_true, Bool.not_false, List.length_cons, List.length_nil] | rw [wrap_id (by omega) (by omega)] | with_reducible exact (Ev.now _) | ((with_reducible refine Ev.eq (congrArg some ?_)); rfl))
        exact ih (i + 1) _ (by omega) (more_small g) h1 h2
      · rw [if_neg g] at h1 h2
        rw [h2 (by decide)]
        repeat (first | with_reducible exact Ev.now _ | dsimp only | with_reducible refine Ev.bind (Ev.now _) ?_ | refine Ev.pos (by first | omega | rfl | assumption | decide) ?_ | refine Ev.neg (by first | omega | assumption | exact Bool.false_ne_true | exact fun e => absurd e (by decide)) ?_ | simp only [bne_self_eq_false, Bool.not_true, Bool.not_false, List.length_cons, List.length_nil] | rw [wrap_id (by omega) (by omega)] | with_reducible exact (Ev.now _) | ((with_reducible refine Ev.eq (congrArg some ?_)); rfl))

theorem impl_inner (n : Int) (k : Nat) (hk : k < 80) (x6 : List Int) (h6 : x6.length ≤ 80) (hl0 : 0 < l.length) (r : List Int × Bool) : ∀ (d i : Nat) (acc : Int), i + d = min (k + 1) l.length → k + 1 - m.length ≤ i → (-big ≤ acc ∧ acc ≤ big) →
    ((cv l m k d i acc).2 = true → Ev (fun f => impl_multiply.l0 f l m (x6 ++ [(cv l m k d i acc).1]) n ((k + 1 : Nat) : Int)) r) → (¬ (cv l m k d i acc).2 = true → r = ([], false)) →
    Ev (fun f => impl_multiply.l1 f l m x6 (k : Int) acc (i : Int) n (k : Int)) r := by
  have emn : mn (k : Int) (wrap64 ((l.length : Int) - 1)) = ((min (k + 1) l.length : Nat) : Int) - 1 := by
    rw [wrap_id (by omega) (by omega)]
    unfold mn
    split <;> omega
  intro d
  induction d with
  | zero =>
    intro i acc hi hi2 ha h1 h2
    have h1' := h1 rfl
    refine Ev.succ ?_; simp only [impl_multiply.l1]
    rw [emn, wrap_succ (i := k) (by omega)]
    repeat (first | with_reducible exact Ev.now _ | dsimp only | refine Ev.pos (by first | omega | rfl | assumption | decide) ?_ | refine Ev.neg (by first | omega | assumption | exact Bool.false_ne_true | exact fun e => absurd e (by decide)) ?_ | simp only [bne_self_eq_false, Bool.not_true, Bool.not_false, List.length_cons, List.length_nil] | rw [wrap_id (by omega) (by omega)] | ((with_reducible refine Ev.eq (congrArg some ?_)); rfl))
    exact h1'
  | succ d ih =>
    intro i acc hi hi2 ha h1 h2
    refine Ev.succ ?_; simp only [impl_multiply.l1]
    rw [emn, wrap_id (x := (k : Int) - i) (by omega) (by omega), wrap_succ (i := i) (by omega), show (k : Int) - i = ((k - i : Nat) : Int) by omega]
    unfold cv at h1 h2
    rw [if_neg (by omega)] at h1 h2
    have ht := implTimes ha (hs _ (rd_mem (show i < l.length by omega))) (hn _ (rd_mem (show k - i < m.length by omega)))
    by_cases g : (more acc (rd l (i : Int)) (rd m ((k - i : Nat) : Int))).2 = true
    · rw [if_pos g] at h1 h2
      repeat (first | with_reducible exact Ev.now _ | dsimp only | with_reducible refine Ev.bind (ht) ?_ | refine Ev.pos (by first | omega | rfl | assumption | decide) ?_ | refine Ev.neg (by first | omega | assumption | exact Bool.false_ne_true | exact fun e => absurd e (by decide)) ?_ | simp only [bne_self_eq_false, Bool.not_true, Bool.not_false, List.length_cons, List.length_nil] | rw [wrap_id (by omega) (by omega)] | with_reducible exact (ht) | ((with_reducible refine Ev.eq (congrArg some ?_)); rfl))
      exact ih (i + 1) _ (by omega) (by omega) (more_small g) h1 h2
    · rw [if_neg g] at h1 h2
      rw [h2 (by decide)]
      repeat (first | with_reducible exact Ev.now _ | dsimp only | with_reducible refine Ev.bind (ht) ?_ | refine Ev.pos (by first | omega | rfl | assumption | decide) ?_ | refine Ev.neg (by first | omega | assumption | exact Bool.false_ne_true | exact fun e => absurd e (by decide)) ?_ | simp only [bne_self_eq_false, Bool.not_true, Bool.not_false, List.length_cons, List.length_nil] | rw [wrap_id (by omega) (by omega)] | with_reducible exact (ht) | ((with_reducible refine Ev.eq (congrArg some ?_)); rfl))

theorem spec_good (n : Nat) (h : n + 1 = l.length + m.length) (hok : ∀ k, k < n → (cvk l m k).2 = true) :
    ∀ (d k : Nat), k + d = n → Ev (fun f => spec_l01Product.l0 f l m (prod l m k) (k : Int)) (trimN (prod l m n) n, true) := by
  intro d
  induction d with
  | zero =>
    intro k hk
    have e : k = n := by omega
    subst e
    refine Ev.succ ?_; simp only [spec_l01Product.l0]
    rw [wrap_id (x := (l.length : Int) + m.length) (by omega) (by omega), wrap_id (x := (l.length : Int) + m.length - 1) (by omega) (by omega)]
    have := specTrim (prod l m k) (by rw [prod_length]; omega)
    rw [prod_length] at this
    repeat (first | with_reducible exact Ev.now _ | dsimp only | with_reducible refine Ev.bind (this) ?_ | refine Ev.pos (by first | omega | rfl | assumption | decide) ?_ | refine Ev.neg (by first | omega | assumption | exact Bool.false_ne_true | exact fun e => absurd e (by decide)) ?_ | simp only [bne_self_eq_false, Bool.not_true, Bool.not_false, List.length_cons, List.length_nil] | rw [wrap_id (by omega) (by omega)] | with_reducible exact (this) | ((with_reducible refine Ev.eq (congrArg some ?_)); rfl))
  | succ d ih =>
    intro k hk
    refine Ev.succ ?_; simp only [spec_l01Product.l0]
    rw [wrap_id (x := (l.length : Int) + m.length) (by omega) (by omega), wrap_id (x := (l.length : Int) + m.length - 1) (by omega) (by omega)]
    repeat (first | with_reducible exact Ev.now _ | dsimp only | refine Ev.pos (by first | omega | rfl | assumption | decide) ?_ | refine Ev.neg (by first | omega | assumption | exact Bool.false_ne_true | exact fun e => absurd e (by decide)) ?_ | simp only [bne_self_eq_false, Bool.not_true, Bool.not_false, List.length_cons, List.length_nil] | rw [wrap_id (by omega) (by omega)] | ((with_reducible refine Ev.eq (congrArg some ?_)); rfl))
    refine spec_inner l m hl hs hm hn k (by omega) _ (by rw [prod_length]; omega) _ _ 0 0 (by omega) (by decide) (fun _ => ?_) (fun e => absurd (hok k (by omega)) e)
    have := ih (k + 1) (by omega)
    rw [prod, map_range_succ] at this
    exact this

theorem spec_bad (n : Nat) (h : n + 1 = l.length + m.length) :
    ∀ (d k : Nat) (xs : List Int), k + d = n → xs.length ≤ k → (∃ j, k ≤ j ∧ j < n ∧ ¬ (cvk l m j).2 = true) → Ev (fun f => spec_l01Product.l0 f l m xs (k : Int)) ([], false) := by
  intro d
  induction d with
  | zero =>
    intro k xs hk hx h
    obtain ⟨j, h1, h2, h3⟩ := h
    omega
  | succ d ih =>
    intro k xs hk hx hb
    refine Ev.succ ?_; simp only [spec_l01Product.l0]
    rw [wrap_id (x := (l.length : Int) + m.length) (by omega) (by omega), wrap_id (x := (l.length : Int) + m.length - 1) (by omega) (by omega)]
    repeat (first | with_reducible exact Ev.now _ | dsimp only | refine Ev.pos (by first | omega | rfl | assumption | decide) ?_ | refine Ev.neg (by first | omega | assumption | exact Bool.false_ne_true | exact fun e => absurd e (by decide)) ?_ | simp only [bne_self_eq_false, Bool.not_true, Bool.not_false, List.length_cons, List.length_nil] | rw [wrap_id (by omega) (by omega)] | ((with_reducible refine Ev.eq (congrArg some ?_)); rfl))
    refine spec_inner l m hl hs hm hn k (by omega) _ (by omega) _ (min (k + 1) l.length) 0 0 (by omega) (by decide) (fun e => ?_) (fun _ => rfl)
    refine ih (k + 1) _ (by omega) (by simp; omega) ?_
    obtain ⟨j, h1, h2, h3⟩ := hb
    refine ⟨j, ?_, h2, h3⟩
    rcases Nat.lt_or_eq_of_le h1 with h1 | h1
    · exact h1
    · subst h1; exact absurd e h3

theorem impl_start (n : Nat) (hl0 : 0 < l.length) (k : Nat) (hk : k < 80) (x6 : List Int) (h6 : x6.length ≤ 80) (hkn : k < n) (hn80 : n ≤ 80) (hkn2 : n + 1 = l.length + m.length) (hm0 : 0 < m.length) (r : List Int × Bool) (h1 : (cvk l m k).2 = true → Ev (fun f => impl_multiply.l0 f l m (x6 ++ [(cvk l m k).1]) (n : Int) ((k + 1 : Nat) : Int)) r) (h2 : ¬ (cvk l m k).2 = true → r = ([], false)) :
    Ev (fun f => impl_multiply.l0 f l m x6 (n : Int) (k : Int)) r := by
  refine Ev.succ ?_; simp only [impl_multiply.l0]
  have emx : mx 0 (wrap64 ((wrap64 ((k : Int) - (m.length : Int))) + 1)) = ((k + 1 - m.length : Nat) : Int) := by
    rw [wrap_id (x := (k : Int) - (m.length : Int)) (by omega) (by omega), wrap_id (by omega) (by omega)]
    unfold mx
    split <;> omega
  rw [emx]
  repeat (first | with_reducible exact Ev.now _ | dsimp only | refine Ev.pos (by first | omega | rfl | assumption | decide) ?_ | refine Ev.neg (by first | omega | assumption | exact Bool.false_ne_true | exact fun e => absurd e (by decide)) ?_ | simp only [bne_self_eq_false, Bool.not_true, Bool.not_false, List.length_cons, List.length_nil] | rw [wrap_id (by omega) (by omega)] | ((with_reducible refine Ev.eq (congrArg some ?_)); rfl))
  have e : cvk l m k = cv l m k (min (k + 1) l.length - (k + 1 - m.length)) (k + 1 - m.length) 0 := by
    unfold cvk
    rw [cv_skip l m k 0 (k + 1 - m.length) _ 0 (by omega) (by omega), Nat.zero_add]
  rw [e] at h1 h2
  exact impl_inner l m hl hs hm hn n k hk x6 h6 hl0 r _ _ 0 (by omega) (Nat.le_refl _) (by decide) h1 h2

theorem impl_good (n : Nat) (h : n + 1 = l.length + m.length) (hl0 : 0 < l.length) (hm0 : 0 < m.length) (hok : ∀ k, k < n → (cvk l m k).2 = true) :
    ∀ (d k : Nat), k + d = n → Ev (fun f => impl_multiply.l0 f l m (prod l m k) (n : Int) (k : Int)) (prod l m n, true) := by
  intro d
  induction d with
  | zero =>
    intro k hk
    have e : k = n := by omega
    subst e
    refine Ev.succ ?_; simp only [impl_multiply.l0]
    repeat (first | with_reducible exact Ev.now _ | dsimp only | refine Ev.pos (by first | omega | rfl | assumption | decide) ?_ | refine Ev.neg (by first | omega | assumption | exact Bool.false_ne_true | exact fun e => absurd e (by decide)) ?_ | simp only [bne_self_eq_false, Bool.not_true, Bool.not_false, List.length_cons, List.length_nil] | rw [wrap_id (by omega) (by omega)] | ((with_reducible refine Ev.eq (congrArg some ?_)); rfl))
  | succ d ih =>
    intro k hk
    refine impl_start l m hl hs hm hn n hl0 k (by omega) _ (by rw [prod_length]; omega) (by omega) (by omega) h hm0 _ (fun _ => ?_) (fun e => absurd (hok k (by omega)) e)
    have := ih (k + 1) (by omega)
    rw [prod, map_range_succ] at this
    exact this

theorem impl_bad (n : Nat) (h : n + 1 = l.length + m.length) (hl0 : 0 < l.length) (hm0 : 0 < m.length) :
    ∀ (d k : Nat) (xs : List Int), k + d = n → xs.length ≤ k → (∃ j, k ≤ j ∧ j < n ∧ ¬ (cvk l m j).2 = true) → Ev (fun f => impl_multiply.l0 f l m xs (n : Int) (k : Int)) ([], false) := by
  intro d
  induction d with
  | zero =>
    intro k xs hk hx h
    obtain ⟨j, h1, h2, h3⟩ := h
    omega
  | succ d ih =>
    intro k xs hk hx hb
    refine impl_start l m hl hs hm hn n hl0 k (by omega) _ (by omega) (by omega) (by omega) h hm0 _ (fun e => ?_) (fun _ => rfl)
    refine ih (k + 1) _ (by omega) (by simp; omega) ?_
    obtain ⟨j, h1, h2, h3⟩ := hb
    refine ⟨j, ?_, h2, h3⟩
    rcases Nat.lt_or_eq_of_le h1 with h1 | h1
    · exact h1
    · subst h1; exact absurd e h3

end

theorem last_ne {l : List Int} (h : whole l = true) (h0 : 0 < l.length) : rd l ((l.length - 1 : Nat) : Int) ≠ 0 := by
  have hne : l ≠ [] := fun e => by rw [e] at h0; simp at h0
  have hlast := whole_last h
  rw [List.getLast?_eq_some_getLast hne, ← last_rd l hne, show (l.length : Int) - 1 = ((l.length - 1 : Nat) : Int) by omega] at hlast
  exact fun e => hlast (by rw [e])

theorem trim_prod (l m : List Int) (hl : whole l = true) (hm : whole m = true) (hl0 : 0 < l.length) (hm0 : 0 < m.length) (n : Nat) (h : n + 1 = l.length + m.length) (hok : ∀ k, k < n → (cvk l m k).2 = true) : trimN (prod l m n) n = prod l m n := by
  obtain ⟨n', e⟩ : ∃ n', n = n' + 1 := ⟨n - 1, by omega⟩
  subst e
  unfold trimN
  rw [if_neg, List.take_of_length_le (by rw [prod_length]; omega)]
  rw [prod, rd_map_range _ (by omega), cv_last l m n' (by omega) hl0 hm0 (hok n' (by omega))]
  exact Int.mul_ne_zero (last_ne hl hl0) (last_ne hm hm0)

theorem product_same (l m : List Int) (hw : whole l = true) (hw' : whole m = true) : ∃ r : List Int × Bool, r.1.length ≤ 1048576 ∧ Ev (fun k => spec_l01Product.f k l m) r ∧ Ev (fun k => impl_multiply.f k l m) r := by
  unfold spec_l01Product.f impl_multiply.f
  have hl40 := whole_length hw
  have hm40 := whole_length hw'
  have hs := whole_small hw
  have hn := whole_small hw'
  by_cases h0 : l.length = 0
  · refine ⟨([], true), by simp, ?_, ?_⟩
    · repeat (first | with_reducible exact Ev.now _ | dsimp only | refine Ev.pos (by first | omega | rfl | assumption | decide) ?_ | refine Ev.neg (by first | omega | assumption | exact Bool.false_ne_true | exact fun e => absurd e (by decide)) ?_ | simp only [bne_self_eq_false, Bool.not_true, Bool.not_false, List.length_cons, List.length_nil] | rw [wrap_id (by omega) (by omega)] | ((with_reducible refine Ev.eq (congrArg some ?_)); rfl))
      refine Ev.succ ?_; simp only [spec_l01Product.j0]
      repeat (first | with_reducible exact Ev.now _ | dsimp only | refine Ev.pos (by first | omega | rfl | assumption | decide) ?_ | refine Ev.neg (by first | omega | assumption | exact Bool.false_ne_true | exact fun e => absurd e (by decide)) ?_ | simp only [bne_self_eq_false, Bool.not_true, Bool.not_false, List.length_cons, List.length_nil] | rw [wrap_id (by omega) (by omega)] | ((with_reducible refine Ev.eq (congrArg some ?_)); rfl))
    · repeat (first | with_reducible exact Ev.now _ | dsimp only | refine Ev.pos (by first | omega | rfl | assumption | decide) ?_ | refine Ev.neg (by first | omega | assumption | exact Bool.false_ne_true | exact fun e => absurd e (by decide)) ?_ | simp only [bne_self_eq_false, Bool.not_true, Bool.not_false, List.length_cons, List.length_nil] | rw [wrap_id (by omega) (by omega)] | ((with_reducible refine Ev.eq (congrArg some ?_)); rfl))
      refine Ev.succ ?_; simp only [impl_multiply.j0]
      repeat (first | with_reducible exact Ev.now _ | dsimp only | refine Ev.pos (by first | omega | rfl | assumption | decide) ?_ | refine Ev.neg (by first | omega | assumption | exact Bool.false_ne_true | exact fun e => absurd e (by decide)) ?_ | simp only [bne_self_eq_false, Bool.not_true, Bool.not_false, List.length_cons, List.length_nil] | rw [wrap_id (by omega) (by omega)] | ((with_reducible refine Ev.eq (congrArg some ?_)); rfl))
  by_cases h0' : m.length = 0
  · refine ⟨([], true), by simp, ?_, ?_⟩
    · rw [show ((m.length : Int) == 0) = true from by rw [h0']; rfl]
      repeat (first | with_reducible exact Ev.now _ | dsimp only | refine Ev.pos (by first | omega | rfl | assumption | decide) ?_ | refine Ev.neg (by first | omega | assumption | exact Bool.false_ne_true | exact fun e => absurd e (by decide)) ?_ | simp only [bne_self_eq_false, Bool.not_true, Bool.not_false, List.length_cons, List.length_nil] | rw [wrap_id (by omega) (by omega)] | ((with_reducible refine Ev.eq (congrArg some ?_)); rfl))
      refine Ev.succ ?_; simp only [spec_l01Product.j0]
      repeat (first | with_reducible exact Ev.now _ | dsimp only | refine Ev.pos (by first | omega | rfl | assumption | decide) ?_ | refine Ev.neg (by first | omega | assumption | exact Bool.false_ne_true | exact fun e => absurd e (by decide)) ?_ | simp only [bne_self_eq_false, Bool.not_true, Bool.not_false, List.length_cons, List.length_nil] | rw [wrap_id (by omega) (by omega)] | ((with_reducible refine Ev.eq (congrArg some ?_)); rfl))
    · rw [show ((m.length : Int) == 0) = true from by rw [h0']; rfl]
      repeat (first | with_reducible exact Ev.now _ | dsimp only | refine Ev.pos (by first | omega | rfl | assumption | decide) ?_ | refine Ev.neg (by first | omega | assumption | exact Bool.false_ne_true | exact fun e => absurd e (by decide)) ?_ | simp only [bne_self_eq_false, Bool.not_true, Bool.not_false, List.length_cons, List.length_nil] | rw [wrap_id (by omega) (by omega)] | ((with_reducible refine Ev.eq (congrArg some ?_)); rfl))
      refine Ev.succ ?_; simp only [impl_multiply.j0]
      repeat (first | with_reducible exact Ev.now _ | dsimp only | refine Ev.pos (by first | omega | rfl | assumption | decide) ?_ | refine Ev.neg (by first | omega | assumption | exact Bool.false_ne_true | exact fun e => absurd e (by decide)) ?_ | simp only [bne_self_eq_false, Bool.not_true, Bool.not_false, List.length_cons, List.length_nil] | rw [wrap_id (by omega) (by omega)] | ((with_reducible refine Ev.eq (congrArg some ?_)); rfl))
  have hm0 : ((m.length : Int) == 0) = false := beq_eq_false_iff_ne.2 (by omega)
  obtain ⟨n, hN⟩ : ∃ n, n + 1 = l.length + m.length := ⟨l.length + m.length - 1, by omega⟩
  by_cases h40 : n ≤ 40
  · by_cases hok : ∀ k, k < n → (cvk l m k).2 = true
    · refine ⟨(prod l m n, true), by simp only [prod_length]; omega, ?_, ?_⟩
      · rw [hm0]
        repeat (first | with_reducible exact Ev.now _ | dsimp only | refine Ev.pos (by first | omega | rfl | assumption | decide) ?_ | refine Ev.neg (by first | omega | assumption | exact Bool.false_ne_true | exact fun e => absurd e (by decide)) ?_ | simp only [bne_self_eq_false, Bool.not_true, Bool.not_false, List.length_cons, List.length_nil] | rw [wrap_id (by omega) (by omega)] | ((with_reducible refine Ev.eq (congrArg some ?_)); rfl))
        refine Ev.succ ?_; simp only [spec_l01Product.j0]
        rw [wrap_id (x := (l.length : Int) + m.length) (by omega) (by omega), wrap_id (x := (l.length : Int) + m.length - 1) (by omega) (by omega)]
        repeat (first | with_reducible exact Ev.now _ | dsimp only | refine Ev.pos (by first | omega | rfl | assumption | decide) ?_ | refine Ev.neg (by first | omega | assumption | exact Bool.false_ne_true | exact fun e => absurd e (by decide)) ?_ | simp only [bne_self_eq_false, Bool.not_true, Bool.not_false, List.length_cons, List.length_nil] | rw [wrap_id (by omega) (by omega)] | ((with_reducible refine Ev.eq (congrArg some ?_)); rfl))
        have := spec_good l m hl40 hs hm40 hn n hN hok n 0 (by omega)
        rw [trim_prod l m hw hw' (by omega) (by omega) n hN hok] at this
        exact this
      · rw [hm0]
        repeat (first | with_reducible exact Ev.now _ | dsimp only | refine Ev.pos (by first | omega | rfl | assumption | decide) ?_ | refine Ev.neg (by first | omega | assumption | exact Bool.false_ne_true | exact fun e => absurd e (by decide)) ?_ | simp only [bne_self_eq_false, Bool.not_true, Bool.not_false, List.length_cons, List.length_nil] | rw [wrap_id (by omega) (by omega)] | ((with_reducible refine Ev.eq (congrArg some ?_)); rfl))
        refine Ev.succ ?_; simp only [impl_multiply.j0]
        rw [wrap_id (x := (l.length : Int) + m.length) (by omega) (by omega), wrap_id (x := (l.length : Int) + m.length - 1) (by omega) (by omega), show (l.length : Int) + m.length - 1 = n by omega]
        repeat (first | with_reducible exact Ev.now _ | dsimp only | refine Ev.pos (by first | omega | rfl | assumption | decide) ?_ | refine Ev.neg (by first | omega | assumption | exact Bool.false_ne_true | exact fun e => absurd e (by decide)) ?_ | simp only [bne_self_eq_false, Bool.not_true, Bool.not_false, List.length_cons, List.length_nil] | rw [wrap_id (by omega) (by omega)] | ((with_reducible refine Ev.eq (congrArg some ?_)); rfl))
        exact impl_good l m hl40 hs hm40 hn n hN (by omega) (by omega) hok n 0 (by omega)
    · have hbad : ∃ i : Nat, i < n ∧ ¬ (cvk l m i).2 = true := by
        apply Classical.byContradiction
        intro hc
        exact hok (fun i hi => Classical.byContradiction (fun e => hc ⟨i, hi, e⟩))
      obtain ⟨i, hi, hb⟩ := hbad
      refine ⟨([], false), by simp, ?_, ?_⟩
      · rw [hm0]
        repeat (first | with_reducible exact Ev.now _ | dsimp only | refine Ev.pos (by first | omega | rfl | assumption | decide) ?_ | refine Ev.neg (by first | omega | assumption | exact Bool.false_ne_true | exact fun e => absurd e (by decide)) ?_ | simp only [bne_self_eq_false, Bool.not_true, Bool.not_false, List.length_cons, List.length_nil] | rw [wrap_id (by omega) (by omega)] | ((with_reducible refine Ev.eq (congrArg some ?_)); rfl))
        refine Ev.succ ?_; simp only [spec_l01Product.j0]
        rw [wrap_id (x := (l.length : Int) + m.length) (by omega) (by omega), wrap_id (x := (l.length : Int) + m.length - 1) (by omega) (by omega)]
        repeat (first | with_reducible exact Ev.now _ | dsimp only | refine Ev.pos (by first | omega | rfl | assumption | decide) ?_ | refine Ev.neg (by first | omega | assumption | exact Bool.false_ne_true | exact fun e => absurd e (by decide)) ?_ | simp only [bne_self_eq_false, Bool.not_true, Bool.not_false, List.length_cons, List.length_nil] | rw [wrap_id (by omega) (by omega)] | ((with_reducible refine Ev.eq (congrArg some ?_)); rfl))
        exact spec_bad l m hl40 hs hm40 hn n hN n 0 [] (by omega) (by simp) ⟨i, by omega, hi, hb⟩
      · rw [hm0]
        repeat (first | with_reducible exact Ev.now _ | dsimp only | refine Ev.pos (by first | omega | rfl | assumption | decide) ?_ | refine Ev.neg (by first | omega | assumption | exact Bool.false_ne_true | exact fun e => absurd e (by decide)) ?_ | simp only [bne_self_eq_false, Bool.not_true, Bool.not_false, List.length_cons, List.length_nil] | rw [wrap_id (by omega) (by omega)] | ((with_reducible refine Ev.eq (congrArg some ?_)); rfl))
        refine Ev.succ ?_; simp only [impl_multiply.j0]
        rw [wrap_id (x := (l.length : Int) + m.length) (by omega) (by omega), wrap_id (x := (l.length : Int) + m.length - 1) (by omega) (by omega), show (l.length : Int) + m.length - 1 = n by omega]
        repeat (first | with_reducible exact Ev.now _ | dsimp only | refine Ev.pos (by first | omega | rfl | assumption | decide) ?_ | refine Ev.neg (by first | omega | assumption | exact Bool.false_ne_true | exact fun e => absurd e (by decide)) ?_ | simp only [bne_self_eq_false, Bool.not_true, Bool.not_false, List.length_cons, List.length_nil] | rw [wrap_id (by omega) (by omega)] | ((with_reducible refine Ev.eq (congrArg some ?_)); rfl))
        exact impl_bad l m hl40 hs hm40 hn n hN (by omega) (by omega) n 0 [] (by omega) (by simp) ⟨i, by omega, hi, hb⟩
  · refine ⟨([], false), by simp, ?_, ?_⟩
    · rw [hm0]
      repeat (first | with_reducible exact Ev.now _ | dsimp only | refine Ev.pos (by first | omega | rfl | assumption | decide) ?_ | refine Ev.neg (by first | omega | assumption | exact Bool.false_ne_true | exact fun e => absurd e (by decide)) ?_ | simp only [bne_self_eq_false, Bool.not_true, Bool.not_false, List.length_cons, List.length_nil] | rw [wrap_id (by omega) (by omega)] | ((with_reducible refine Ev.eq (congrArg some ?_)); rfl))
      refine Ev.succ ?_; simp only [spec_l01Product.j0]
      rw [wrap_id (x := (l.length : Int) + m.length) (by omega) (by omega), wrap_id (x := (l.length : Int) + m.length - 1) (by omega) (by omega)]
      repeat (first | with_reducible exact Ev.now _ | dsimp only | refine Ev.pos (by first | omega | rfl | assumption | decide) ?_ | refine Ev.neg (by first | omega | assumption | exact Bool.false_ne_true | exact fun e => absurd e (by decide)) ?_ | simp only [bne_self_eq_false, Bool.not_true, Bool.not_false, List.length_cons, List.length_nil] | rw [wrap_id (by omega) (by omega)] | ((with_reducible refine Ev.eq (congrArg some ?_)); rfl))
    · rw [hm0]
      repeat (first | with_reducible exact Ev.now _ | dsimp only | refine Ev.pos (by first | omega | rfl | assumption | decide) ?_ | refine Ev.neg (by first | omega | assumption | exact Bool.false_ne_true | exact fun e => absurd e (by decide)) ?_ | simp only [bne_self_eq_false, Bool.not_true, Bool.not_false, List.length_cons, List.length_nil] | rw [wrap_id (by omega) (by omega)] | ((with_reducible refine Ev.eq (congrArg some ?_)); rfl))
      refine Ev.succ ?_; simp only [impl_multiply.j0]
      rw [wrap_id (x := (l.length : Int) + m.length) (by omega) (by omega), wrap_id (x := (l.length : Int) + m.length - 1) (by omega) (by omega)]
      repeat (first | with_reducible exact Ev.now _ | dsimp only | refine Ev.pos (by first | omega | rfl | assumption | decide) ?_ | refine Ev.neg (by first | omega | assumption | exact Bool.false_ne_true | exact fun e => absurd e (by decide)) ?_ | simp only [bne_self_eq_false, Bool.not_true, Bool.not_false, List.length_cons, List.length_nil] | rw [wrap_id (by omega) (by omega)] | ((with_reducible refine Ev.eq (congrArg some ?_)); rfl))
section
variable (a b : List Int)

/-- One number of the quotient q: d rounds from the place i on. -/
def dv (q : List Int) (k : Nat) : Nat → Nat → Int → Int × Bool
  | 0, _, acc => (acc, true)
  | d + 1, i, acc => if (more acc (-(rd b (i : Int))) (rd q ((k - i : Nat) : Int))).2 = true then dv q k d (i + 1) (more acc (-(rd b (i : Int))) (rd q ((k - i : Nat) : Int))).1 else (0, false)

/-- The quotient's first k numbers, if all stay small. -/
def qs : Nat → Option (List Int)
  | 0 => some []
  | k + 1 => match qs k with
    | none => none
    | some q => if (dv b q k (min (k + 1) b.length - 1) 1 (rd a (k : Int))).2 = true then some (q ++ [(dv b q k (min (k + 1) b.length - 1) 1 (rd a (k : Int))).1 * rd b 0]) else none

theorem qs_none {k m : Nat} (h : qs a b k = none) (hkm : k ≤ m) : qs a b m = none := by
  induction m with
  | zero => rw [show k = 0 by omega] at h; exact h
  | succ m ih =>
    by_cases e : k = m + 1
    · rw [← e]; exact h
    · unfold qs
      rw [ih (by omega)]

theorem dv_small (q : List Int) (k : Nat) : ∀ (d i : Nat) (acc : Int), (-big ≤ acc ∧ acc ≤ big) → (dv b q k d i acc).2 = true → -big ≤ (dv b q k d i acc).1 ∧ (dv b q k d i acc).1 ≤ big := by
  intro d
  induction d with
  | zero => intro i acc ha _; exact ha
  | succ d ih =>
    intro i acc ha h
    unfold dv at h ⊢
    by_cases c : (more acc (-(rd b (i : Int))) (rd q ((k - i : Nat) : Int))).2 = true
    · rw [if_pos c] at h ⊢
      exact ih (i + 1) _ (more_small c) h
    · rw [if_neg c] at h
      cases h

variable (ha : a.length ≤ 40) (hs : ∀ y ∈ a, -big ≤ y ∧ y ≤ big) (hb : b.length ≤ 40) (hn : ∀ y ∈ b, -big ≤ y ∧ y ≤ big) (hb0 : rd b 0 = 1 ∨ rd b 0 = -1)

theorem rd_small {xs : List Int} (hx : ∀ y ∈ xs, -big ≤ y ∧ y ≤ big) (i : Nat) : -big ≤ rd xs (i : Int) ∧ rd xs (i : Int) ≤ big := by
  by_cases h : i < xs.length
  · exact hx _ (rd_mem h)
  · rw [rd_ge (by omega)]; decide

include hs hb0 in
theorem qs_form : ∀ (k : Nat) (q : List Int), qs a b k = some q → q.length = k ∧ ∀ y ∈ q, -big ≤ y ∧ y ≤ big := by
  intro k
  induction k with
  | zero =>
    intro q h
    cases h
    exact ⟨rfl, fun y hy => absurd hy (by simp)⟩
  | succ k ih =>
    intro q h
    unfold qs at h
    cases hq : qs a b k with
    | none => rw [hq] at h; cases h
    | some q' =>
      rw [hq] at h
      simp only at h
      by_cases c : (dv b q' k (min (k + 1) b.length - 1) 1 (rd a (k : Int))).2 = true
      · rw [if_pos c] at h
        cases h
        obtain ⟨h1, h2⟩ := ih q' hq
        refine ⟨by simp [h1], fun y hy => ?_⟩
        rcases List.mem_append.1 hy with hy | hy
        · exact h2 y hy
        · rw [List.mem_singleton.1 hy]
          have := dv_small b q' k _ 1 _ (rd_small hs k) c
          rcases hb0 with e | e
          · rw [e, Int.mul_one]; exact this
          · rw [e]; omega
      · rw [if_neg c] at h
        cases h

theorem b_pos (hb0 : rd b 0 = 1 ∨ rd b 0 = -1) : 0 < b.length := by
  rcases Nat.eq_zero_or_pos b.length with e | e
  · have : rd b ((0 : Nat) : Int) = 0 := rd_ge (by omega)
    rcases hb0 with h | h
    · rw [show ((0 : Nat) : Int) = 0 from rfl] at this; omega
    · rw [show ((0 : Nat) : Int) = 0 from rfl] at this; omega
  · exact e

include hb hn hb0

theorem spec_inner_dv (q : List Int) (k : Nat) (hk : k < 41) (hq : q.length = k) (hqs : ∀ y ∈ q, -big ≤ y ∧ y ≤ big) (r : List Int × Int) : ∀ (d i : Nat) (acc : Int), i + d = min (k + 1) b.length → 1 ≤ i → (-big ≤ acc ∧ acc ≤ big) →
    ((dv b q k d i acc).2 = true → Ev (fun f => spec_DivideWhole.l0 f a b (q ++ [(dv b q k d i acc).1 * rd b 0]) ((k + 1 : Nat) : Int)) r) → (¬ (dv b q k d i acc).2 = true → r = ([], 3)) →
    Ev (fun f => spec_DivideWhole.l1 f a b q (k : Int) acc (i : Int)) r := by
  have hbp := b_pos b hb0
  intro d
  induction d with
  | zero =>
    intro i acc hi h1i hac h1 h2
    have h1' := h1 rfl
    have e1 : (dv b q k 0 i acc).1 = acc := rfl
    rw [e1] at h1'
    have ew : wrap64 (acc * rd b 0) = acc * rd b 0 := by
      rcases hb0 with e | e
      · rw [e]; unfold big at hac; rw [wrap_id (by omega) (by omega)]
      · rw [e]; unfold big at hac; rw [wrap_id (by omega) (by omega)]
    have e : Ev (fun f => spec_DivideWhole.j4 f a b q (k : Int) acc (i : Int) false) r := by
      refine Ev.succ ?_; simp only [spec_DivideWhole.j4]
      rw [wrap_succ (i := k) (by omega), ew]
      refine Ev.neg (by decide) ?_
      refine Ev.pos (by omega) ?_
      refine Ev.pos (by omega) ?_
      exact h1'
    refine Ev.succ ?_; simp only [spec_DivideWhole.l1]
    by_cases c : (i : Int) ≤ k
    · refine Ev.pos c ?_
      rw [decide_eq_false (by omega)]
      exact e
    · refine Ev.neg c ?_
      exact e
  | succ d ih =>
    intro i acc hi h1i hac h1 h2
    have hbi := hn _ (rd_mem (show i < b.length by omega))
    refine Ev.succ ?_; simp only [spec_DivideWhole.l1]
    refine Ev.pos (by omega) ?_
    rw [decide_eq_true (by omega)]
    refine Ev.succ ?_; simp only [spec_DivideWhole.j4]
    have en : wrap64 (-(rd b (i : Int))) = -(rd b (i : Int)) := by unfold big at hbi; rw [wrap_id (by omega) (by omega)]
    rw [wrap_id (x := (k : Int) - i) (by omega) (by omega), wrap_succ (i := i) (by omega), show (k : Int) - i = ((k - i : Nat) : Int) by omega, en, specMore hac (by omega) (rd_small hqs (k - i))]
    unfold dv at h1 h2
    by_cases g : (more acc (-(rd b (i : Int))) (rd q ((k - i : Nat) : Int))).2 = true
    · rw [if_pos g] at h1 h2
      refine Ev.pos (by first | exact trivial | rfl) ?_
      refine Ev.pos (by omega) ?_
      refine Ev.pos (by omega) ?_
      refine Ev.pos (by omega) ?_
      refine Ev.pos (by omega) ?_
      refine Ev.bind (Ev.now _) ?_
      refine Ev.pos g ?_
      exact ih (i + 1) _ (by omega) (by omega) (more_small g) h1 h2
    · rw [if_neg g] at h1 h2
      rw [h2 (by decide)]
      refine Ev.pos (by first | exact trivial | rfl) ?_
      refine Ev.pos (by omega) ?_
      refine Ev.pos (by omega) ?_
      refine Ev.pos (by omega) ?_
      refine Ev.pos (by omega) ?_
      refine Ev.bind (Ev.now _) ?_
      exact Ev.neg g (Ev.now _)

theorem impl_inner_dv (q : List Int) (k : Nat) (N : Int) (hk : k < 41) (hq : q.length = k) (hqs : ∀ y ∈ q, -big ≤ y ∧ y ≤ big) (r : List Int × Int) : ∀ (d i : Nat) (acc : Int), i + d = min (k + 1) b.length → 1 ≤ i → (-big ≤ acc ∧ acc ≤ big) →
    ((dv b q k d i acc).2 = true → Ev (fun f => impl_DivideWhole.l0 f a b (q ++ [(dv b q k d i acc).1 * rd b 0]) N ((k + 1 : Nat) : Int)) r) → (¬ (dv b q k d i acc).2 = true → r = ([], 3)) →
    Ev (fun f => impl_DivideWhole.l1 f a b q (k : Int) acc (i : Int) N (k : Int)) r := by
  have hbp := b_pos b hb0
  have emn : mn (k : Int) (wrap64 ((b.length : Int) - 1)) = ((min (k + 1) b.length : Nat) : Int) - 1 := by
    rw [wrap_id (by omega) (by omega)]
    unfold mn
    split <;> omega
  intro d
  induction d with
  | zero =>
    intro i acc hi h1i hac h1 h2
    have h1' := h1 rfl
    have e1 : (dv b q k 0 i acc).1 = acc := rfl
    rw [e1] at h1'
    have ew : wrap64 (acc * rd b 0) = acc * rd b 0 := by
      rcases hb0 with e | e
      · rw [e]; unfold big at hac; rw [wrap_id (by omega) (by omega)]
      · rw [e]; unfold big at hac; rw [wrap_id (by omega) (by omega)]
    refine Ev.succ ?_; simp only [impl_DivideWhole.l1]
    rw [emn, wrap_succ (i := k) (by omega), ew]
    refine Ev.neg (by omega) ?_
    refine Ev.pos (by omega) ?_
    refine Ev.pos (by omega) ?_
    exact h1'
  | succ d ih =>
    intro i acc hi h1i hac h1 h2
    have hbi := hn _ (rd_mem (show i < b.length by omega))
    refine Ev.succ ?_; simp only [impl_DivideWhole.l1]
    have en : wrap64 (-(rd b (i : Int))) = -(rd b (i : Int)) := by unfold big at hbi; rw [wrap_id (by omega) (by omega)]
    rw [emn, wrap_id (x := (k : Int) - i) (by omega) (by omega), wrap_succ (i := i) (by omega), show (k : Int) - i = ((k - i : Nat) : Int) by omega, en]
    have ht := implTimes hac (show -big ≤ -(rd b (i : Int)) ∧ -(rd b (i : Int)) ≤ big by omega) (rd_small hqs (k - i))
    unfold dv at h1 h2
    refine Ev.pos (by omega) ?_
    refine Ev.pos (by omega) ?_
    refine Ev.pos (by omega) ?_
    refine Ev.pos (by omega) ?_
    refine Ev.pos (by omega) ?_
    refine Ev.bind ht ?_
    by_cases g : (more acc (-(rd b (i : Int))) (rd q ((k - i : Nat) : Int))).2 = true
    · rw [if_pos g] at h1 h2
      refine Ev.pos g ?_
      exact ih (i + 1) _ (by omega) (by omega) (more_small g) h1 h2
    · rw [if_neg g] at h1 h2
      rw [h2 (by decide)]
      exact Ev.neg g (Ev.now _)

include ha hs

theorem spec_outer_dv (n : Nat) (h : n = a.length + 1 - b.length) (hab : b.length ≤ a.length) (r : List Int × Int) (hr : ∀ Q, qs a b n = some Q → Ev (fun f => spec_DivideWhole.l0 f a b Q (n : Int)) r) (hr0 : qs a b n = none → r = ([], 3)) :
    ∀ (d k : Nat) (q : List Int), k + d = n → qs a b k = some q → Ev (fun f => spec_DivideWhole.l0 f a b q (k : Int)) r := by
  have hbp := b_pos b hb0
  intro d
  induction d with
  | zero =>
    intro k q hk hq
    have e : k = n := by omega
    subst e
    exact hr q hq
  | succ d ih =>
    intro k q hk hq
    obtain ⟨f1, f2⟩ := qs_form a b hs hb0 k q hq
    have en : qs a b (k + 1) = if (dv b q k (min (k + 1) b.length - 1) 1 (rd a (k : Int))).2 = true then some (q ++ [(dv b q k (min (k + 1) b.length - 1) 1 (rd a (k : Int))).1 * rd b 0]) else none := by
      conv => lhs; unfold qs
      rw [hq]
    refine Ev.succ ?_; simp only [spec_DivideWhole.l0]
    rw [wrap_id (x := (a.length : Int) - b.length) (by omega) (by omega)]
    refine Ev.pos (by omega) ?_
    refine Ev.pos (by omega) ?_
    refine Ev.pos (by omega) ?_
    refine spec_inner_dv a b hb hn hb0 q k (by omega) f1 f2 r (min (k + 1) b.length - 1) 1 (rd a (k : Int)) (by omega) (Nat.le_refl _) (rd_small hs k) (fun c => ?_) (fun c => ?_)
    · rw [if_pos c] at en
      exact ih (k + 1) _ (by omega) en
    · rw [if_neg c] at en
      exact hr0 (qs_none a b en (by omega))

theorem impl_outer_dv (n : Nat) (h : n = a.length + 1 - b.length) (hab : b.length ≤ a.length) (r : List Int × Int) (hr : ∀ Q, qs a b n = some Q → Ev (fun f => impl_DivideWhole.l0 f a b Q (n : Int) (n : Int)) r) (hr0 : qs a b n = none → r = ([], 3)) :
    ∀ (d k : Nat) (q : List Int), k + d = n → qs a b k = some q → Ev (fun f => impl_DivideWhole.l0 f a b q (n : Int) (k : Int)) r := by
  have hbp := b_pos b hb0
  intro d
  induction d with
  | zero =>
    intro k q hk hq
    have e : k = n := by omega
    subst e
    exact hr q hq
  | succ d ih =>
    intro k q hk hq
    obtain ⟨f1, f2⟩ := qs_form a b hs hb0 k q hq
    have en : qs a b (k + 1) = if (dv b q k (min (k + 1) b.length - 1) 1 (rd a (k : Int))).2 = true then some (q ++ [(dv b q k (min (k + 1) b.length - 1) 1 (rd a (k : Int))).1 * rd b 0]) else none := by
      conv => lhs; unfold qs
      rw [hq]
    have hat : impl_at.f a (k : Int) = some (rd a (k : Int)) := by
      unfold impl_at.f
      rw [if_pos (by omega), if_pos (by omega)]
    refine Ev.succ ?_; simp only [impl_DivideWhole.l0]
    refine Ev.pos (by omega) ?_
    refine Ev.bind (Ev.eq hat) ?_
    refine impl_inner_dv a b hb hn hb0 q k (n : Int) (by omega) f1 f2 r (min (k + 1) b.length - 1) 1 (rd a (k : Int)) (by omega) (Nat.le_refl _) (rd_small hs k) (fun c => ?_) (fun c => ?_)
    · rw [if_pos c] at en
      exact ih (k + 1) _ (by omega) en
    · rw [if_neg c] at en
      exact hr0 (qs_none a b en (by omega))

end

/-- A cut list of small numbers is a polynomial. -/
theorem whole_trim {q : List Int} (hq : q.length ≤ 40) (hs : ∀ y ∈ q, -big ≤ y ∧ y ≤ big) : ∀ i, i ≤ q.length → whole (trimN q i) = true := by
  intro i
  induction i with
  | zero => intro _; rfl
  | succ i ih =>
    intro hi
    unfold trimN
    by_cases c : rd q (i : Int) = 0
    · rw [if_pos c]; exact ih (by omega)
    · rw [if_neg c]
      unfold whole
      rw [Bool.and_eq_true, Bool.and_eq_true, List.all_eq_true, decide_eq_true_iff]
      refine ⟨⟨fun x hx => decide_eq_true (hs x (List.mem_of_mem_take hx)), by simp only [List.length_take]; omega⟩, ?_⟩
      rw [bne_iff_ne, List.getLast?_eq_getElem?]
      have e : (q.take (i + 1)).length = i + 1 := by simp only [List.length_take]; omega
      rw [e, Nat.add_sub_cancel, List.getElem?_take, if_pos (by omega), List.getElem?_eq_getElem (by omega)]
      rw [rd_lt (by omega)] at c
      intro x
      exact c (Option.some.inj x)

theorem implEqual_loop (x y : List Int) (hx : x.length ≤ 1048576) (hxy : x.length = y.length) : ∀ (d i : Nat), i + d = x.length → Ev (fun k => slices_Equal_int64_int64.l0 k x y (x.length : Int) (i : Int)) (decide (x.drop i = y.drop i)) := by
  intro d
  induction d with
  | zero =>
    intro i hi
    refine Ev.succ ?_; simp only [slices_Equal_int64_int64.l0]
    rw [List.drop_eq_nil_of_le (by omega), List.drop_eq_nil_of_le (by omega)]
    repeat (first | with_reducible exact Ev.now _ | dsimp only | refine Ev.pos (by first | omega | rfl | assumption | decide) ?_ | refine Ev.neg (by first | omega | assumption | exact Bool.false_ne_true | exact fun e => absurd e (by decide)) ?_ | simp only [bne_self_eq_false, Bool.not_true, Bool.not_false, List.length_cons, List.length_nil] | rw [wrap_id (by omega) (by omega)] | ((with_reducible refine Ev.eq (congrArg some ?_)); rfl))
  | succ d ih =>
    intro i hi
    refine Ev.succ ?_; simp only [slices_Equal_int64_int64.l0]
    rw [List.drop_eq_getElem_cons (by omega : i < x.length), List.drop_eq_getElem_cons (by omega : i < y.length), wrap_succ (by omega)]
    by_cases e : rd x i = rd y i
    · repeat (first | with_reducible exact Ev.now _ | dsimp only | refine Ev.pos (by first | omega | rfl | assumption | decide) ?_ | refine Ev.neg (by first | omega | assumption | exact Bool.false_ne_true | exact fun e => absurd e (by decide)) ?_ | simp only [bne_self_eq_false, Bool.not_true, Bool.not_false, List.length_cons, List.length_nil] | rw [wrap_id (by omega) (by omega)] | ((with_reducible refine Ev.eq (congrArg some ?_)); rfl))
      have := ih (i + 1) (by omega)
      rw [rd_lt (by omega), rd_lt (by omega)] at e
      rw [e, decide_cons]
      exact this
    · rw [decide_eq_false (fun h => e (by rw [rd_lt (by omega), rd_lt (by omega)]; exact (List.cons.inj h).1))]
      repeat (first | with_reducible exact Ev.now _ | dsimp only | refine Ev.pos (by first | omega | rfl | assumption | decide) ?_ | refine Ev.neg (by first | omega | assumption | exact Bool.false_ne_true | exact fun e => absurd e (by decide)) ?_ | simp only [bne_self_eq_false, Bool.not_true, Bool.not_false, List.length_cons, List.length_nil] | rw [wrap_id (by omega) (by omega)] | ((with_reducible refine Ev.eq (congrArg some ?_)); rfl))

theorem implEqual (x y : List Int) (hx : x.length ≤ 1048576) : Ev (fun k => slices_Equal_int64_int64.f k x y) (decide (x = y)) := by
  unfold slices_Equal_int64_int64.f
  by_cases h : x.length = y.length
  · refine Ev.pos (by omega) ?_
    exact implEqual_loop x y hx h x.length 0 (by omega)
  · rw [decide_eq_false (fun e => h (by rw [e]))]
    exact Ev.neg (by omega) (Ev.now _)

theorem specSame_loop (a Q p : List Int) (ha : a.length ≤ 40) (hQ : Q.length ≤ 1048576) (hp : p.length = a.length) : ∀ (d i : Nat), i + d = a.length → p.take i = a.take i → Ev (fun k => spec_DivideWhole.l2 k a Q p true (i : Int)) (if p = a then (trimN Q Q.length, 0) else ([], 4)) := by
  intro d
  induction d with
  | zero =>
    intro i hi ht
    refine Ev.succ ?_; simp only [spec_DivideWhole.l2]
    rw [if_pos (eq_of_take hp (by omega) ht)]
    have := specTrim Q hQ
    repeat (first | with_reducible exact Ev.now _ | dsimp only | with_reducible refine Ev.bind (this) ?_ | refine Ev.pos (by first | omega | rfl | assumption | decide) ?_ | refine Ev.neg (by first | omega | assumption | exact Bool.false_ne_true | exact fun e => absurd e (by decide)) ?_ | simp only [bne_self_eq_false, Bool.not_true, Bool.not_false, List.length_cons, List.length_nil] | rw [wrap_id (by omega) (by omega)] | with_reducible exact (this) | ((with_reducible refine Ev.eq (congrArg some ?_)); rfl))
  | succ d ih =>
    intro i hi ht
    refine Ev.succ ?_; simp only [spec_DivideWhole.l2]
    rw [wrap_succ (by omega)]
    refine Ev.pos (by omega) ?_
    refine Ev.pos (by first | exact trivial | rfl) ?_
    refine Ev.pos (by omega) ?_
    refine Ev.pos (by omega) ?_
    by_cases c : rd p (i : Int) = rd a (i : Int)
    · rw [show (rd p (i : Int) == rd a (i : Int)) = true from beq_iff_eq.2 c]
      refine ih (i + 1) (by omega) ?_
      rw [rd_lt (by omega), rd_lt (by omega)] at c
      rw [List.take_succ_eq_append_getElem (by omega), List.take_succ_eq_append_getElem (by omega), ht, c]
    · rw [show (rd p (i : Int) == rd a (i : Int)) = false from beq_eq_false_iff_ne.2 c]
      rw [if_neg (fun e => c (by rw [e]))]
      refine Ev.succ ?_
      simp only [spec_DivideWhole.l2]
      by_cases e : ((i + 1 : Nat) : Int) < a.length
      · exact Ev.pos e (Ev.neg (by decide) (Ev.now _))
      · exact Ev.neg e (Ev.neg (by decide) (Ev.now _))

theorem specSame (a Q p : List Int) (ha : a.length ≤ 40) (hQ : Q.length ≤ 1048576) (ha0 : 0 < a.length) : Ev (fun k => spec_DivideWhole.l2 k a Q p ((p.length : Int) == (a.length : Int)) 0) (if p = a then (trimN Q Q.length, 0) else ([], 4)) := by
  by_cases h : p.length = a.length
  · rw [show ((p.length : Int) == (a.length : Int)) = true from beq_iff_eq.2 (by omega)]
    exact specSame_loop a Q p ha hQ h a.length 0 (by omega) (by simp)
  · rw [show ((p.length : Int) == (a.length : Int)) = false from beq_eq_false_iff_ne.2 (by omega), if_neg (fun e => h (by rw [e]))]
    refine Ev.succ ?_
    simp only [spec_DivideWhole.l2]
    exact Ev.pos (by omega) (Ev.neg (by decide) (Ev.now _))

theorem divide_core (a b : List Int) (hwa : whole a = true) (hwb : whole b = true) (hb0 : rd b 0 = 1 ∨ rd b 0 = -1) (ha0 : 0 < a.length) (hab : b.length ≤ a.length) : ∃ r : List Int × Int, r.1.length ≤ 1048576 ∧ Ev (fun k => spec_DivideWhole.l0 k a b [] 0) r ∧ Ev (fun k => impl_DivideWhole.j0 k a b) r := by
  have ha := whole_length hwa
  have hb := whole_length hwb
  have hs : ∀ y ∈ a, -big ≤ y ∧ y ≤ big := whole_small hwa
  have hn : ∀ y ∈ b, -big ≤ y ∧ y ≤ big := whole_small hwb
  have hbp := b_pos b hb0
  obtain ⟨n, hN⟩ : ∃ n, n = a.length + 1 - b.length := ⟨_, rfl⟩
  have emx : mx 0 (wrap64 ((wrap64 ((a.length : Int) - (b.length : Int))) + 1)) = (n : Int) := by
    rw [wrap_id (x := (a.length : Int) - b.length) (by omega) (by omega), wrap_id (by omega) (by omega)]
    unfold mx
    split <;> omega
  have hj : ∀ r, Ev (fun k => impl_DivideWhole.l0 k a b [] (n : Int) ((0 : Nat) : Int)) r → Ev (fun k => impl_DivideWhole.j0 k a b) r := fun r h => by
    refine Ev.succ ?_; simp only [impl_DivideWhole.j0]
    rw [emx]
    exact h
  cases hq : qs a b n with
  | none =>
    refine ⟨([], 3), by simp, ?_, hj _ ?_⟩
    · exact spec_outer_dv a b ha hs hb hn hb0 n hN hab _ (fun Q h => by rw [hq] at h; cases h) (fun _ => rfl) n 0 [] (by omega) rfl
    · exact impl_outer_dv a b ha hs hb hn hb0 n hN hab _ (fun Q h => by rw [hq] at h; cases h) (fun _ => rfl) n 0 [] (by omega) rfl
  | some Q =>
    obtain ⟨f1, f2⟩ := qs_form a b hs hb0 n Q hq
    have hw := whole_trim (q := Q) (by omega) f2 Q.length (Nat.le_refl _)
    obtain ⟨p, hp, hsp, hip⟩ := product_same (trimN Q Q.length) b hw hwb
    have ht1 := specTrim Q (by omega)
    have ht2 := implTrim Q (by omega)
    have htl := trimN_length Q Q.length
    obtain ⟨r, hrd⟩ : ∃ r : List Int × Int, r = if p.2 = true then (if p.1 = a then (trimN Q Q.length, 0) else ([], 4)) else ([], 3) := ⟨_, rfl⟩
    have hrl : r.1.length ≤ 1048576 := by
      rw [hrd]
      split
      · split
        · simp only; omega
        · simp
      · simp
    refine ⟨r, hrl, ?_, hj _ ?_⟩
    · refine spec_outer_dv a b ha hs hb hn hb0 n hN hab _ (fun Q' h => ?_) (fun h => by rw [hq] at h; cases h) n 0 [] (by omega) rfl
      rw [hq] at h
      cases h
      refine Ev.succ ?_; simp only [spec_DivideWhole.l0]
      rw [wrap_id (x := (a.length : Int) - b.length) (by omega) (by omega)]
      refine Ev.neg (by omega) ?_
      refine Ev.bind ht1 ?_
      refine Ev.bind hsp ?_
      by_cases c : p.2 = true
      · rw [hrd, if_pos c]
        refine Ev.pos c ?_
        exact specSame a Q p.1 ha (by omega) ha0
      · rw [hrd, if_neg c]
        exact Ev.neg c (Ev.now _)
    · refine impl_outer_dv a b ha hs hb hn hb0 n hN hab _ (fun Q' h => ?_) (fun h => by rw [hq] at h; cases h) n 0 [] (by omega) rfl
      rw [hq] at h
      cases h
      refine Ev.succ ?_; simp only [impl_DivideWhole.l0]
      refine Ev.neg (by omega) ?_
      refine Ev.neg (by omega) ?_
      refine Ev.succ ?_; simp only [impl_DivideWhole.j3]
      refine Ev.bind ht2 ?_
      refine Ev.bind hip ?_
      by_cases c : p.2 = true
      · rw [hrd, if_pos c]
        refine Ev.pos c ?_
        refine Ev.bind (implEqual p.1 a hp) ?_
        by_cases e : p.1 = a
        · rw [if_pos e, decide_eq_true e]
          exact Ev.pos rfl (Ev.now _)
        · rw [if_neg e, decide_eq_false e]
          exact Ev.neg (by decide) (Ev.now _)
      · rw [hrd, if_neg c]
        exact Ev.neg c (Ev.now _)

/-- The empty polynomial divided. -/
theorem divide_empty (b : List Int) (hwb : whole b = true) (hb0 : rd b 0 = 1 ∨ rd b 0 = -1) : Ev (fun k => impl_DivideWhole.j0 k [] b) ([], 0) := by
  have hb := whole_length hwb
  have hn : ∀ y ∈ b, -big ≤ y ∧ y ≤ big := whole_small hwb
  have hbp := b_pos b hb0
  have tail : ∀ (x : List Int) (N : Int) (k : Int), ¬ k < N → Ev (fun f => impl_DivideWhole.l0 f [] b x N k) ([], 0) := fun x N k hk => by
    refine Ev.succ ?_; simp only [impl_DivideWhole.l0]
    refine Ev.neg hk ?_
    refine Ev.pos (by decide) ?_
    refine Ev.succ ?_; simp only [impl_DivideWhole.j3]
    refine Ev.bind (implTrim [] (by simp)) ?_
    have hm : Ev (fun f => impl_multiply.f f (trimN [] ([] : List Int).length) b) ([], true) := by
      unfold impl_multiply.f
      refine Ev.pos (by decide) ?_
      refine Ev.succ ?_; simp only [impl_multiply.j0]
      exact Ev.pos (by first | exact trivial | rfl) (Ev.now _)
    refine Ev.bind hm (Ev.pos rfl ?_)
    refine Ev.bind (implEqual [] [] (by simp)) ?_
    rw [decide_eq_true rfl]
    exact Ev.pos rfl (Ev.now _)
  refine Ev.succ ?_; simp only [impl_DivideWhole.j0]
  have e0 : wrap64 (wrap64 ((([] : List Int).length : Int) - (b.length : Int)) + 1) = 1 - (b.length : Int) := by
    rw [List.length_nil, wrap_id (x := ((0 : Nat) : Int) - (b.length : Int)) (by omega) (by omega), wrap_id (by omega) (by omega)]
    omega
  rw [e0]
  by_cases c : b.length = 1
  · have emx : mx 0 (1 - (b.length : Int)) = 0 := by unfold mx; rw [if_neg (by omega)]
    rw [emx]
    exact tail [] 0 0 (by omega)
  · have emx : mx 0 (1 - (b.length : Int)) = 0 := by unfold mx; rw [if_neg (by omega)]
    rw [emx]
    exact tail [] 0 0 (by omega)

theorem divide_same (a b : List Int) (ha : a.length ≤ 1048576) (hb : b.length ≤ 1048576) : ∃ r : List Int × Int, r.1.length ≤ 1048576 ∧ Ev (fun k => spec_DivideWhole.f k a b) r ∧ Ev (fun k => impl_DivideWhole.f k a b) r := by
  unfold spec_DivideWhole.f impl_DivideWhole.f
  have h1 := specPoly a ha
  have h1' := specPoly b hb
  have h2 := areWhole2 a b ha hb
  by_cases hw : whole a = true
  · rw [hw] at h1 h2
    by_cases hw' : whole b = true
    · rw [hw'] at h1' h2
      rw [Bool.and_true] at h2
      have hb40 := whole_length hw'
      have ha40 := whole_length hw
      have hn : ∀ y ∈ b, -big ≤ y ∧ y ≤ big := whole_small hw'
      have hbs : -big ≤ rd b 0 ∧ rd b 0 ≤ big := rd_small hn 0
      have hat : impl_at.f b 0 = some (rd b 0) := by
        unfold impl_at.f
        by_cases e : b.length = 0
        · have : rd b ((0 : Nat) : Int) = 0 := rd_ge (by omega)
          rw [if_neg (by omega)]
          exact congrArg some this.symm
        · rw [if_pos (by omega), if_pos (by decide)]
      have habs : impl_absolute.f (rd b 0) = some ((rd b 0).natAbs : Int) := by
        unfold impl_absolute.f
        rw [mx_abs hbs]
      by_cases hb0 : rd b 0 = 1 ∨ rd b 0 = -1
      · have hbp := b_pos b hb0
        have hna : ((rd b 0).natAbs : Int) = 1 := by omega
        have spec1 : ∀ r, Ev (fun k => spec_DivideWhole.j1 k a b false) r → Ev (fun k => (spec_l01Poly.f k a).bind fun t => if t = true then ((spec_l01Poly.f k b).bind fun t => spec_DivideWhole.j0 k a b (!t)) else spec_DivideWhole.j0 k a b true) r := fun r h => by
          refine Ev.bind h1 (Ev.pos rfl (Ev.bind h1' ?_))
          refine Ev.succ ?_
          simp only [spec_DivideWhole.j0]
          refine Ev.neg (by decide) ?_
          refine Ev.neg (by omega) ?_
          refine Ev.pos (by omega) ?_
          by_cases c : rd b 0 = 1
          · exact Ev.pos c h
          · refine Ev.neg c ?_
            rw [show (rd b 0 != -1) = false by rw [bne_eq_false_iff_eq]; omega]
            exact h
        by_cases ha0 : a.length = 0
        · have e : a = [] := List.length_eq_zero_iff.1 ha0
          refine ⟨([], 0), by simp, spec1 _ ?_, ?_⟩
          · refine Ev.succ ?_
            simp only [spec_DivideWhole.j1]
            refine Ev.neg (by first | decide | simp) ?_
            exact Ev.pos (by omega) (Ev.now _)
          · refine Ev.bind h2 (Ev.pos rfl (Ev.bind (Ev.eq hat) (Ev.bind (Ev.eq habs) (Ev.pos hna (Ev.neg (by omega) ?_)))))
            rw [e]
            exact divide_empty b hw' hb0
        · by_cases hab : b.length ≤ a.length
          · obtain ⟨r, hr, hs, hi⟩ := divide_core a b hw hw' hb0 (by omega) hab
            refine ⟨r, hr, spec1 _ ?_, ?_⟩
            · refine Ev.succ ?_
              simp only [spec_DivideWhole.j1]
              refine Ev.neg (by first | decide | simp) ?_
              exact Ev.neg (by omega) (Ev.neg (by omega) hs)
            · exact Ev.bind h2 (Ev.pos rfl (Ev.bind (Ev.eq hat) (Ev.bind (Ev.eq habs) (Ev.pos hna (Ev.pos (by omega) (Ev.neg (by omega) hi))))))
          · refine ⟨([], 4), by simp, spec1 _ ?_, ?_⟩
            · refine Ev.succ ?_
              simp only [spec_DivideWhole.j1]
              refine Ev.neg (by first | decide | simp) ?_
              exact Ev.neg (by omega) (Ev.pos (by omega) (Ev.now _))
            · exact Ev.bind h2 (Ev.pos rfl (Ev.bind (Ev.eq hat) (Ev.bind (Ev.eq habs) (Ev.pos hna (Ev.pos (by omega) (Ev.pos (by omega) (Ev.now _)))))))
      · have hna : ¬ ((rd b 0).natAbs : Int) = 1 := by omega
        refine ⟨([], 5), by simp, ?_, ?_⟩
        · refine Ev.bind h1 (Ev.pos rfl (Ev.bind h1' ?_))
          have five : Ev (fun k => spec_DivideWhole.j1 k a b true) ([], 5) := by
            refine Ev.succ ?_
            simp only [spec_DivideWhole.j1]
            exact Ev.pos (by first | exact trivial | rfl) (Ev.now _)
          refine Ev.succ ?_
          simp only [spec_DivideWhole.j0]
          refine Ev.neg (by decide) ?_
          by_cases e : b.length = 0
          · exact Ev.pos (by omega) five
          · refine Ev.neg (by omega) (Ev.pos (by omega) (Ev.neg (by omega) ?_))
            rw [show (rd b 0 != -1) = true by rw [bne_iff_ne]; omega]
            exact five
        · exact Ev.bind h2 (Ev.pos rfl (Ev.bind (Ev.eq hat) (Ev.bind (Ev.eq habs) (Ev.neg hna (Ev.now _)))))
    · rw [Bool.not_eq_true] at hw'
      rw [hw'] at h1' h2
      rw [Bool.and_false] at h2
      refine ⟨([], 1), by simp, ?_, ?_⟩
      · refine Ev.bind h1 (Ev.pos rfl (Ev.bind h1' ?_))
        refine Ev.succ ?_
        simp only [spec_DivideWhole.j0]
        exact Ev.pos (by first | exact trivial | rfl) (Ev.now _)
      · exact Ev.bind h2 (Ev.neg (by decide) (Ev.now _))
  · rw [Bool.not_eq_true] at hw
    rw [hw] at h1 h2
    rw [Bool.false_and] at h2
    refine ⟨([], 1), by simp, ?_, ?_⟩
    · refine Ev.bind h1 (Ev.neg (by decide) ?_)
      refine Ev.succ ?_
      simp only [spec_DivideWhole.j0]
      exact Ev.pos (by first | exact trivial | rfl) (Ev.now _)
    · exact Ev.bind h2 (Ev.neg (by decide) (Ev.now _))

theorem FnExactDivideWhole : laws_FnExactDivideWhole.Pure := by
  intro l m _ _ _ _
  refine Ev.rounds ?_
  unfold laws_FnExactDivideWhole.f
  by_cases h : (l.length : Int) > 1048576
  · repeat (first | with_reducible exact Ev.now _ | dsimp only | refine Ev.pos (by first | omega | rfl | assumption | decide) ?_ | refine Ev.neg (by first | omega | assumption | exact Bool.false_ne_true | exact fun e => absurd e (by decide)) ?_ | simp only [bne_self_eq_false, Bool.not_true, Bool.not_false, List.length_cons, List.length_nil] | rw [wrap_id (by omega) (by omega)] | ((with_reducible refine Ev.eq (congrArg some ?_)); rfl))
  by_cases h' : (m.length : Int) > 1048576
  · repeat (first | with_reducible exact Ev.now _ | dsimp only | refine Ev.pos (by first | omega | rfl | assumption | decide) ?_ | refine Ev.neg (by first | omega | assumption | exact Bool.false_ne_true | exact fun e => absurd e (by decide)) ?_ | simp only [bne_self_eq_false, Bool.not_true, Bool.not_false, List.length_cons, List.length_nil] | rw [wrap_id (by omega) (by omega)] | ((with_reducible refine Ev.eq (congrArg some ?_)); rfl))
  have hl : l.length ≤ 1048576 := by omega
  have hm : m.length ≤ 1048576 := by omega
  obtain ⟨r, hr, hs, hi⟩ := divide_same l m hl hm
  repeat (first | with_reducible exact Ev.now _ | dsimp only | with_reducible refine Ev.bind (toInt64S l hl) ?_ | with_reducible refine Ev.bind (toInt64S m hm) ?_ | with_reducible refine Ev.bind (hs) ?_ | with_reducible refine Ev.bind (hi) ?_ | with_reducible refine Ev.bind (eqInt64S_self r.1 hr) ?_ | with_reducible refine Ev.bind (eqInt64S_self l hl) ?_ | with_reducible refine Ev.bind (eqInt64S_self m hm) ?_ | with_reducible refine Ev.bind (markInt64S l hl 1 (by omega) (by omega)) ?_ | with_reducible refine Ev.bind (markInt64S m hm (1 + l.length) (by omega) (by omega)) ?_ | with_reducible refine Ev.bind (markInt64S r.1 hr 1 (by omega) (by omega)) ?_ | with_reducible refine Ev.bind (heldInt64S 1 r.1.length hr (by omega) (by omega)) ?_ | refine Ev.pos (by first | omega | rfl | assumption | decide) ?_ | refine Ev.neg (by first | omega | assumption | exact Bool.false_ne_true | exact fun e => absurd e (by decide)) ?_ | simp only [bne_self_eq_false, Bool.not_true, Bool.not_false, List.length_cons, List.length_nil] | rw [wrap_id (by omega) (by omega)] | with_reducible exact (toInt64S l hl) | with_reducible exact (toInt64S m hm) | with_reducible exact (hs) | with_reducible exact (hi) | with_reducible exact (eqInt64S_self r.1 hr) | with_reducible exact (eqInt64S_self l hl) | with_reducible exact (eqInt64S_self m hm) | with_reducible exact (markInt64S l hl 1 (by omega) (by omega)) | with_reducible exact (markInt64S m hm (1 + l.length) (by omega) (by omega)) | with_reducible exact (markInt64S r.1 hr 1 (by omega) (by omega)) | with_reducible exact (heldInt64S 1 r.1.length hr (by omega) (by omega)) | ((with_reducible refine Ev.eq (congrArg some ?_)); rfl))
end Go.Proofs.Yteeoehohocoecaa.Pure
