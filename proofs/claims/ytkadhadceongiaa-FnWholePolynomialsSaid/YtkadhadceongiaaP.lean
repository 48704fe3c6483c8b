/- The plain proofs for this law. -/
import Derived.Test.YtkadhadceongiaaC4
import Derived.Test.YtkadhadceongiaaAux
namespace Go.Proofs.Ytkadhadceongiaa.Pure
open Go.RowKit Go.Proofs.Ytkadhadceongiaa.G Go.Proofs.YtkadhadceongiaaW.PrintWords Go.Proofs.YtkadhadceongiaaW.PrintLast Go.Proofs.YtkadhadceongiaaW.PrintMore Go.Proofs.Ytkadhadceongiaa.Aux
set_option linter.unusedVariables false
set_option linter.unusedSimpArgs false

theorem rl_lt {xs : List (List Int)} {i : Nat} (h : i < xs.length) : rd_L2 xs (i : Int) = xs[i] := by
 simp [rd_L2, List.getD_eq_getElem?_getD, h]

/-- Rows of which each, and their number, is of a moderate size. -/
def Mod (l : List (List Int)) : Prop := l.length ≤ 1048576 ∧ ∀ r ∈ l, r.length ≤ 1048576

theorem Mod.row {l : List (List Int)} (h : Mod l) {i : Nat} (hi : i < l.length) : l[i].length ≤ 1048576 := h.2 _ (List.getElem_mem hi)
def small (x : Int) : Bool := decide (-1000000000000000 ≤ x ∧ x ≤ 1000000000000000)

def whole (l : List Int) : Bool := l.all small && decide (l.length ≤ 40) && (l.getLast? != some 0)

theorem specIn (a b c : Int) : spec_l01In.f a b c = some (decide (b ≤ a ∧ a ≤ c)) := by
 unfold spec_l01In.f
 by_cases h : b ≤ a
 ·rw [if_pos h]; simp [h]
 ·rw [if_neg h]; simp [h]

theorem implWithin (a b c : Int) : impl_within.f a b c = some (decide (b ≤ a ∧ a ≤ c)) := by
 unfold impl_within.f
 by_cases h : b ≤ a
 ·rw [if_pos h]; simp [h]
 ·rw [if_neg h]; simp [h]

theorem implSmall (x : Int) : impl_isSmall.f x = some (small x) := by
 unfold impl_isSmall.f
 rw [implWithin]
 rfl

theorem last_rd (l : List Int) (h : l ≠ []) : rd l ((l.length : Int) - 1) = l.getLast h := by
 have hp := List.length_pos_iff.2 h
 have : (l.length : Int) - 1 = ((l.length - 1 : Nat) : Int) := by omega
 rw [this, rd_lt (by omega), List.getLast_eq_getElem]

theorem end_test (l : List Int) (hl : l.length ≤ 1048576) : Ev (fun _ => (if (l.length : Int) ≤ 40 then (if (l.length : Int) = 0 then (some true) else (if 0 ≤ (wrap64 ((l.length : Int) - 1)) then (if (wrap64 ((l.length : Int) - 1)) < (l.length : Int) then (some ((rd l (wrap64 ((l.length : Int) - 1))) != 0)) else (none)) else (none))) else (some false)))
  (decide (l.length ≤ 40) && (l.getLast? != some 0)) := by
 by_cases h40 : (l.length : Int) ≤ 40
 ·rw [decide_eq_true (show l.length ≤ 40 by omega), Bool.true_and]
  by_cases h0 : (l.length : Int) = 0
  ·have : l = [] := List.length_eq_zero_iff.1 (by omega)
   subst this
   exact Ev.now _
  ·have hne : l ≠ [] := fun e => h0 (by rw [e]; rfl)
   rw [wrap_id (by omega) (by omega), last_rd l hne, List.getLast?_eq_some_getLast hne]
   have : (some (l.getLast hne) != some 0) = (l.getLast hne != 0) := rfl
   rw [this]
   repeat (first | with_reducible exact Ev.now _ | dsimp only | refine Ev.pos (by first | omega | rfl | assumption | decide) ?_ | refine Ev.neg (by first | omega | assumption | exact Bool.false_ne_true | exact fun e => absurd e (by decide)) ?_ | simp only [bne_self_eq_false, Bool.not_true, Bool.not_false, List.length_cons, List.length_nil] | rw [wrap_id (by omega) (by omega)] | ((with_reducible refine Ev.eq (congrArg some ?_)); rfl))
 ·rw [decide_eq_false (show ¬ l.length ≤ 40 by omega), Bool.false_and]
  repeat (first | with_reducible exact Ev.now _ | dsimp only | refine Ev.pos (by first | omega | rfl | assumption | decide) ?_ | refine Ev.neg (by first | omega | assumption | exact Bool.false_ne_true | exact fun e => absurd e (by decide)) ?_ | simp only [bne_self_eq_false, Bool.not_true, Bool.not_false, List.length_cons, List.length_nil] | rw [wrap_id (by omega) (by omega)] | ((with_reducible refine Ev.eq (congrArg some ?_)); rfl))

theorem specPoly_loop (l : List Int) (hl : l.length ≤ 1048576) : ∀ (d i : Nat), i + d = l.length →
  Ev (fun k => spec_l01Poly.l0 k l (i : Int)) ((l.drop i).all small && (decide (l.length ≤ 40) && (l.getLast? != some 0))) := by
 intro d
 induction d with
 | zero =>
  intro i hi
  refine Ev.succ ?_; simp only [spec_l01Poly.l0]
  rw [List.drop_eq_nil_of_le (by omega), List.all_nil, Bool.true_and]
  refine Ev.neg (by omega) ?_
  exact end_test l hl
 | succ d ih =>
  intro i hi
  refine Ev.succ ?_; simp only [spec_l01Poly.l0]
  rw [List.drop_eq_getElem_cons (by omega : i < l.length), List.all_cons, rd_lt (by omega), wrap_succ (by omega), specIn]
  have := ih (i + 1) (by omega)
  by_cases h : small l[i] = true
  ·rw [h, Bool.true_and]
   unfold small at h
   repeat (first | with_reducible exact Ev.now _ | dsimp only | with_reducible refine Ev.bind (Ev.eq (congrArg some h)) ?_ | refine Ev.pos (by first | omega | rfl | assumption | decide) ?_ | refine Ev.neg (by first | omega | assumption | exact Bool.false_ne_true | exact fun e => absurd e (by decide)) ?_ | simp only [bne_self_eq_false, Bool.not_true, Bool.not_false, List.length_cons, List.length_nil] | rw [wrap_id (by omega) (by omega)] | with_reducible exact (Ev.eq (congrArg some h)) | ((with_reducible refine Ev.eq (congrArg some ?_)); rfl))
   exact this
  ·rw [Bool.not_eq_true] at h
   rw [h, Bool.false_and, Bool.false_and]
   unfold small at h
   repeat (first | with_reducible exact Ev.now _ | dsimp only | with_reducible refine Ev.bind (Ev.eq (congrArg some h)) ?_ | refine Ev.pos (by first | omega | rfl | assumption | decide) ?_ | refine Ev.neg (by first | omega | assumption | exact Bool.false_ne_true | exact fun e => absurd e (by decide)) ?_ | simp only [bne_self_eq_false, Bool.not_true, Bool.not_false, List.length_cons, List.length_nil] | rw [wrap_id (by omega) (by omega)] | with_reducible exact (Ev.eq (congrArg some h)) | ((with_reducible refine Ev.eq (congrArg some ?_)); rfl))

theorem specPoly (l : List Int) (hl : l.length ≤ 1048576) : Ev (fun k => spec_l01Poly.f k l) (whole l) := by
 unfold spec_l01Poly.f whole
 rw [Bool.and_assoc]
 exact specPoly_loop l hl l.length 0 (by omega)

theorem implWhole_loop (l : List Int) (hl : l.length ≤ 1048576) : ∀ (d i : Nat), i + d = l.length →
  Ev (fun k => impl_IsWhole.l0 k l l (l.length : Int) (i : Int)) ((l.drop i).all small && (decide (l.length ≤ 40) && (l.getLast? != some 0))) := by
 intro d
 induction d with
 | zero =>
  intro i hi
  refine Ev.succ ?_; simp only [impl_IsWhole.l0]
  rw [List.drop_eq_nil_of_le (by omega), List.all_nil, Bool.true_and]
  refine Ev.neg (by omega) ?_
  exact end_test l hl
 | succ d ih =>
  intro i hi
  refine Ev.succ ?_; simp only [impl_IsWhole.l0]
  rw [List.drop_eq_getElem_cons (by omega : i < l.length), List.all_cons, rd_lt (by omega), wrap_succ (by omega), implSmall]
  have := ih (i + 1) (by omega)
  by_cases h : small l[i] = true
  ·rw [h, Bool.true_and]
   repeat (first | with_reducible exact Ev.now _ | dsimp only | with_reducible refine Ev.bind (Ev.now _) ?_ | refine Ev.pos (by first | omega | rfl | assumption | decide) ?_ | refine Ev.neg (by first | omega | assumption | exact Bool.false_ne_true | exact fun e => absurd e (by decide)) ?_ | simp only [bne_self_eq_false, Bool.not_true, Bool.not_false, List.length_cons, List.length_nil] | rw [wrap_id (by omega) (by omega)] | with_reducible exact (Ev.now _) | ((with_reducible refine Ev.eq (congrArg some ?_)); rfl))
   exact this
  ·rw [Bool.not_eq_true] at h
   rw [h, Bool.false_and, Bool.false_and]
   repeat (first | with_reducible exact Ev.now _ | dsimp only | with_reducible refine Ev.bind (Ev.now _) ?_ | refine Ev.pos (by first | omega | rfl | assumption | decide) ?_ | refine Ev.neg (by first | omega | assumption | exact Bool.false_ne_true | exact fun e => absurd e (by decide)) ?_ | simp only [bne_self_eq_false, Bool.not_true, Bool.not_false, List.length_cons, List.length_nil] | rw [wrap_id (by omega) (by omega)] | with_reducible exact (Ev.now _) | ((with_reducible refine Ev.eq (congrArg some ?_)); rfl))

theorem implWhole (l : List Int) (hl : l.length ≤ 1048576) : Ev (fun k => impl_IsWhole.f k l) (whole l) := by
 unfold impl_IsWhole.f whole
 rw [Bool.and_assoc]
 exact implWhole_loop l hl l.length 0 (by omega)

theorem whole_small {l : List Int} (h : whole l = true) : ∀ x ∈ l, -1000000000000000 ≤ x ∧ x ≤ 1000000000000000 := by
 unfold whole at h
 rw [Bool.and_eq_true, Bool.and_eq_true, List.all_eq_true] at h
 intro x hx
 exact decide_eq_true_iff.1 (h.1.1 x hx)

theorem whole_length {l : List Int} (h : whole l = true) : l.length ≤ 40 := by
 unfold whole at h
 rw [Bool.and_eq_true, Bool.and_eq_true] at h
 exact decide_eq_true_iff.1 h.1.2

theorem whole_last {l : List Int} (h : whole l = true) : l.getLast? ≠ some 0 := by
 unfold whole at h
 rw [Bool.and_eq_true] at h
 exact bne_iff_ne.1 h.2
def big : Int := 1000000000000000

/-- a + b * c, and whether product and sum are small. -/
def more (a b c : Int) : Int × Bool := if -big ≤ b * c ∧ b * c ≤ big then (a + b * c, small (a + b * c)) else (0, false)

theorem mx_abs {a : Int} (h : -big ≤ a ∧ a ≤ big) : mx a (wrap64 (-a)) = a.natAbs := by
 unfold big at h
 rw [wrap_id (by omega) (by omega)]
 unfold mx
 split <;> omega

theorem guard_iff {b c : Int} (hb : b ≠ 0) : ¬ ((c.natAbs : Int) > big.tdiv (b.natAbs : Int)) ↔ (-big ≤ b * c ∧ b * c ≤ big) := by
 have hp : (0 : Int) < (b.natAbs : Int) := by omega
 rw [Int.tdiv_eq_ediv_of_nonneg (by decide), Int.not_lt, Int.le_ediv_iff_mul_le hp]
 have : (c.natAbs : Int) * (b.natAbs : Int) = ((b * c).natAbs : Int) := by
  rw [Int.natAbs_mul]
  push_cast
  exact Int.mul_comm _ _
 rw [this]
 omega

theorem div_small {b : Int} : wrap64 (big.tdiv (b.natAbs : Int)) = big.tdiv (b.natAbs : Int) := by
 have h1 : big.tdiv (b.natAbs : Int) = big / (b.natAbs : Int) := Int.tdiv_eq_ediv_of_nonneg (by decide)
 have h2 : big / (b.natAbs : Int) ≤ big := Int.ediv_le_self _ (by decide)
 have h3 : 0 ≤ big / (b.natAbs : Int) := Int.ediv_nonneg (by decide) (by omega)
 rw [h1]
 unfold big at *
 exact wrap_id (by omega) (by omega)

theorem sum_wrap {a p : Int} (ha : -big ≤ a ∧ a ≤ big) (hp : -big ≤ p ∧ p ≤ big) : wrap64 (a + wrap64 p) = a + p := by
 unfold big at *
 rw [wrap_id (x := p) (by omega) (by omega), wrap_id (by omega) (by omega)]

theorem specMore {a b c : Int} (ha : -big ≤ a ∧ a ≤ big) (hb : -big ≤ b ∧ b ≤ big) (hc : -big ≤ c ∧ c ≤ big) : spec_l01More.f a b c = some (more a b c) := by
 unfold spec_l01More.f more
 by_cases h0 : b = 0
 ·subst h0
  rw [if_pos rfl, Int.zero_mul, if_pos (by decide), sum_wrap ha (by decide), specIn]
  rfl
 ·rw [if_neg h0, mx_abs hb, mx_abs hc, if_neg (by omega)]
  rw [show (1000000000000000 : Int) = big from rfl, div_small (b := b)]
  by_cases h : -big ≤ b * c ∧ b * c ≤ big
  ·rw [if_neg ((guard_iff h0).2 h), if_pos h, sum_wrap ha h, specIn]
   rfl
  ·rw [if_pos (Decidable.not_not.1 (fun g => h ((guard_iff h0).1 g))), if_neg h]

theorem implTimes {a b c : Int} (ha : -big ≤ a ∧ a ≤ big) (hb : -big ≤ b ∧ b ≤ big) (hc : -big ≤ c ∧ c ≤ big) : Ev (fun k => impl_plusTimes.f k a b c) (more a b c) := by
 have hs : small a = true := decide_eq_true ha
 unfold impl_plusTimes.f
 by_cases h0 : b = 0
 ·refine Ev.pos h0 ?_
  refine Ev.succ ?_; simp only [impl_plusTimes.j0]
  subst h0
  unfold more
  rw [Int.zero_mul, if_pos (by decide), Int.add_zero, hs]
  repeat (first | with_reducible exact Ev.now _ | dsimp only | refine Ev.pos (by first | omega | rfl | assumption | decide) ?_ | refine Ev.neg (by first | omega | assumption | exact Bool.false_ne_true | exact fun e => absurd e (by decide)) ?_ | simp only [bne_self_eq_false, Bool.not_true, Bool.not_false, List.length_cons, List.length_nil] | rw [wrap_id (by omega) (by omega)] | ((with_reducible refine Ev.eq (congrArg some ?_)); rfl))
 ·refine Ev.neg h0 ?_
  refine Ev.succ ?_; simp only [impl_plusTimes.j0]
  by_cases h1 : c = 0
  ·subst h1
   unfold more
   rw [Int.mul_zero, if_pos (by decide), Int.add_zero, hs]
   repeat (first | with_reducible exact Ev.now _ | dsimp only | refine Ev.pos (by first | omega | rfl | assumption | decide) ?_ | refine Ev.neg (by first | omega | assumption | exact Bool.false_ne_true | exact fun e => absurd e (by decide)) ?_ | simp only [bne_self_eq_false, Bool.not_true, Bool.not_false, List.length_cons, List.length_nil] | rw [wrap_id (by omega) (by omega)] | ((with_reducible refine Ev.eq (congrArg some ?_)); rfl))
  ·rw [show (c == 0) = false from beq_eq_false_iff_ne.2 h1]
   refine Ev.neg (by decide) ?_
   unfold impl_absolute.f
   rw [mx_abs hb, mx_abs hc]
   repeat (first | with_reducible exact Ev.now _ | dsimp only | with_reducible refine Ev.bind (Ev.now _) ?_ | refine Ev.pos (by first | omega | rfl | assumption | decide) ?_ | refine Ev.neg (by first | omega | assumption | exact Bool.false_ne_true | exact fun e => absurd e (by decide)) ?_ | simp only [bne_self_eq_false, Bool.not_true, Bool.not_false, List.length_cons, List.length_nil] | rw [wrap_id (by omega) (by omega)] | with_reducible exact (Ev.now _) | ((with_reducible refine Ev.eq (congrArg some ?_)); rfl))
   rw [show (1000000000000000 : Int) = big from rfl, div_small (b := c)]
   unfold more
   by_cases h : -big ≤ b * c ∧ b * c ≤ big
   ·rw [if_pos h, sum_wrap ha h]
    refine Ev.neg ((guard_iff h1).2 (by rw [Int.mul_comm]; exact h)) ?_
    rw [implSmall]
    repeat (first | with_reducible exact Ev.now _ | dsimp only | with_reducible refine Ev.bind (Ev.now _) ?_ | refine Ev.pos (by first | omega | rfl | assumption | decide) ?_ | refine Ev.neg (by first | omega | assumption | exact Bool.false_ne_true | exact fun e => absurd e (by decide)) ?_ | simp only [bne_self_eq_false, Bool.not_true, Bool.not_false, List.length_cons, List.length_nil] | rw [wrap_id (by omega) (by omega)] | with_reducible exact (Ev.now _) | ((with_reducible refine Ev.eq (congrArg some ?_)); rfl))
   ·rw [if_neg h]
    refine Ev.pos (Decidable.not_not.1 (fun g => h (by rw [Int.mul_comm]; exact (guard_iff h1).1 g))) ?_
    repeat (first | with_reducible exact Ev.now _ | dsimp only | refine Ev.pos (by first | omega | rfl | assumption | decide) ?_ | refine Ev.neg (by first | omega | assumption | exact Bool.false_ne_true | exact fun e => absurd e (by decide)) ?_ | simp only [bne_self_eq_false, Bool.not_true, Bool.not_false, List.length_cons, List.length_nil] | rw [wrap_id (by omega) (by omega)] | ((with_reducible refine Ev.eq (congrArg some ?_)); rfl))
theorem areWhole_loop (L : List (List Int)) (hL : Mod L) : ∀ (d i : Nat), i + d = L.length →
  Ev (fun k => slices_IndexFunc_int64_int64_239_at_areWhole_1.l0 k L (L.length : Int) (i : Int)) (if (L.drop i).all whole = true then -1 else ((L.length : Int) - d + ((L.drop i).findIdx (fun x => !whole x) : Nat))) := by
 have hl1 := hL.1
 intro d
 induction d with
 | zero =>
  intro i hi
  refine Ev.succ ?_; simp only [slices_IndexFunc_int64_int64_239_at_areWhole_1.l0]
  rw [List.drop_eq_nil_of_le (by omega), List.all_nil, if_pos rfl]
  repeat (first | with_reducible exact Ev.now _ | dsimp only | refine Ev.pos (by first | omega | rfl | assumption | decide) ?_ | refine Ev.neg (by first | omega | assumption | exact Bool.false_ne_true | exact fun e => absurd e (by decide)) ?_ | simp only [bne_self_eq_false, Bool.not_true, Bool.not_false, List.length_cons, List.length_nil] | rw [wrap_id (by omega) (by omega)] | ((with_reducible refine Ev.eq (congrArg some ?_)); rfl))
 | succ d ih =>
  intro i hi
  refine Ev.succ ?_; simp only [slices_IndexFunc_int64_int64_239_at_areWhole_1.l0]
  rw [List.drop_eq_getElem_cons (by omega : i < L.length), List.all_cons, rl_lt (by omega), wrap_succ (by omega), List.findIdx_cons]
  have h1 : Ev (fun k => impl_areWhole_1.f k L[i]) (!whole L[i]) := by
   unfold impl_areWhole_1.f
   repeat (first | with_reducible exact Ev.now _ | dsimp only | with_reducible refine Ev.bind (implWhole L[i] (hL.row (by omega))) ?_ | refine Ev.pos (by first | omega | rfl | assumption | decide) ?_ | refine Ev.neg (by first | omega | assumption | exact Bool.false_ne_true | exact fun e => absurd e (by decide)) ?_ | simp only [bne_self_eq_false, Bool.not_true, Bool.not_false, List.length_cons, List.length_nil] | rw [wrap_id (by omega) (by omega)] | with_reducible exact (implWhole L[i] (hL.row (by omega))) | ((with_reducible refine Ev.eq (congrArg some ?_)); rfl))
  by_cases h : whole L[i] = true
  ·rw [h, Bool.not_true] at h1
   rw [h, Bool.true_and, Bool.not_true, cond_false]
   have := ih (i + 1) (by omega)
   rw [show ((L.length : Int) - (d + 1 : Nat) + ((L.drop (i + 1)).findIdx (fun x => !whole x) + 1 : Nat)) = (L.length : Int) - d + ((L.drop (i + 1)).findIdx (fun x => !whole x) : Nat) by omega]
   repeat (first | with_reducible exact Ev.now _ | dsimp only | with_reducible refine Ev.bind (h1) ?_ | refine Ev.pos (by first | omega | rfl | assumption | decide) ?_ | refine Ev.neg (by first | omega | assumption | exact Bool.false_ne_true | exact fun e => absurd e (by decide)) ?_ | simp only [bne_self_eq_false, Bool.not_true, Bool.not_false, List.length_cons, List.length_nil] | rw [wrap_id (by omega) (by omega)] | with_reducible exact (h1) | ((with_reducible refine Ev.eq (congrArg some ?_)); rfl))
   exact this
  ·rw [Bool.not_eq_true] at h
   rw [h, Bool.not_false] at h1
   rw [h, Bool.false_and, Bool.not_false, cond_true, if_neg (by decide), show (L.length : Int) - (d + 1 : Nat) + (0 : Nat) = i by omega]
   repeat (first | with_reducible exact Ev.now _ | dsimp only | with_reducible refine Ev.bind (h1) ?_ | refine Ev.pos (by first | omega | rfl | assumption | decide) ?_ | refine Ev.neg (by first | omega | assumption | exact Bool.false_ne_true | exact fun e => absurd e (by decide)) ?_ | simp only [bne_self_eq_false, Bool.not_true, Bool.not_false, List.length_cons, List.length_nil] | rw [wrap_id (by omega) (by omega)] | with_reducible exact (h1) | ((with_reducible refine Ev.eq (congrArg some ?_)); rfl))

theorem areWhole' (L : List (List Int)) (hL : Mod L) : Ev (fun k => impl_areWhole.f k L) (L.all whole) := by
 have hl1 := hL.1
 have h2 : Ev (fun k => slices_IndexFunc_int64_int64_239_at_areWhole_1.f k L) _ := areWhole_loop L hL L.length 0 (by omega)
 rw [List.drop_zero] at h2
 unfold impl_areWhole.f slices_ContainsFunc_int64_int64_205_at_areWhole_1.f
 by_cases h : L.all whole = true
 ·rw [if_pos h] at h2
  rw [h]
  repeat (first | with_reducible exact Ev.now _ | dsimp only | with_reducible refine Ev.bind (Ev.bind h2 (Ev.now _)) ?_ | refine Ev.pos (by first | omega | rfl | assumption | decide) ?_ | refine Ev.neg (by first | omega | assumption | exact Bool.false_ne_true | exact fun e => absurd e (by decide)) ?_ | simp only [bne_self_eq_false, Bool.not_true, Bool.not_false, List.length_cons, List.length_nil] | rw [wrap_id (by omega) (by omega)] | with_reducible exact (Ev.bind h2 (Ev.now _)) | ((with_reducible refine Ev.eq (congrArg some ?_)); rfl))
 ·rw [if_neg h] at h2
  rw [Bool.not_eq_true] at h
  rw [h]
  refine Ev.bind (Ev.bind h2 (Ev.now _)) ?_
  rw [decide_eq_true (by omega)]
  exact Ev.now _

theorem areWhole (l : List Int) (hl : l.length ≤ 1048576) : Ev (fun k => impl_areWhole.f k [l]) (whole l) := by
 have := areWhole' [l] ⟨by simp, fun r h => by rw [List.mem_singleton.1 h]; exact hl⟩
 rw [List.all_cons, List.all_nil, Bool.and_true] at this
 exact this

theorem areWhole2 (l m : List Int) (hl : l.length ≤ 1048576) (hm : m.length ≤ 1048576) : Ev (fun k => impl_areWhole.f k [l, m]) (whole l && whole m) := by
 have := areWhole' [l, m] ⟨by simp, fun r h => by
  rcases List.mem_cons.1 h with h | h
  ·rw [h]; exact hl
  ·rw [List.mem_singleton.1 h]; exact hm⟩
 rw [List.all_cons, List.all_cons, List.all_nil, Bool.and_true] at this
 exact this
/-- The first i numbers without zeros at the end. -/
def trimN (l : List Int) : Nat → List Int
 | 0 => []
 | i + 1 => if rd l (i : Int) = 0 then trimN l i else l.take (i + 1)

theorem trimN_length (l : List Int) (i : Nat) : (trimN l i).length ≤ l.length := by
 induction i with
 | zero => simp [trimN]
 | succ i ih =>
  unfold trimN
  split
  ·exact ih
  ·simp only [List.length_take]; omega

theorem specOwn (l : List Int) (hl : l.length ≤ 1048576) : spec_l01Own.f l = some l := by
 unfold spec_l01Own.f
 simp only [Option.bind_some, List.length_nil, List.nil_append]
 exact if_pos (by omega)

theorem specTrim_loop (l : List Int) (hl : l.length ≤ 1048576) : ∀ (i : Nat), i ≤ l.length → Ev (fun k => spec_l01Trim.l0 k l (i : Int)) (trimN l i) := by
 intro i
 induction i with
 | zero =>
  intro hi
  refine Ev.succ ?_; simp only [spec_l01Trim.l0]
  repeat (first | with_reducible exact Ev.now _ | dsimp only | with_reducible refine Ev.bind (Ev.eq (specOwn _ (by simp))) ?_ | refine Ev.pos (by first | omega | rfl | assumption | decide) ?_ | refine Ev.neg (by first | omega | assumption | exact Bool.false_ne_true | exact fun e => absurd e (by decide)) ?_ | simp only [bne_self_eq_false, Bool.not_true, Bool.not_false, List.length_cons, List.length_nil] | rw [wrap_id (by omega) (by omega)] | with_reducible exact (Ev.eq (specOwn _ (by simp))) | ((with_reducible refine Ev.eq (congrArg some ?_)); rfl))
 | succ i ih =>
  intro hi
  refine Ev.succ ?_; simp only [spec_l01Trim.l0]
  rw [wrap_id (by omega) (by omega), show ((i + 1 : Nat) : Int) - 1 = i by omega]
  unfold trimN
  by_cases h : rd l (i : Int) = 0
  ·rw [if_pos h]
   repeat (first | with_reducible exact Ev.now _ | dsimp only | refine Ev.pos (by first | omega | rfl | assumption | decide) ?_ | refine Ev.neg (by first | omega | assumption | exact Bool.false_ne_true | exact fun e => absurd e (by decide)) ?_ | simp only [bne_self_eq_false, Bool.not_true, Bool.not_false, List.length_cons, List.length_nil] | rw [wrap_id (by omega) (by omega)] | ((with_reducible refine Ev.eq (congrArg some ?_)); rfl))
   exact ih (by omega)
  ·rw [if_neg h, Int.toNat_natCast]
   repeat (first | with_reducible exact Ev.now _ | dsimp only | (with_reducible refine Ev.bind (Ev.eq (specOwn (l.take (i + 1)) (by simp only [List.length_take]; omega))) ?_) | refine Ev.pos (by first | omega | rfl | assumption | decide) ?_ | refine Ev.neg (by first | omega | assumption | exact Bool.false_ne_true | exact fun e => absurd e (by decide)) ?_ | simp only [bne_self_eq_false, Bool.not_true, Bool.not_false, List.length_cons, List.length_nil] | rw [wrap_id (by omega) (by omega)] | (with_reducible exact (Ev.eq (specOwn (l.take (i + 1)) (by simp only [List.length_take]; omega)))) | ((with_reducible refine Ev.eq (congrArg some ?_)); rfl))

theorem specTrim (l : List Int) (hl : l.length ≤ 1048576) : Ev (fun k => spec_l01Trim.f k l) (trimN l l.length) := by
 unfold spec_l01Trim.f
 exact specTrim_loop l hl _ (Nat.le_refl _)
theorem implTrim_loop (l : List Int) (hl : l.length ≤ 1048576) : ∀ (i : Nat), i ≤ l.length → Ev (fun k => impl_trimmed.l0 k (l.take i)) (trimN l i) := by
 intro i
 have hc : ∀ x : List Int, x.length ≤ 1048576 → slices_Clone_int64_int64.f x = some x := fun x hx => if_pos (by omega)
 induction i with
 | zero =>
  intro hi
  refine Ev.succ ?_; simp only [impl_trimmed.l0]
  rw [List.take_zero]
  repeat (first | with_reducible exact Ev.now _ | dsimp only | with_reducible refine Ev.bind (Ev.eq (hc _ (by simp))) ?_ | refine Ev.pos (by first | omega | rfl | assumption | decide) ?_ | refine Ev.neg (by first | omega | assumption | exact Bool.false_ne_true | exact fun e => absurd e (by decide)) ?_ | simp only [bne_self_eq_false, Bool.not_true, Bool.not_false, List.length_cons, List.length_nil] | rw [wrap_id (by omega) (by omega)] | with_reducible exact (Ev.eq (hc _ (by simp))) | ((with_reducible refine Ev.eq (congrArg some ?_)); rfl))
 | succ i ih =>
  intro hi
  refine Ev.succ ?_; simp only [impl_trimmed.l0]
  have e : (l.take (i + 1)).length = i + 1 := by simp only [List.length_take]; omega
  rw [e, wrap_id (by omega) (by omega), show ((i + 1 : Nat) : Int) - 1 = i by omega]
  have e2 : rd (l.take (i + 1)) (i : Int) = rd l (i : Int) := by rw [rd_lt (by omega), rd_lt (by omega), List.getElem_take]
  have e3 : (l.take (i + 1)).take i = l.take i := by rw [List.take_take, Nat.min_eq_left (by omega)]
  rw [e2, show ((i : Int)).toNat = i from rfl, e3]
  unfold trimN
  by_cases h : rd l (i : Int) = 0
  ·rw [if_pos h]
   repeat (first | with_reducible exact Ev.now _ | dsimp only | refine Ev.pos (by first | omega | rfl | assumption | decide) ?_ | refine Ev.neg (by first | omega | assumption | exact Bool.false_ne_true | exact fun e => absurd e (by decide)) ?_ | simp only [bne_self_eq_false, Bool.not_true, Bool.not_false, List.length_cons, List.length_nil] | rw [wrap_id (by omega) (by omega)] | ((with_reducible refine Ev.eq (congrArg some ?_)); rfl))
   exact ih (by omega)
  ·rw [if_neg h]
   repeat (first | with_reducible exact Ev.now _ | dsimp only | with_reducible refine Ev.bind (Ev.eq (hc (l.take (i + 1)) (by omega))) ?_ | refine Ev.pos (by first | omega | rfl | assumption | decide) ?_ | refine Ev.neg (by first | omega | assumption | exact Bool.false_ne_true | exact fun e => absurd e (by decide)) ?_ | simp only [bne_self_eq_false, Bool.not_true, Bool.not_false, List.length_cons, List.length_nil] | rw [wrap_id (by omega) (by omega)] | with_reducible exact (Ev.eq (hc (l.take (i + 1)) (by omega))) | ((with_reducible refine Ev.eq (congrArg some ?_)); rfl))

theorem implTrim (l : List Int) (hl : l.length ≤ 1048576) : Ev (fun k => impl_trimmed.f k l) (trimN l l.length) := by
 unfold impl_trimmed.f
 have := implTrim_loop l hl _ (Nat.le_refl _)
 rw [List.take_length] at this
 exact this
theorem more_small {a b c : Int} (h : (more a b c).2 = true) : -big ≤ (more a b c).1 ∧ (more a b c).1 ≤ big := by
 unfold more at h ⊢
 by_cases g : -big ≤ b * c ∧ b * c ≤ big
 ·rw [if_pos g] at h ⊢
  exact decide_eq_true_iff.1 h
 ·rw [if_neg g] at h
  cases h

section
variable (l m : List Int)

/-- The product's number k: d rounds from the place i on. -/
def cv (k : Nat) : Nat → Nat → Int → Int × Bool
 | 0, _, acc => (acc, true)
 | d + 1, i, acc => if i + m.length ≤ k then cv k d (i + 1) acc else if (more acc (rd l (i : Int)) (rd m ((k - i : Nat) : Int))).2 = true then cv k d (i + 1) (more acc (rd l (i : Int)) (rd m ((k - i : Nat) : Int))).1 else (0, false)

def cvk (k : Nat) : Int × Bool := cv l m k (min (k + 1) l.length) 0 0

def prod (n : Nat) : List Int := (List.range n).map (fun k => (cvk l m k).1)

theorem prod_length (n : Nat) : (prod l m n).length = n := by simp [prod]

theorem cv_skip (k : Nat) (acc : Int) : ∀ (e d i : Nat), i + e = k + 1 - m.length → e ≤ d → cv l m k d i acc = cv l m k (d - e) (i + e) acc := by
 intro e
 induction e with
 | zero => intro d i h h2; rfl
 | succ e ih =>
  intro d i h h2
  match d, h2 with
  | d + 1, h2 =>
   show (if i + m.length ≤ k then cv l m k d (i + 1) acc else _) = _
   rw [if_pos (by omega), ih d (i + 1) (by omega) (by omega), Nat.add_sub_add_right, show i + 1 + e = i + (e + 1) by omega]

theorem cv_last (n : Nat) (h : n + 1 = l.length + m.length - 1) (hl : 0 < l.length) (hm : 0 < m.length) (ok : (cvk l m n).2 = true) : (cvk l m n).1 = rd l ((l.length - 1 : Nat) : Int) * rd m ((m.length - 1 : Nat) : Int) := by
 have e : cvk l m n = cv l m n 1 (l.length - 1) 0 := by
  unfold cvk
  rw [cv_skip l m n 0 (l.length - 1) _ 0 (by omega) (by omega), Nat.zero_add]
  congr 1
  omega
 rw [e] at ok ⊢
 unfold cv at ok ⊢
 rw [if_neg (by omega)] at ok ⊢
 rw [show n - (l.length - 1) = m.length - 1 by omega] at ok ⊢
 by_cases g : (more 0 (rd l ((l.length - 1 : Nat) : Int)) (rd m ((m.length - 1 : Nat) : Int))).2 = true
 ·rw [if_pos g]
  unfold cv
  unfold more at g ⊢
  by_cases g2 : -big ≤ rd l ((l.length - 1 : Nat) : Int) * rd m ((m.length - 1 : Nat) : Int) ∧ rd l ((l.length - 1 : Nat) : Int) * rd m ((m.length - 1 : Nat) : Int) ≤ big
  ·rw [if_pos g2]
   exact Int.zero_add _
  ·rw [if_neg g2] at g
   cases g
 ·rw [if_neg g] at ok
  cases ok

variable (hl : l.length ≤ 40) (hs : ∀ y ∈ l, -big ≤ y ∧ y ≤ big) (hm : m.length ≤ 40) (hn : ∀ y ∈ m, -big ≤ y ∧ y ≤ big)
include hl hs hm hn

theorem spec_inner (k : Nat) (hk : k < 80) (x6 : List Int) (h6 : x6.length ≤ 80) (r : List Int × Bool) : ∀ (d i : Nat) (acc : Int), i + d = min (k + 1) l.length → (-big ≤ acc ∧ acc ≤ big) →
  ((cv l m k d i acc).2 = true → Ev (fun f => spec_l01Product.l0 f l m (x6 ++ [(cv l m k d i acc).1]) ((k + 1 : Nat) : Int)) r) → (¬ (cv l m k d i acc).2 = true → r = ([], false)) →
  Ev (fun f => spec_l01Product.l1 f l m x6 (k : Int) acc (i : Int)) r := by
 intro d
 induction d with
 | zero =>
  intro i acc hi ha h1 h2
  have h1' := h1 rfl
  have e : Ev (fun f => spec_l01Product.j3 f l m x6 (k : Int) acc (i : Int) false) r := by
   refine Ev.succ ?_; simp only [spec_l01Product.j3]
   rw [wrap_succ (by omega)]
   repeat (first | with_reducible exact Ev.now _ | dsimp only | refine Ev.pos (by first | omega | rfl | assumption | decide) ?_ | refine Ev.neg (by first | omega | assumption | exact Bool.false_ne_true | exact fun e => absurd e (by decide)) ?_ | simp only [bne_self_eq_false, Bool.not_true, Bool.not_false, List.length_cons, List.length_nil] | rw [wrap_id (by omega) (by omega)] | ((with_reducible refine Ev.eq (congrArg some ?_)); rfl))
   exact h1'
  refine Ev.succ ?_; simp only [spec_l01Product.l1]
  by_cases c : (i : Int) ≤ k
  ·refine Ev.pos c ?_
   rw [decide_eq_false (by omega)]
   exact e
  ·refine Ev.neg c ?_
   exact e
 | succ d ih =>
  intro i acc hi ha h1 h2
  refine Ev.succ ?_; simp only [spec_l01Product.l1]
  refine Ev.pos (by omega) ?_
  rw [decide_eq_true (by omega)]
  refine Ev.succ ?_; simp only [spec_l01Product.j3]
  rw [wrap_id (x := (k : Int) - i) (by omega) (by omega), wrap_succ (i := i) (by omega), show (k : Int) - i = ((k - i : Nat) : Int) by omega]
  unfold cv at h1 h2
  by_cases c : i + m.length ≤ k
  ·rw [if_pos c] at h1 h2
   repeat (first | with_reducible exact Ev.now _ | dsimp only | refine Ev.pos (by first | omega | rfl | assumption | decide) ?_ | refine Ev.neg (by first | omega | assumption | exact Bool.false_ne_true | exact fun e => absurd e (by decide)) ?_ | simp only [bne_self_eq_false, Bool.not_true, Bool.not_false, List.length_cons, List.length_nil] | rw [wrap_id (by omega) (by omega)] | ((with_reducible refine Ev.eq (congrArg some ?_)); rfl))
   exact ih (i + 1) acc (by omega) ha h1 h2
  ·rw [if_neg c] at h1 h2
   rw [specMore ha (hs _ (rd_mem (by omega))) (hn _ (rd_mem (by omega)))]
   by_cases g : (more acc (rd l (i : Int)) (rd m ((k - i : Nat) : Int))).2 = true
   ·rw [if_pos g] at h1 h2
    repeat (first | with_reducible exact Ev.now _ | dsimp only | with_reducible refine Ev.bind (Ev.now _) ?_ | refine Ev.pos (by first | omega | rfl | assumption | decide) ?_ | refine Ev.neg (by first | omega | assumption | exact Bool.false_ne_true | exact fun e => absurd e (by decide)) ?_ | simp only [bne_self_eq_false, Bool.not_true, Bool.not_false, List.length_cons, List.length_nil] | rw [wrap_id (by omega) (by omega)] | with_reducible exact (Ev.now _) | ((with_reducible refine Ev.eq (congrArg some ?_)); rfl))
    exact ih (i + 1) _ (by omega) (more_small g) h1 h2
   ·rw [if_neg g] at h1 h2
    rw [h2 (by decide)]
    repeat (first | with_reducible exact Ev.now _ | dsimp only | with_reducible refine Ev.bind (Ev.now _) ?_ | refine Ev.pos (by first | omega | rfl | assumption | decide) ?_ | refine Ev.neg (by first | omega | assumption | exact Bool.false_ne_true | exact fun e => absurd e (by decide)) ?_ | simp only [bne_self_eq_false, Bool.not_true, Bool.not_false, List.length_cons, List.length_nil] | rw [wrap_id (by omega) (by omega)] | with_reducible exact (Ev.now _) | ((with_reducible refine Ev.eq (congrArg some ?_)); rfl))

theorem impl_inner (n : Int) (k : Nat) (hk : k < 80) (x6 : List Int) (h6 : x6.length ≤ 80) (hl0 : 0 < l.length) (r : List Int × Bool) : ∀ (d i : Nat) (acc : Int), i + d = min (k + 1) l.length → k + 1 - m.length ≤ i → (-big ≤ acc ∧ acc ≤ big) →
  ((cv l m k d i acc).2 = true → Ev (fun f => impl_multiply.l0 f l m (x6 ++ [(cv l m k d i acc).1]) n ((k + 1 : Nat) : Int)) r) → (¬ (cv l m k d i acc).2 = true → r = ([], false)) →
  Ev (fun f => impl_multiply.l1 f l m x6 (k : Int) acc (i : Int) n (k : Int)) r := by
 have emn : mn (k : Int) (wrap64 ((l.length : Int) - 1)) = ((min (k + 1) l.length : Nat) : Int) - 1 := by
  rw [wrap_id (by omega) (by omega)]
  unfold mn
  split <;> omega
 intro d
 induction d with
 | zero =>
  intro i acc hi hi2 ha h1 h2
  have h1' := h1 rfl
  refine Ev.succ ?_; simp only [impl_multiply.l1]
  rw [emn, wrap_succ (i := k) (by omega)]
  repeat (first | with_reducible exact Ev.now _ | dsimp only | refine Ev.pos (by first | omega | rfl | assumption | decide) ?_ | refine Ev.neg (by first | omega | assumption | exact Bool.false_ne_true | exact fun e => absurd e (by decide)) ?_ | simp only [bne_self_eq_false, Bool.not_true, Bool.not_false, List.length_cons, List.length_nil] | rw [wrap_id (by omega) (by omega)] | ((with_reducible refine Ev.eq (congrArg some ?_)); rfl))
  exact h1'
 | succ d ih =>
  intro i acc hi hi2 ha h1 h2
  refine Ev.succ ?_; simp only [impl_multiply.l1]
  rw [emn, wrap_id (x := (k : Int) - i) (by omega) (by omega), wrap_succ (i := i) (by omega), show (k : Int) - i = ((k - i : Nat) : Int) by omega]
  unfold cv at h1 h2
  rw [if_neg (by omega)] at h1 h2
  have ht := implTimes ha (hs _ (rd_mem (show i < l.length by omega))) (hn _ (rd_mem (show k - i < m.length by omega)))
  by_cases g : (more acc (rd l (i : Int)) (rd m ((k - i : Nat) : Int))).2 = true
  ·rw [if_pos g] at h1 h2
   repeat (first | with_reducible exact Ev.now _ | dsimp only | with_reducible refine Ev.bind (ht) ?_ | refine Ev.pos (by first | omega | rfl | assumption | decide) ?_ | refine Ev.neg (by first | omega | assumption | exact Bool.false_ne_true | exact fun e => absurd e (by decide)) ?_ | simp only [bne_self_eq_false, Bool.not_true, Bool.not_false, List.length_cons, List.length_nil] | rw [wrap_id (by omega) (by omega)] | with_reducible exact (ht) | ((with_reducible refine Ev.eq (congrArg some ?_)); rfl))
   exact ih (i + 1) _ (by omega) (by omega) (more_small g) h1 h2
  ·rw [if_neg g] at h1 h2
   rw [h2 (by decide)]
   repeat (first | with_reducible exact Ev.now _ | dsimp only | with_reducible refine Ev.bind (ht) ?_ | refine Ev.pos (by first | omega | rfl | assumption | decide) ?_ | refine Ev.neg (by first | omega | assumption | exact Bool.false_ne_true | exact fun e => absurd e (by decide)) ?_ | simp only [bne_self_eq_false, Bool.not_true, Bool.not_false, List.length_cons, List.length_nil] | rw [wrap_id (by omega) (by omega)] | with_reducible exact (ht) | ((with_reducible refine Ev.eq (congrArg some ?_)); rfl))

theorem spec_good (n : Nat) (h : n + 1 = l.length + m.length) (hok : ∀ k, k < n → (cvk l m k).2 = true) :
  ∀ (d k : Nat), k + d = n → Ev (fun f => spec_l01Product.l0 f l m (prod l m k) (k : Int)) (trimN (prod l m n) n, true) := by
 intro d
 induction d with
 | zero =>
  intro k hk
  have e : k = n := by omega
  subst e
  refine Ev.succ ?_; simp only [spec_l01Product.l0]
  rw [wrap_id (x := (l.length : Int) + m.length) (by omega) (by omega), wrap_id (x := (l.length : Int) + m.length - 1) (by omega) (by omega)]
  have := specTrim (prod l m k) (by rw [prod_length]; omega)
  rw [prod_length] at this
  repeat (first | with_reducible exact Ev.now _ | dsimp only | with_reducible refine Ev.bind (this) ?_ | refine Ev.pos (by first | omega | rfl | assumption | decide) ?_ | refine Ev.neg (by first | omega | assumption | exact Bool.false_ne_true | exact fun e => absurd e (by decide)) ?_ | simp only [bne_self_eq_false, Bool.not_true, Bool.not_false, List.length_cons, List.length_nil] | rw [wrap_id (by omega) (by omega)] | with_reducible exact (this) | ((with_reducible refine Ev.eq (congrArg some ?_)); rfl))
 | succ d ih =>
  intro k hk
  refine Ev.succ ?_; simp only [spec_l01Product.l0]
  rw [wrap_id (x := (l.length : Int) + m.length) (by omega) (by omega), wrap_id (x := (l.length : Int) + m.length - 1) (by omega) (by omega)]
  repeat (first | with_reducible exact Ev.now _ | dsimp only | refine Ev.pos (by first | omega | rfl | assumption | decide) ?_ | refine Ev.neg (by first | omega | assumption | exact Bool.false_ne_true | exact fun e => absurd e (by decide)) ?_ | simp only [bne_self_eq_false, Bool.not_true, Bool.not_false, List.length_cons, List.length_nil] | rw [wrap_id (by omega) (by omega)] | ((with_reducible refine Ev.eq (congrArg some ?_)); rfl))
  refine spec_inner l m hl hs hm hn k (by omega) _ (by rw [prod_length]; omega) _ _ 0 0 (by omega) (by decide) (fun _ => ?_) (fun e => absurd (hok k (by omega)) e)
  have := ih (k + 1) (by omega)
  rw [prod, map_range_succ] at this
  exact this

theorem spec_bad (n : Nat) (h : n + 1 = l.length + m.length) :
  ∀ (d k : Nat) (xs : List Int), k + d = n → xs.length ≤ k → (∃ j, k ≤ j ∧ j < n ∧ ¬ (cvk l m j).2 = true) → Ev (fun f => spec_l01Product.l0 f l m xs (k : Int)) ([], false) := by
 intro d
 induction d with
 | zero =>
  intro k xs hk hx h
  obtain ⟨j, h1, h2, h3⟩ := h
  omega
 | succ d ih =>
  intro k xs hk hx hb
  refine Ev.succ ?_; simp only [spec_l01Product.l0]
  rw [wrap_id (x := (l.length : Int) + m.length) (by omega) (by omega), wrap_id (x := (l.length : Int) + m.length - 1) (by omega) (by omega)]
  repeat (first | with_reducible exact Ev.now _ | dsimp only | refine Ev.pos (by first | omega | rfl | assumption | decide) ?_ | refine Ev.neg (by first | omega | assumption | exact Bool.false_ne_true | exact fun e => absurd e (by decide)) ?_ | simp only [bne_self_eq_false, Bool.not_true, Bool.not_false, List.length_cons, List.length_nil] | rw [wrap_id (by omega) (by omega)] | ((with_reducible refine Ev.eq (congrArg some ?_)); rfl))
  refine spec_inner l m hl hs hm hn k (by omega) _ (by omega) _ (min (k + 1) l.length) 0 0 (by omega) (by decide) (fun e => ?_) (fun _ => rfl)
  refine ih (k + 1) _ (by omega) (by simp; omega) ?_
  obtain ⟨j, h1, h2, h3⟩ := hb
  refine ⟨j, ?_, h2, h3⟩
  rcases Nat.lt_or_eq_of_le h1 with h1 | h1
  ·exact h1
  ·subst h1; exact absurd e h3

theorem impl_start (n : Nat) (hl0 : 0 < l.length) (k : Nat) (hk : k < 80) (x6 : List Int) (h6 : x6.length ≤ 80) (hkn : k < n) (hn80 : n ≤ 80) (hkn2 : n + 1 = l.length + m.length) (hm0 : 0 < m.length) (r : List Int × Bool) (h1 : (cvk l m k).2 = true → Ev (fun f => impl_multiply.l0 f l m (x6 ++ [(cvk l m k).1]) (n : Int) ((k + 1 : Nat) : Int)) r) (h2 : ¬ (cvk l m k).2 = true → r = ([], false)) :
  Ev (fun f => impl_multiply.l0 f l m x6 (n : Int) (k : Int)) r := by
 refine Ev.succ ?_; simp only [impl_multiply.l0]
 have emx : mx 0 (wrap64 ((wrap64 ((k : Int) - (m.length : Int))) + 1)) = ((k + 1 - m.length : Nat) : Int) := by
  rw [wrap_id (x := (k : Int) - (m.length : Int)) (by omega) (by omega), wrap_id (by omega) (by omega)]
  unfold mx
  split <;> omega
 rw [emx]
 repeat (first | with_reducible exact Ev.now _ | dsimp only | refine Ev.pos (by first | omega | rfl | assumption | decide) ?_ | refine Ev.neg (by first | omega | assumption | exact Bool.false_ne_true | exact fun e => absurd e (by decide)) ?_ | simp only [bne_self_eq_false, Bool.not_true, Bool.not_false, List.length_cons, List.length_nil] | rw [wrap_id (by omega) (by omega)] | ((with_reducible refine Ev.eq (congrArg some ?_)); rfl))
 have e : cvk l m k = cv l m k (min (k + 1) l.length - (k + 1 - m.length)) (k + 1 - m.length) 0 := by
  unfold cvk
  rw [cv_skip l m k 0 (k + 1 - m.length) _ 0 (by omega) (by omega), Nat.zero_add]
 rw [e] at h1 h2
 exact impl_inner l m hl hs hm hn n k hk x6 h6 hl0 r _ _ 0 (by omega) (Nat.le_refl _) (by decide) h1 h2

theorem impl_good (n : Nat) (h : n + 1 = l.length + m.length) (hl0 : 0 < l.length) (hm0 : 0 < m.length) (hok : ∀ k, k < n → (cvk l m k).2 = true) :
  ∀ (d k : Nat), k + d = n → Ev (fun f => impl_multiply.l0 f l m (prod l m k) (n : Int) (k : Int)) (prod l m n, true) := by
 intro d
 induction d with
 | zero =>
  intro k hk
  have e : k = n := by omega
  subst e
  refine Ev.succ ?_; simp only [impl_multiply.l0]
  repeat (first | with_reducible exact Ev.now _ | dsimp only | refine Ev.pos (by first | omega | rfl | assumption | decide) ?_ | refine Ev.neg (by first | omega | assumption | exact Bool.false_ne_true | exact fun e => absurd e (by decide)) ?_ | simp only [bne_self_eq_false, Bool.not_true, Bool.not_false, List.length_cons, List.length_nil] | rw [wrap_id (by omega) (by omega)] | ((with_reducible refine Ev.eq (congrArg some ?_)); rfl))
 | succ d ih =>
  intro k hk
  refine impl_start l m hl hs hm hn n hl0 k (by omega) _ (by rw [prod_length]; omega) (by omega) (by omega) h hm0 _ (fun _ => ?_) (fun e => absurd (hok k (by omega)) e)
  have := ih (k + 1) (by omega)
  rw [prod, map_range_succ] at this
  exact this

theorem impl_bad (n : Nat) (h : n + 1 = l.length + m.length) (hl0 : 0 < l.length) (hm0 : 0 < m.length) :
  ∀ (d k : Nat) (xs : List Int), k + d = n → xs.length ≤ k → (∃ j, k ≤ j ∧ j < n ∧ ¬ (cvk l m j).2 = true) → Ev (fun f => impl_multiply.l0 f l m xs (n : Int) (k : Int)) ([], false) := by
 intro d
 induction d with
 | zero =>
  intro k xs hk hx h
  obtain ⟨j, h1, h2, h3⟩ := h
  omega
 | succ d ih =>
  intro k xs hk hx hb
  refine impl_start l m hl hs hm hn n hl0 k (by omega) _ (by omega) (by omega) (by omega) h hm0 _ (fun e => ?_) (fun _ => rfl)
  refine ih (k + 1) _ (by omega) (by simp; omega) ?_
  obtain ⟨j, h1, h2, h3⟩ := hb
  refine ⟨j, ?_, h2, h3⟩
  rcases Nat.lt_or_eq_of_le h1 with h1 | h1
  ·exact h1
  ·subst h1; exact absurd e h3

end

theorem last_ne {l : List Int} (h : whole l = true) (h0 : 0 < l.length) : rd l ((l.length - 1 : Nat) : Int) ≠ 0 := by
 have hne : l ≠ [] := fun e => by rw [e] at h0; simp at h0
 have hlast := whole_last h
 rw [List.getLast?_eq_some_getLast hne, ← last_rd l hne, show (l.length : Int) - 1 = ((l.length - 1 : Nat) : Int) by omega] at hlast
 exact fun e => hlast (by rw [e])

theorem trim_prod (l m : List Int) (hl : whole l = true) (hm : whole m = true) (hl0 : 0 < l.length) (hm0 : 0 < m.length) (n : Nat) (h : n + 1 = l.length + m.length) (hok : ∀ k, k < n → (cvk l m k).2 = true) : trimN (prod l m n) n = prod l m n := by
 obtain ⟨n', e⟩ : ∃ n', n = n' + 1 := ⟨n - 1, by omega⟩
 subst e
 unfold trimN
 rw [if_neg, List.take_of_length_le (by rw [prod_length]; omega)]
 rw [prod, rd_map_range _ (by omega), cv_last l m n' (by omega) hl0 hm0 (hok n' (by omega))]
 exact Int.mul_ne_zero (last_ne hl hl0) (last_ne hm hm0)

/-- The product, and whether all stays small on the way. -/
def prodR (l m : List Int) : List Int × Bool := if l.length = 0 then ([], true) else if m.length = 0 then ([], true) else if l.length + m.length - 1 ≤ 40 then (if ∀ k, k < l.length + m.length - 1 → (cvk l m k).2 = true then (prod l m (l.length + m.length - 1), true) else ([], false)) else ([], false)

theorem product_is (l m : List Int) (hw : whole l = true) (hw' : whole m = true) : (prodR l m).1.length ≤ 1048576 ∧ Ev (fun k => spec_l01Product.f k l m) (prodR l m) ∧ Ev (fun k => impl_multiply.f k l m) (prodR l m) := by
 unfold spec_l01Product.f impl_multiply.f
 have hl40 := whole_length hw
 have hm40 := whole_length hw'
 have hs := whole_small hw
 have hn := whole_small hw'
 by_cases h0 : l.length = 0
 ·rw [show prodR l m = ([], true) by unfold prodR; rw [if_pos h0]]
  refine ⟨by simp, ?_, ?_⟩
  ·repeat (first | with_reducible exact Ev.now _ | dsimp only | refine Ev.pos (by first | omega | rfl | assumption | decide) ?_ | refine Ev.neg (by first | omega | assumption | exact Bool.false_ne_true | exact fun e => absurd e (by decide)) ?_ | simp only [bne_self_eq_false, Bool.not_true, Bool.not_false, List.length_cons, List.length_nil] | rw [wrap_id (by omega) (by omega)] | ((with_reducible refine Ev.eq (congrArg some ?_)); rfl))
   refine Ev.succ ?_; simp only [spec_l01Product.j0]
   repeat (first | with_reducible exact Ev.now _ | dsimp only | refine Ev.pos (by first | omega | rfl | assumption | decide) ?_ | refine Ev.neg (by first | omega | assumption | exact Bool.false_ne_true | exact fun e => absurd e (by decide)) ?_ | simp only [bne_self_eq_false, Bool.not_true, Bool.not_false, List.length_cons, List.length_nil] | rw [wrap_id (by omega) (by omega)] | ((with_reducible refine Ev.eq (congrArg some ?_)); rfl))
  ·repeat (first | with_reducible exact Ev.now _ | dsimp only | refine Ev.pos (by first | omega | rfl | assumption | decide) ?_ | refine Ev.neg (by first | omega | assumption | exact Bool.false_ne_true | exact fun e => absurd e (by decide)) ?_ | simp only [bne_self_eq_false, Bool.not_true, Bool.not_false, List.length_cons, List.length_nil] | rw [wrap_id (by omega) (by omega)] | ((with_reducible refine Ev.eq (congrArg some ?_)); rfl))
   refine Ev.succ ?_; simp only [impl_multiply.j0]
   repeat (first | with_reducible exact Ev.now _ | dsimp only | refine Ev.pos (by first | omega | rfl | assumption | decide) ?_ | refine Ev.neg (by first | omega | assumption | exact Bool.false_ne_true | exact fun e => absurd e (by decide)) ?_ | simp only [bne_self_eq_false, Bool.not_true, Bool.not_false, List.length_cons, List.length_nil] | rw [wrap_id (by omega) (by omega)] | ((with_reducible refine Ev.eq (congrArg some ?_)); rfl))
 by_cases h0' : m.length = 0
 ·rw [show prodR l m = ([], true) by unfold prodR; rw [if_neg h0, if_pos h0']]
  refine ⟨by simp, ?_, ?_⟩
  ·rw [show ((m.length : Int) == 0) = true from by rw [h0']; rfl]
   repeat (first | with_reducible exact Ev.now _ | dsimp only | refine Ev.pos (by first | omega | rfl | assumption | decide) ?_ | refine Ev.neg (by first | omega | assumption | exact Bool.false_ne_true | exact fun e => absurd e (by decide)) ?_ | simp only [bne_self_eq_false, Bool.not_true, Bool.not_false, List.length_cons, List.length_nil] | rw [wrap_id (by omega) (by omega)] | ((with_reducible refine Ev.eq (congrArg some ?_)); rfl))
   refine Ev.succ ?_; simp only [spec_l01Product.j0]
   repeat (first | with_reducible exact Ev.now _ | dsimp only | refine Ev.pos (by first | omega | rfl | assumption | decide) ?_ | refine Ev.neg (by first | omega | assumption | exact Bool.false_ne_true | exact fun e => absurd e (by decide)) ?_ | simp only [bne_self_eq_false, Bool.not_true, Bool.not_false, List.length_cons, List.length_nil] | rw [wrap_id (by omega) (by omega)] | ((with_reducible refine Ev.eq (congrArg some ?_)); rfl))
  ·rw [show ((m.length : Int) == 0) = true from by rw [h0']; rfl]
   repeat (first | with_reducible exact Ev.now _ | dsimp only | refine Ev.pos (by first | omega | rfl | assumption | decide) ?_ | refine Ev.neg (by first | omega | assumption | exact Bool.false_ne_true | exact fun e => absurd e (by decide)) ?_ | simp only [bne_self_eq_false, Bool.not_true, Bool.not_false, List.length_cons, List.length_nil] | rw [wrap_id (by omega) (by omega)] | ((with_reducible refine Ev.eq (congrArg some ?_)); rfl))
   refine Ev.succ ?_; simp only [impl_multiply.j0]
   repeat (first | with_reducible exact Ev.now _ | dsimp only | refine Ev.pos (by first | omega | rfl | assumption | decide) ?_ | refine Ev.neg (by first | omega | assumption | exact Bool.false_ne_true | exact fun e => absurd e (by decide)) ?_ | simp only [bne_self_eq_false, Bool.not_true, Bool.not_false, List.length_cons, List.length_nil] | rw [wrap_id (by omega) (by omega)] | ((with_reducible refine Ev.eq (congrArg some ?_)); rfl))
 have hm0 : ((m.length : Int) == 0) = false := beq_eq_false_iff_ne.2 (by omega)
 obtain ⟨n, hN⟩ : ∃ n, n + 1 = l.length + m.length := ⟨l.length + m.length - 1, by omega⟩
 have en : l.length + m.length - 1 = n := by omega
 by_cases h40 : n ≤ 40
 ·by_cases hok : ∀ k, k < n → (cvk l m k).2 = true
  ·rw [show prodR l m = (prod l m n, true) by unfold prodR; rw [if_neg h0, if_neg h0', en, if_pos h40, if_pos hok]]
   refine ⟨by simp only [prod_length]; omega, ?_, ?_⟩
   ·rw [hm0]
    repeat (first | with_reducible exact Ev.now _ | dsimp only | refine Ev.pos (by first | omega | rfl | assumption | decide) ?_ | refine Ev.neg (by first | omega | assumption | exact Bool.false_ne_true | exact fun e => absurd e (by decide)) ?_ | simp only [bne_self_eq_false, Bool.not_true, Bool.not_false, List.length_cons, List.length_nil] | rw [wrap_id (by omega) (by omega)] | ((with_reducible refine Ev.eq (congrArg some ?_)); rfl))
    refine Ev.succ ?_; simp only [spec_l01Product.j0]
    rw [wrap_id (x := (l.length : Int) + m.length) (by omega) (by omega), wrap_id (x := (l.length : Int) + m.length - 1) (by omega) (by omega)]
    repeat (first | with_reducible exact Ev.now _ | dsimp only | refine Ev.pos (by first | omega | rfl | assumption | decide) ?_ | refine Ev.neg (by first | omega | assumption | exact Bool.false_ne_true | exact fun e => absurd e (by decide)) ?_ | simp only [bne_self_eq_false, Bool.not_true, Bool.not_false, List.length_cons, List.length_nil] | rw [wrap_id (by omega) (by omega)] | ((with_reducible refine Ev.eq (congrArg some ?_)); rfl))
    have := spec_good l m hl40 hs hm40 hn n hN hok n 0 (by omega)
    rw [trim_prod l m hw hw' (by omega) (by omega) n hN hok] at this
    exact this
   ·rw [hm0]
    repeat (first | with_reducible exact Ev.now _ | dsimp only | refine Ev.pos (by first | omega | rfl | assumption | decide) ?_ | refine Ev.neg (by first | omega | assumption | exact Bool.false_ne_true | exact fun e => absurd e (by decide)) ?_ | simp only [bne_self_eq_false, Bool.not_true, Bool.not_false, List.length_cons, List.length_nil] | rw [wrap_id (by omega) (by omega)] | ((with_reducible refine Ev.eq (congrArg some ?_)); rfl))
    refine Ev.succ ?_; simp only [impl_multiply.j0]
    rw [wrap_id (x := (l.length : Int) + m.length) (by omega) (by omega), wrap_id (x := (l.length : Int) + m.length - 1) (by omega) (by omega), show (l.length : Int) + m.length - 1 = n by omega]
    repeat (first | with_reducible exact Ev.now _ | dsimp only | refine Ev.pos (by first | omega | rfl | assumption | decide) ?_ | refine Ev.neg (by first | omega | assumption | exact Bool.false_ne_true | exact fun e => absurd e (by decide)) ?_ | simp only [bne_self_eq_false, Bool.not_true, Bool.not_false, List.length_cons, List.length_nil] | rw [wrap_id (by omega) (by omega)] | ((with_reducible refine Ev.eq (congrArg some ?_)); rfl))
    exact impl_good l m hl40 hs hm40 hn n hN (by omega) (by omega) hok n 0 (by omega)
  ·have hbad : ∃ i : Nat, i < n ∧ ¬ (cvk l m i).2 = true := by
    apply Classical.byContradiction
    intro hc
    exact hok (fun i hi => Classical.byContradiction (fun e => hc ⟨i, hi, e⟩))
   obtain ⟨i, hi, hb⟩ := hbad
   rw [show prodR l m = ([], false) by unfold prodR; rw [if_neg h0, if_neg h0', en, if_pos h40, if_neg hok]]
   refine ⟨by simp, ?_, ?_⟩
   ·rw [hm0]
    repeat (first | with_reducible exact Ev.now _ | dsimp only | refine Ev.pos (by first | omega | rfl | assumption | decide) ?_ | refine Ev.neg (by first | omega | assumption | exact Bool.false_ne_true | exact fun e => absurd e (by decide)) ?_ | simp only [bne_self_eq_false, Bool.not_true, Bool.not_false, List.length_cons, List.length_nil] | rw [wrap_id (by omega) (by omega)] | ((with_reducible refine Ev.eq (congrArg some ?_)); rfl))
    refine Ev.succ ?_; simp only [spec_l01Product.j0]
    rw [wrap_id (x := (l.length : Int) + m.length) (by omega) (by omega), wrap_id (x := (l.length : Int) + m.length - 1) (by omega) (by omega)]
    repeat (first | with_reducible exact Ev.now _ | dsimp only | refine Ev.pos (by first | omega | rfl | assumption | decide) ?_ | refine Ev.neg (by first | omega | assumption | exact Bool.false_ne_true | exact fun e => absurd e (by decide)) ?_ | simp only [bne_self_eq_false, Bool.not_true, Bool.not_false, List.length_cons, List.length_nil] | rw [wrap_id (by omega) (by omega)] | ((with_reducible refine Ev.eq (congrArg some ?_)); rfl))
    exact spec_bad l m hl40 hs hm40 hn n hN n 0 [] (by omega) (by simp) ⟨i, by omega, hi, hb⟩
   ·rw [hm0]
    repeat (first | with_reducible exact Ev.now _ | dsimp only | refine Ev.pos (by first | omega | rfl | assumption | decide) ?_ | refine Ev.neg (by first | omega | assumption | exact Bool.false_ne_true | exact fun e => absurd e (by decide)) ?_ | simp only [bne_self_eq_false, Bool.not_true, Bool.not_false, List.length_cons, List.length_nil] | rw [wrap_id (by omega) (by omega)] | ((with_reducible refine Ev.eq (congrArg some ?_)); rfl))
    refine Ev.succ ?_; simp only [impl_multiply.j0]
    rw [wrap_id (x := (l.length : Int) + m.length) (by omega) (by omega), wrap_id (x := (l.length : Int) + m.length - 1) (by omega) (by omega), show (l.length : Int) + m.length - 1 = n by omega]
    repeat (first | with_reducible exact Ev.now _ | dsimp only | refine Ev.pos (by first | omega | rfl | assumption | decide) ?_ | refine Ev.neg (by first | omega | assumption | exact Bool.false_ne_true | exact fun e => absurd e (by decide)) ?_ | simp only [bne_self_eq_false, Bool.not_true, Bool.not_false, List.length_cons, List.length_nil] | rw [wrap_id (by omega) (by omega)] | ((with_reducible refine Ev.eq (congrArg some ?_)); rfl))
    exact impl_bad l m hl40 hs hm40 hn n hN (by omega) (by omega) n 0 [] (by omega) (by simp) ⟨i, by omega, hi, hb⟩
 ·rw [show prodR l m = ([], false) by unfold prodR; rw [if_neg h0, if_neg h0', en, if_neg h40]]
  refine ⟨by simp, ?_, ?_⟩
  ·rw [hm0]
   repeat (first | with_reducible exact Ev.now _ | dsimp only | refine Ev.pos (by first | omega | rfl | assumption | decide) ?_ | refine Ev.neg (by first | omega | assumption | exact Bool.false_ne_true | exact fun e => absurd e (by decide)) ?_ | simp only [bne_self_eq_false, Bool.not_true, Bool.not_false, List.length_cons, List.length_nil] | rw [wrap_id (by omega) (by omega)] | ((with_reducible refine Ev.eq (congrArg some ?_)); rfl))
   refine Ev.succ ?_; simp only [spec_l01Product.j0]
   rw [wrap_id (x := (l.length : Int) + m.length) (by omega) (by omega), wrap_id (x := (l.length : Int) + m.length - 1) (by omega) (by omega)]
   repeat (first | with_reducible exact Ev.now _ | dsimp only | refine Ev.pos (by first | omega | rfl | assumption | decide) ?_ | refine Ev.neg (by first | omega | assumption | exact Bool.false_ne_true | exact fun e => absurd e (by decide)) ?_ | simp only [bne_self_eq_false, Bool.not_true, Bool.not_false, List.length_cons, List.length_nil] | rw [wrap_id (by omega) (by omega)] | ((with_reducible refine Ev.eq (congrArg some ?_)); rfl))
  ·rw [hm0]
   repeat (first | with_reducible exact Ev.now _ | dsimp only | refine Ev.pos (by first | omega | rfl | assumption | decide) ?_ | refine Ev.neg (by first | omega | assumption | exact Bool.false_ne_true | exact fun e => absurd e (by decide)) ?_ | simp only [bne_self_eq_false, Bool.not_true, Bool.not_false, List.length_cons, List.length_nil] | rw [wrap_id (by omega) (by omega)] | ((with_reducible refine Ev.eq (congrArg some ?_)); rfl))
   refine Ev.succ ?_; simp only [impl_multiply.j0]
   rw [wrap_id (x := (l.length : Int) + m.length) (by omega) (by omega), wrap_id (x := (l.length : Int) + m.length - 1) (by omega) (by omega)]
   repeat (first | with_reducible exact Ev.now _ | dsimp only | refine Ev.pos (by first | omega | rfl | assumption | decide) ?_ | refine Ev.neg (by first | omega | assumption | exact Bool.false_ne_true | exact fun e => absurd e (by decide)) ?_ | simp only [bne_self_eq_false, Bool.not_true, Bool.not_false, List.length_cons, List.length_nil] | rw [wrap_id (by omega) (by omega)] | ((with_reducible refine Ev.eq (congrArg some ?_)); rfl))

/-- f 0 + .. + f (n - 1). -/
def Sm : Nat → (Nat → Int) → Int
 | 0, _ => 0
 | n + 1, f => Sm n f + f n

theorem Sm_congr {n : Nat} {f g : Nat → Int} (h : ∀ i, i < n → f i = g i) : Sm n f = Sm n g := by
 induction n with
 | zero => rfl
 | succ n ih => unfold Sm; rw [ih (fun i hi => h i (by omega)), h n (by omega)]

theorem Sm_add (n : Nat) (f g : Nat → Int) : Sm n (fun i => f i + g i) = Sm n f + Sm n g := by
 induction n with
 | zero => rfl
 | succ n ih =>
  show Sm n (fun i => f i + g i) + (f n + g n) = Sm n f + f n + (Sm n g + g n)
  rw [ih]; omega

theorem Sm_mul_left (n : Nat) (c : Int) (f : Nat → Int) : Sm n (fun i => c * f i) = c * Sm n f := by
 induction n with
 | zero => simp [Sm]
 | succ n ih => unfold Sm; rw [ih, Int.mul_add]

theorem Sm_mul_right (n : Nat) (c : Int) (f : Nat → Int) : Sm n (fun i => f i * c) = Sm n f * c := by
 induction n with
 | zero => simp [Sm]
 | succ n ih => unfold Sm; rw [ih, Int.add_mul]

theorem Sm_zero (n : Nat) : Sm n (fun _ => 0) = 0 := by
 induction n with
 | zero => rfl
 | succ n ih => unfold Sm; rw [ih]; rfl

theorem Sm_swap (n m : Nat) (f : Nat → Nat → Int) : Sm n (fun i => Sm m (fun j => f i j)) = Sm m (fun j => Sm n (fun i => f i j)) := by
 induction n with
 | zero => exact (Sm_zero m).symm
 | succ n ih =>
  show Sm n (fun i => Sm m (fun j => f i j)) + Sm m (fun j => f n j) = _
  rw [ih, ← Sm_add]
  rfl

theorem Sm_le {n : Nat} {f : Nat → Int} {b : Int} (h : ∀ i, i < n → f i ≤ b) : Sm n f ≤ n * b := by
 induction n with
 | zero => simp [Sm]
 | succ n ih =>
  have h1 := ih (fun i hi => h i (by omega))
  have h2 := h n (by omega)
  unfold Sm
  rw [Int.natCast_add, Int.add_mul]
  omega

theorem Sm_nonneg {n : Nat} {f : Nat → Int} (h : ∀ i, i < n → 0 ≤ f i) : 0 ≤ Sm n f := by
 induction n with
 | zero => simp [Sm]
 | succ n ih =>
  have h1 := ih (fun i hi => h i (by omega))
  have h2 := h n (by omega)
  unfold Sm
  omega

/-- The product of two square matrices. -/
def mul (n : Nat) (a b : Nat → Nat → Int) : Nat → Nat → Int := fun i j => Sm n (fun k => a i k * b k j)

theorem mul_assoc' (n : Nat) (a b c : Nat → Nat → Int) (i j : Nat) : mul n (mul n a b) c i j = mul n a (mul n b c) i j := by
 unfold mul
 rw [Sm_congr (g := fun k => Sm n (fun m => a i m * b m k * c k j)) (fun k _ => (Sm_mul_right n _ _).symm)]
 rw [Sm_swap]
 refine Sm_congr (fun m _ => ?_)
 rw [← Sm_mul_left]
 exact Sm_congr (fun k _ => Int.mul_assoc _ _ _)

def tr (n : Nat) (a : Nat → Nat → Int) : Int := Sm n (fun i => a i i)

theorem mul_congr {n : Nat} {a b a' b' : Nat → Nat → Int} {i j : Nat} (ha : ∀ k, k < n → a i k = a' i k) (hb : ∀ k, k < n → b k j = b' k j) : mul n a b i j = mul n a' b' i j :=
 Sm_congr (fun k hk => by rw [ha k hk, hb k hk])

/-- A list's matrix, and a matrix's list. -/
def mat (m : List (List Int)) (i j : Nat) : Int := rd (rd_L2 m (i : Int)) (j : Int)

def rowOf (n : Nat) (f : Nat → Int) : List Int := (List.range n).map f

def ofFn (n : Nat) (f : Nat → Nat → Int) : List (List Int) := (List.range n).map (fun i => rowOf n (f i))

theorem rowOf_length (n : Nat) (f : Nat → Int) : (rowOf n f).length = n := by simp [rowOf]

theorem rowOf_rd {n i : Nat} (f : Nat → Int) (h : i < n) : rd (rowOf n f) (i : Int) = f i := rd_map_range f h

theorem rowOf_congr {n : Nat} {f g : Nat → Int} (h : ∀ i, i < n → f i = g i) : rowOf n f = rowOf n g := by
 unfold rowOf
 exact List.map_congr_left (fun i hi => h i (List.mem_range.1 hi))

theorem rowOf_set {n i : Nat} (f : Nat → Int) (v : Int) (h : i < n) : (rowOf n f).set i v = rowOf n (fun j => if j = i then v else f j) := by
 refine list_ext_rd (by rw [List.length_set, rowOf_length, rowOf_length]) (fun j hj => ?_)
 rw [List.length_set, rowOf_length] at hj
 rw [rd_set (by rw [rowOf_length]; exact h), rowOf_rd _ hj, rowOf_rd _ hj]

theorem rowOf_zero (n : Nat) : rowOf n (fun _ => 0) = List.replicate n 0 := by
 refine list_ext_rd (by rw [rowOf_length, List.length_replicate]) (fun j hj => ?_)
 rw [rowOf_length] at hj
 rw [rowOf_rd _ hj, rd_replicate]

theorem ofFn_length (n : Nat) (f : Nat → Nat → Int) : (ofFn n f).length = n := by simp [ofFn]

theorem ofFn_row {n i : Nat} (f : Nat → Nat → Int) (h : i < n) : rd_L2 (ofFn n f) (i : Int) = rowOf n (f i) := by
 rw [rl_lt (by rw [ofFn_length]; exact h)]
 simp [ofFn]

theorem ofFn_mat {n i j : Nat} (f : Nat → Nat → Int) (hi : i < n) (hj : j < n) : mat (ofFn n f) i j = f i j := by
 unfold mat
 rw [ofFn_row f hi, rowOf_rd _ hj]

theorem ofFn_congr {n : Nat} {f g : Nat → Nat → Int} (h : ∀ i j, i < n → j < n → f i j = g i j) : ofFn n f = ofFn n g := by
 unfold ofFn
 exact List.map_congr_left (fun i hi => rowOf_congr (fun j hj => h i j (List.mem_range.1 hi) hj))

theorem ofFn_set {n i : Nat} (f : Nat → Nat → Int) (r : Nat → Int) (h : i < n) : (ofFn n f).set i (rowOf n r) = ofFn n (fun k => if k = i then r else f k) := by
 apply List.ext_getElem
 ·rw [List.length_set, ofFn_length, ofFn_length]
 ·intro k h1 h2
  rw [ofFn_length] at h2
  simp only [List.getElem_set, ofFn, List.getElem_map, List.getElem_range]
  by_cases e : k = i
  ·subst e; simp
  ·rw [if_neg (fun x => e x.symm), if_neg e]

/-- A square list of rows. -/
def Sq (n : Nat) (m : List (List Int)) : Prop := m.length = n ∧ ∀ i : Nat, i < n → (rd_L2 m (i : Int)).length = n

theorem Sq_ofFn (n : Nat) (f : Nat → Nat → Int) : Sq n (ofFn n f) := ⟨ofFn_length n f, fun i hi => by rw [ofFn_row f hi, rowOf_length]⟩

theorem wrap_add_wrap (a b : Int) : wrap64 (wrap64 a + wrap64 b) = wrap64 (a + b) := by
 unfold wrap64
 omega

theorem wrap_add_left (a b : Int) : wrap64 (wrap64 a + b) = wrap64 (a + b) := by
 unfold wrap64
 omega

def ab (x : Int) : Int := (x.natAbs : Int)

theorem ab_nonneg (x : Int) : 0 ≤ ab x := by unfold ab; omega
theorem ab_add (x y : Int) : ab (x + y) ≤ ab x + ab y := by unfold ab; omega
theorem ab_mul (x y : Int) : ab (x * y) = ab x * ab y := by
 unfold ab
 rw [Int.natAbs_mul]
 push_cast
 rfl

/-- The coefficients c, d of them, make f; their sizes sum up to at most B. -/
def Coef (d : Nat) (B : Int) (c : Nat → Int) (f : Int → Int) : Prop := (∀ i, d ≤ i → c i = 0) ∧ (∀ u, f u = Sm d (fun i => c i * u ^ i)) ∧ Sm d (fun i => ab (c i)) ≤ B

theorem Sm_more {d e : Nat} (f : Nat → Int) (hde : d ≤ e) (h : ∀ i, d ≤ i → f i = 0) : Sm e f = Sm d f := by
 induction e with
 | zero => rw [show d = 0 by omega]
 | succ e ih =>
  by_cases c : d = e + 1
  ·rw [c]
  ·show Sm e f + f e = _
   rw [ih (by omega), h e (by omega), Int.add_zero]

theorem Sm_mono {n : Nat} {f g : Nat → Int} (h : ∀ i, i < n → f i ≤ g i) : Sm n f ≤ Sm n g := by
 induction n with
 | zero => exact Int.le_refl _
 | succ n ih =>
  have h1 := ih (fun i hi => h i (by omega))
  have h2 := h n (by omega)
  unfold Sm
  omega

theorem Coef.add {d : Nat} {B B' : Int} {c c' : Nat → Int} {f g : Int → Int} (h : Coef d B c f) (h' : Coef d B' c' g) : Coef d (B + B') (fun i => c i + c' i) (fun u => f u + g u) := by
 refine ⟨fun i hi => by show c i + c' i = 0; rw [h.1 i hi, h'.1 i hi]; rfl, fun u => ?_, ?_⟩
 ·show f u + g u = Sm d (fun i => (c i + c' i) * u ^ i)
  rw [h.2.1 u, h'.2.1 u, ← Sm_add]
  exact Sm_congr (fun i _ => (Int.add_mul _ _ _).symm)
 ·have := h.2.2
  have := h'.2.2
  have h3 : Sm d (fun i => ab (c i + c' i)) ≤ Sm d (fun i => ab (c i) + ab (c' i)) := Sm_mono (fun i _ => ab_add _ _)
  rw [Sm_add] at h3
  show Sm d (fun i => ab (c i + c' i)) ≤ B + B'
  omega

theorem Coef.zero (d : Nat) : Coef d 0 (fun _ => 0) (fun _ => 0) := by
 refine ⟨fun _ _ => rfl, fun u => ?_, ?_⟩
 ·rw [Sm_congr (g := fun _ => 0) (fun i _ => Int.zero_mul _), Sm_zero]
 ·show Sm d (fun _ => (0 : Int)) ≤ 0
  rw [Sm_zero]
  exact Int.le_refl _

theorem Coef.one : Coef 1 1 (fun i => if i = 0 then 1 else 0) (fun _ => 1) := by
 refine ⟨fun i hi => if_neg (by omega), fun u => ?_, ?_⟩
 ·show (1 : Int) = 0 + (if 0 = 0 then 1 else 0) * u ^ 0
  rw [if_pos rfl, Int.pow_zero]
  rfl
 ·exact Int.le_refl _

/-- The coefficients behind a linear factor. -/
def lin (a b : Int) (c : Nat → Int) (i : Nat) : Int := a * c i + (if i = 0 then 0 else b * c (i - 1))

theorem Sm_shift (d : Nat) (f : Nat → Int) : Sm (d + 1) (fun i => if i = 0 then 0 else f (i - 1)) = Sm d f := by
 induction d with
 | zero => rfl
 | succ d ih =>
  show Sm (d + 1) (fun i => if i = 0 then 0 else f (i - 1)) + (if d + 1 = 0 then 0 else f (d + 1 - 1)) = Sm d f + f d
  rw [ih, if_neg (by omega), Nat.add_sub_cancel]

theorem Coef.lin_mul {d : Nat} {B : Int} {c : Nat → Int} {f : Int → Int} (h : Coef d B c f) (a b : Int) : Coef (d + 1) ((ab a + ab b) * B) (lin a b c) (fun u => (a + u * b) * f u) := by
 refine ⟨fun i hi => ?_, fun u => ?_, ?_⟩
 ·unfold lin
  rw [h.1 i (by omega), if_neg (by omega), h.1 (i - 1) (by omega), Int.mul_zero, Int.mul_zero]
  rfl
 ·unfold lin
  have e1 : Sm (d + 1) (fun i => (a * c i + (if i = 0 then 0 else b * c (i - 1))) * u ^ i) = Sm (d + 1) (fun i => a * (c i * u ^ i)) + Sm (d + 1) (fun i => if i = 0 then 0 else u * b * (c (i - 1) * u ^ (i - 1))) := by
   rw [← Sm_add]
   refine Sm_congr (fun i _ => ?_)
   rw [Int.add_mul, Int.mul_assoc]
   congr 1
   by_cases e : i = 0
   ·rw [if_pos e, if_pos e, Int.zero_mul]
   ·rw [if_neg e, if_neg e]
    obtain ⟨j, rfl⟩ : ∃ j, i = j + 1 := ⟨i - 1, by omega⟩
    rw [Nat.add_sub_cancel, Int.pow_succ, Int.mul_comm (u ^ j) u, Int.mul_comm u b, Int.mul_assoc, Int.mul_assoc]
    congr 1
    rw [← Int.mul_assoc, Int.mul_comm (c j) u, Int.mul_assoc]
  rw [e1, Sm_mul_left, Sm_shift d (fun i => u * b * (c i * u ^ i)), Sm_mul_left, Sm_more (d := d) (fun i => c i * u ^ i) (by omega) (fun i hi => by rw [h.1 i hi, Int.zero_mul]), ← h.2.1 u]
  exact Int.add_mul _ _ _
 ·have h1 : Sm (d + 1) (fun i => ab (lin a b c i)) ≤ Sm (d + 1) (fun i => ab a * ab (c i) + (if i = 0 then 0 else ab b * ab (c (i - 1)))) := Sm_mono (fun i _ => by
   unfold lin
   have := ab_add (a * c i) (if i = 0 then 0 else b * c (i - 1))
   rw [ab_mul] at this
   by_cases e : i = 0
   ·rw [if_pos e] at this ⊢
    rw [if_pos e]
    exact this
   ·rw [if_neg e, ab_mul] at this
    rw [if_neg e, if_neg e]
    exact this)
  rw [Sm_add, Sm_mul_left, Sm_shift d (fun i => ab b * ab (c i)), Sm_mul_left, Sm_more (d := d) (fun i => ab (c i)) (by omega) (fun i hi => by rw [h.1 i hi]; rfl)] at h1
  have h2 : ab a * Sm d (fun i => ab (c i)) ≤ ab a * B := Int.mul_le_mul_of_nonneg_left h.2.2 (ab_nonneg a)
  have h3 : ab b * Sm d (fun i => ab (c i)) ≤ ab b * B := Int.mul_le_mul_of_nonneg_left h.2.2 (ab_nonneg b)
  rw [Int.add_mul]
  omega

/-- A polynomial that is zero at all whole numbers from 2 on has no coefficients. -/
theorem coef_zero2 : ∀ (d : Nat) (c : Nat → Int), (∀ u : Int, 2 ≤ u → Sm d (fun i => c i * u ^ i) = 0) → ∀ i, i < d → c i = 0 := by
 intro d
 induction d with
 | zero => intro c _ i hi; omega
 | succ d ih =>
  intro c h
  have split : ∀ u : Int, Sm (d + 1) (fun i => c i * u ^ i) = c 0 + u * Sm d (fun i => c (i + 1) * u ^ i) := by
   intro u
   have : ∀ n, Sm (n + 1) (fun i => c i * u ^ i) = c 0 + u * Sm n (fun i => c (i + 1) * u ^ i) := by
    intro n
    induction n with
    | zero =>
     show 0 + c 0 * u ^ 0 = c 0 + u * 0
     rw [Int.pow_zero]
     omega
    | succ n ihn =>
     show Sm (n + 1) (fun i => c i * u ^ i) + c (n + 1) * u ^ (n + 1) = c 0 + u * (Sm n (fun i => c (i + 1) * u ^ i) + c (n + 1) * u ^ n)
     rw [ihn, Int.mul_add, Int.pow_succ, Int.mul_comm (u ^ n) u, ← Int.mul_assoc (c (n + 1)) u, Int.mul_comm (c (n + 1)) u, Int.mul_assoc u]
     omega
   exact this d
  have h0 : c 0 = 0 := by
   apply Classical.byContradiction
   intro hc
   have h1 := h (ab (c 0) + 2) (by have := ab_nonneg (c 0); omega)
   rw [split] at h1
   generalize Sm d _ = s at h1
   have hab : ab (c 0) = (c 0).natAbs := rfl
   have hdvd : (ab (c 0) + 2) ∣ c 0 := ⟨-s, by rw [Int.mul_neg]; omega⟩
   have := Int.natAbs_dvd_natAbs.2 hdvd
   have := Nat.le_of_dvd (by omega) this
   have e : (ab (c 0) + 2).natAbs = (c 0).natAbs + 2 := by rw [hab]; omega
   omega
  intro i hi
  by_cases e : i = 0
  ·rw [e]; exact h0
  ·have := ih (fun i => c (i + 1)) (fun u hu => by
    have h1 := h u hu
    rw [split, h0, Int.zero_add] at h1
    rcases Int.mul_eq_zero.1 h1 with h2 | h2
    ·omega
    ·exact h2) (i - 1) (by omega)
   simp only [Nat.sub_add_cancel (show 1 ≤ i by omega)] at this
   exact this

theorem coef_zero (d : Nat) (c : Nat → Int) (h : ∀ u : Int, 1 ≤ u → Sm d (fun i => c i * u ^ i) = 0) : ∀ i, i < d → c i = 0 := coef_zero2 d c (fun u hu => h u (by omega))
def sg (j : Nat) : Int := if j % 2 = 0 then 1 else -1

theorem sg_succ (j : Nat) : sg (j + 1) = - sg j := by
 unfold sg
 split <;> split <;> omega

def minor (m : Nat → Nat → Int) (j : Nat) : Nat → Nat → Int := fun i k => m (i + 1) (if k < j then k else k + 1)

def det : Nat → (Nat → Nat → Int) → Int
 | 0, _ => 1
 | n + 1, m => Sm (n + 1) (fun j => sg j * m 0 j * det n (minor m j))

theorem det_congr : ∀ (n : Nat) (m m' : Nat → Nat → Int), (∀ i k, i < n → k < n → m i k = m' i k) → det n m = det n m' := by
 intro n
 induction n with
 | zero => intro m m' _; rfl
 | succ n ih =>
  intro m m' h
  unfold det
  refine Sm_congr (fun j hj => ?_)
  rw [h 0 j (by omega) hj, ih (minor m j) (minor m' j) (fun i k hi hk => ?_)]
  unfold minor
  split
  ·exact h _ _ (by omega) (by omega)
  ·exact h _ _ (by omega) (by omega)

/-- Column c becomes v. -/
def setc (m : Nat → Nat → Int) (c : Nat) (v : Nat → Int) : Nat → Nat → Int := fun i k => if k = c then v i else m i k

theorem setc_self (m : Nat → Nat → Int) (c : Nat) : setc m c (fun i => m i c) = m := by
 funext i k
 unfold setc
 split
 ·next h => rw [h]
 ·rfl

theorem setc_comm (m : Nat → Nat → Int) {c d : Nat} (h : c ≠ d) (v v' : Nat → Int) : setc (setc m c v) d v' = setc (setc m d v') c v := by
 funext i k
 unfold setc
 by_cases e : k = d
 ·rw [if_pos e, if_neg (by omega), if_pos e]
 ·rw [if_neg e]
  by_cases e2 : k = c
  ·rw [if_pos e2, if_pos e2]
  ·rw [if_neg e2, if_neg e2, if_neg e]

theorem minor_setc_eq (m : Nat → Nat → Int) (c : Nat) (v : Nat → Int) : minor (setc m c v) c = minor m c := by
 funext i k
 unfold minor setc
 rw [if_neg]
 split <;> omega

theorem minor_setc_ne (m : Nat → Nat → Int) {c j : Nat} (h : j ≠ c) (v : Nat → Int) : minor (setc m c v) j = setc (minor m j) (if c < j then c else c - 1) (fun i => v (i + 1)) := by
 funext i k
 unfold minor setc
 by_cases e : (if k < j then k else k + 1) = c
 ·rw [if_pos e, if_pos (show k = (if c < j then c else c - 1) by split at e <;> split <;> omega)]
 ·rw [if_neg e, if_neg (show ¬ k = (if c < j then c else c - 1) by split at e <;> split <;> omega)]

/-- Linear in a column. -/
theorem det_lin : ∀ (n : Nat) (m : Nat → Nat → Int) (c : Nat) (s t : Int) (x y : Nat → Int), c < n → det n (setc m c (fun i => s * x i + t * y i)) = s * det n (setc m c x) + t * det n (setc m c y) := by
 intro n
 induction n with
 | zero => intro m c s t x y h; omega
 | succ n ih =>
  intro m c s t x y hc
  unfold det
  rw [← Sm_mul_left, ← Sm_mul_left, ← Sm_add]
  refine Sm_congr (fun j hj => ?_)
  by_cases e : j = c
  ·subst e
   rw [minor_setc_eq, minor_setc_eq, minor_setc_eq]
   simp only [setc, if_pos]
   generalize det n (minor m j) = d
   generalize sg j = g
   rw [Int.mul_add, Int.add_mul]
   congr 1
   ·rw [← Int.mul_assoc, Int.mul_comm g s, Int.mul_assoc s g, Int.mul_assoc]
   ·rw [← Int.mul_assoc, Int.mul_comm g t, Int.mul_assoc t g, Int.mul_assoc]
  ·rw [minor_setc_ne m e, minor_setc_ne m e, minor_setc_ne m e, ih _ _ s t _ _ (by split <;> omega)]
   simp only [setc, if_neg e]
   generalize det n _ = d1
   generalize det n _ = d2
   generalize sg j * m 0 j = g
   rw [Int.mul_add, ← Int.mul_assoc, ← Int.mul_assoc, Int.mul_comm g s, Int.mul_comm g t, Int.mul_assoc, Int.mul_assoc]

theorem det_add (n : Nat) (m : Nat → Nat → Int) (c : Nat) (x y : Nat → Int) (hc : c < n) : det n (setc m c (fun i => x i + y i)) = det n (setc m c x) + det n (setc m c y) := by
 have := det_lin n m c 1 1 x y hc
 simp only [Int.one_mul] at this
 exact this

theorem det_zero_col (n : Nat) (m : Nat → Nat → Int) (c : Nat) (hc : c < n) : det n (setc m c (fun _ => 0)) = 0 := by
 have := det_lin n m c 0 0 (fun _ => 0) (fun _ => 0) hc
 simp only [Int.zero_mul, Int.add_zero] at this
 exact this

theorem Sm_two {n c : Nat} {f : Nat → Int} (hc : c + 1 < n) (h : ∀ i, i < n → i ≠ c → i ≠ c + 1 → f i = 0) : Sm n f = f c + f (c + 1) := by
 have z : ∀ k, k ≤ n → Sm k f = (if c < k then f c else 0) + (if c + 1 < k then f (c + 1) else 0) := by
  intro k
  induction k with
  | zero => intro _; rfl
  | succ k ih =>
   intro hk
   unfold Sm
   rw [ih (by omega)]
   by_cases e : k = c
   ·subst e
    rw [if_neg (by omega), if_neg (by omega), if_pos (by omega), if_neg (by omega)]
    omega
   ·by_cases e2 : k = c + 1
    ·subst e2
     rw [if_pos (by omega), if_neg (by omega), if_pos (by omega), if_pos (by omega)]
     omega
    ·rw [h k (by omega) e e2]
     by_cases c1 : c < k
     ·rw [if_pos c1, if_pos (show c < k + 1 by omega)]
      by_cases c2 : c + 1 < k
      ·rw [if_pos c2, if_pos (by omega)]; omega
      ·rw [if_neg c2, if_neg (by omega)]; omega
     ·rw [if_neg c1, if_neg (show ¬ c + 1 < k by omega), if_neg (show ¬ c < k + 1 by omega), if_neg (by omega)]; omega
 rw [z n (Nat.le_refl _), if_pos (by omega), if_pos (by omega)]

/-- Two like columns side by side. -/
theorem det_adjacent : ∀ (n : Nat) (m : Nat → Nat → Int) (c : Nat), c + 1 < n → (∀ i, m i c = m i (c + 1)) → det n m = 0 := by
 intro n
 induction n with
 | zero => intro m c h; omega
 | succ n ih =>
  intro m c hc h
  unfold det
  rw [Sm_two hc]
  ·have e : minor m c = minor m (c + 1) := by
    funext i k
    unfold minor
    by_cases e1 : k < c
    ·rw [if_pos e1, if_pos (by omega)]
    ·rw [if_neg e1]
     by_cases e2 : k = c
     ·subst e2
      rw [if_pos (by omega)]
      exact (h (i + 1)).symm
     ·rw [if_neg (by omega)]
   rw [e, ← h 0, sg_succ, Int.neg_mul, Int.neg_mul]
   omega
  ·intro j hj h1 h2
   rw [ih (minor m j) (if c + 1 < j then c else c - 1), Int.mul_zero]
   ·split <;> omega
   ·intro i
    unfold minor
    by_cases c1 : c + 1 < j
    ·rw [if_pos c1, if_pos (by omega), if_pos (by omega)]
     exact h (i + 1)
    ·rw [if_neg c1, if_neg (by omega), if_neg (by omega), show c - 1 + 1 = c by omega]
     exact h (i + 1)

/-- Two neighbours change places: the sign changes. -/
theorem det_swap (n : Nat) (m : Nat → Nat → Int) (c : Nat) (hc : c + 1 < n) (x y : Nat → Int) : det n (setc (setc m c x) (c + 1) y) = - det n (setc (setc m c y) (c + 1) x) := by
 have two : ∀ x, det n (setc (setc m c x) (c + 1) x) = 0 := fun x => det_adjacent n _ c hc (fun i => by
  unfold setc
  rw [if_neg (by omega), if_pos rfl, if_pos rfl])
 have h := two (fun i => x i + y i)
 rw [det_add n _ (c + 1) x y hc, setc_comm m (show c ≠ c + 1 by omega), setc_comm m (show c ≠ c + 1 by omega), det_add n _ c x y (by omega), det_add n _ c x y (by omega)] at h
 rw [setc_comm m (show c + 1 ≠ c by omega), setc_comm m (show c + 1 ≠ c by omega), setc_comm m (show c + 1 ≠ c by omega), setc_comm m (show c + 1 ≠ c by omega), two x, two y] at h
 omega

/-- Two like columns anywhere. -/
theorem det_like (n : Nat) : ∀ (d : Nat) (m : Nat → Nat → Int) (p : Nat), p + 1 + d < n → (∀ i, m i p = m i (p + 1 + d)) → det n m = 0 := by
 intro d
 induction d with
 | zero => intro m p hp h; exact det_adjacent n m p hp h
 | succ d ih =>
  intro m p hp h
  have hs := det_swap n m (p + 1 + d) (by omega) (fun i => m i (p + 1 + d)) (fun i => m i (p + 1 + d + 1))
  have e1 : setc (setc m (p + 1 + d) (fun i => m i (p + 1 + d))) (p + 1 + d + 1) (fun i => m i (p + 1 + d + 1)) = m := by
   rw [setc_self, setc_self]
  rw [e1] at hs
  rw [hs, ih _ p (by omega)]
  ·rfl
  ·intro i
   unfold setc
   rw [if_neg (by omega), if_neg (by omega), if_neg (by omega), if_pos rfl]
   exact h i

theorem det_same {n : Nat} {m : Nat → Nat → Int} {p q : Nat} (hp : p < n) (hq : q < n) (hne : p ≠ q) (h : ∀ i, m i p = m i q) : det n m = 0 := by
 rcases Nat.lt_or_gt_of_ne hne with c | c
 ·exact det_like n (q - p - 1) m p (by omega) (fun i => by rw [show p + 1 + (q - p - 1) = q by omega]; exact h i)
 ·exact det_like n (p - q - 1) m q (by omega) (fun i => by rw [show q + 1 + (p - q - 1) = p by omega]; exact (h i).symm)

/-- A column that is a sum. -/
theorem det_sum (n : Nat) (m : Nat → Nat → Int) (c : Nat) (hc : c < n) (t : Nat → Int) (w : Nat → Nat → Int) : ∀ k, det n (setc m c (fun r => Sm k (fun i => t i * w i r))) = Sm k (fun i => t i * det n (setc m c (w i))) := by
 intro k
 induction k with
 | zero => exact det_zero_col n m c hc
 | succ k ih =>
  have h := det_lin n m c 1 (t k) (fun r => Sm k (fun i => t i * w i r)) (w k) hc
  simp only [Int.one_mul] at h
  show det n (setc m c (fun r => Sm k (fun i => t i * w i r) + t k * w k r)) = _
  rw [h, ih]
  rfl

theorem Sm_pick' (N : Nat) (f : Nat → Int) {p : Nat} (hp : p < N) : Sm N (fun r => (if r = p then 1 else 0) * f r) = f p := by
 induction N with
 | zero => omega
 | succ N ih =>
  show Sm N (fun r => (if r = p then 1 else 0) * f r) + (if N = p then 1 else 0) * f N = f p
  by_cases e : p = N
  ·subst e
   rw [if_pos rfl, Int.one_mul]
   have : Sm p (fun r => (if r = p then 1 else 0) * f r) = Sm p (fun _ => 0) := Sm_congr (fun i hi => by rw [if_neg (by omega), Int.zero_mul])
   rw [this, Sm_zero, Int.zero_add]
  ·rw [ih (by omega), if_neg (by omega), Int.zero_mul, Int.add_zero]

def unit (i : Nat) : Nat → Int := fun r => if r = i then 1 else 0

def adj (n : Nat) (x : Nat → Nat → Int) (k i : Nat) : Int := det n (setc x k (unit i))

/-- Cramer: what the k-th row of the adjoint does to a column. -/
theorem adj_col (n : Nat) (x : Nat → Nat → Int) (k : Nat) (hk : k < n) (v : Nat → Int) : Sm n (fun i => adj n x k i * v i) = det n (setc x k v) := by
 have h := det_sum n x k hk v unit n
 have e : det n (setc x k (fun r => Sm n (fun i => v i * unit i r))) = det n (setc x k v) := by
  refine det_congr n _ _ (fun i j hi hj => ?_)
  unfold setc
  split
  ·have : Sm n (fun a => v a * unit a i) = Sm n (fun a => (if a = i then 1 else 0) * v a) := Sm_congr (fun a _ => by
    unfold unit
    rw [Int.mul_comm]
    by_cases c : i = a
    ·rw [if_pos c, if_pos c.symm]
    ·rw [if_neg c, if_neg (fun z => c z.symm)])
   exact this.trans (Sm_pick' n v hi)
  ·rfl
 rw [e] at h
 rw [h]
 exact Sm_congr (fun i _ => Int.mul_comm _ _)

theorem adj_mul (n : Nat) (x : Nat → Nat → Int) (k j : Nat) (hk : k < n) (hj : j < n) : mul n (adj n x) x k j = if k = j then det n x else 0 := by
 unfold mul
 rw [adj_col n x k hk (fun i => x i j)]
 by_cases e : k = j
 ·subst e
  rw [if_pos rfl, setc_self]
 ·rw [if_neg e]
  refine det_same hk hj e (fun i => ?_)
  unfold setc
  rw [if_pos rfl, if_neg (fun z => e z.symm)]
/-- A product of n numbers. -/
def Pr : Nat → (Nat → Int) → Int
 | 0, _ => 1
 | n + 1, f => Pr n f * f n

theorem Pr_congr {n : Nat} {f g : Nat → Int} (h : ∀ i, i < n → f i = g i) : Pr n f = Pr n g := by
 induction n with
 | zero => rfl
 | succ n ih => unfold Pr; rw [ih (fun i hi => h i (by omega)), h n (by omega)]

theorem Pr_nonneg {n : Nat} {f : Nat → Int} (h : ∀ i, i < n → 0 ≤ f i) : 0 ≤ Pr n f := by
 induction n with
 | zero => exact (by decide : (0 : Int) ≤ 1)
 | succ n ih =>
  unfold Pr
  exact Int.mul_nonneg (ih (fun i hi => h i (by omega))) (h n (by omega))

theorem Pr_mono {n : Nat} {f g : Nat → Int} (h0 : ∀ i, i < n → 0 ≤ f i) (h : ∀ i, i < n → f i ≤ g i) : Pr n f ≤ Pr n g := by
 induction n with
 | zero => exact Int.le_refl _
 | succ n ih =>
  unfold Pr
  have h1 := ih (fun i hi => h0 i (by omega)) (fun i hi => h i (by omega))
  have h2 : Pr n f * f n ≤ Pr n g * f n := Int.mul_le_mul_of_nonneg_right h1 (h0 n (by omega))
  have hg : 0 ≤ Pr n g := Pr_nonneg (fun i hi => Int.le_trans (h0 i (by omega)) (h i (by omega)))
  have h3 : Pr n g * f n ≤ Pr n g * g n := Int.mul_le_mul_of_nonneg_left (h n (by omega)) hg
  omega

/-- The number's place behind the one that is left out. -/
def skip (j k : Nat) : Nat := if k < j then k else k + 1

theorem Pr_skip (n j : Nat) (f : Nat → Int) (hj : j ≤ n) : Pr (n + 1) (fun k => f (skip j k)) = if j = n + 1 then Pr (n + 1) f else Pr n (fun k => f (skip j k)) * f (n + 1) := by
 rw [if_neg (by omega)]
 show Pr n (fun k => f (skip j k)) * f (skip j n) = _
 rw [show skip j n = n + 1 from if_neg (by omega)]

theorem Pr_sum_le (a c : Nat → Int) (ha : ∀ i, 0 ≤ a i) (hc : ∀ i, 0 ≤ c i) : ∀ n, Sm (n + 1) (fun j => a j * Pr n (fun k => c (skip j k))) + Pr (n + 1) c ≤ Pr (n + 1) (fun k => a k + c k) := by
 intro n
 induction n with
 | zero =>
  show 0 + a 0 * 1 + 1 * c 0 ≤ 1 * (a 0 + c 0)
  omega
 | succ n ih =>
  have e1 : Sm (n + 1) (fun j => a j * Pr (n + 1) (fun k => c (skip j k))) = Sm (n + 1) (fun j => a j * Pr n (fun k => c (skip j k))) * c (n + 1) := by
   rw [← Sm_mul_right]
   refine Sm_congr (fun j hj => ?_)
   rw [Pr_skip n j c (by omega), if_neg (by omega), Int.mul_assoc]
  have e2 : Pr (n + 1) (fun k => c (skip (n + 1) k)) = Pr (n + 1) c := Pr_congr (fun k hk => by rw [show skip (n + 1) k = k from if_pos hk])
  show Sm (n + 1) (fun j => a j * Pr (n + 1) (fun k => c (skip j k))) + a (n + 1) * Pr (n + 1) (fun k => c (skip (n + 1) k)) + Pr (n + 1) c * c (n + 1) ≤ Pr (n + 1) (fun k => a k + c k) * (a (n + 1) + c (n + 1))
  rw [e1, e2, Int.mul_add]
  have hP : Pr (n + 1) c ≤ Pr (n + 1) (fun k => a k + c k) := Pr_mono (fun i _ => hc i) (fun i _ => by have := ha i; omega)
  have h1 : (Sm (n + 1) (fun j => a j * Pr n (fun k => c (skip j k))) + Pr (n + 1) c) * c (n + 1) ≤ Pr (n + 1) (fun k => a k + c k) * c (n + 1) := Int.mul_le_mul_of_nonneg_right ih (hc _)
  have h2 : Pr (n + 1) c * a (n + 1) ≤ Pr (n + 1) (fun k => a k + c k) * a (n + 1) := Int.mul_le_mul_of_nonneg_right hP (ha _)
  rw [Int.add_mul] at h1
  rw [Int.mul_comm (a (n + 1))]
  omega

/-- The coefficients of the determinant of a + u b. -/
def dc : Nat → (Nat → Nat → Int) → (Nat → Nat → Int) → Nat → Int
 | 0, _, _ => fun i => if i = 0 then 1 else 0
 | n + 1, a, b => fun i => Sm (n + 1) (fun j => lin (sg j * a 0 j) (sg j * b 0 j) (dc n (minor a j) (minor b j)) i)

theorem Coef.sum {d : Nat} (n : Nat) (B : Nat → Int) (c : Nat → Nat → Int) (f : Nat → Int → Int) (h : ∀ j, j < n → Coef d (B j) (c j) (f j)) : Coef d (Sm n B) (fun i => Sm n (fun j => c j i)) (fun u => Sm n (fun j => f j u)) := by
 induction n with
 | zero => exact Coef.zero d
 | succ n ih => exact Coef.add (ih (fun j hj => h j (by omega))) (h n (by omega))

/-- A column's size. -/
def cs (n : Nat) (a b : Nat → Nat → Int) (k : Nat) : Int := Sm n (fun i => ab (a i k) + ab (b i k))

theorem cs_nonneg (n : Nat) (a b : Nat → Nat → Int) (k : Nat) : 0 ≤ cs n a b k := Sm_nonneg (fun i _ => by
 have := ab_nonneg (a i k)
 have := ab_nonneg (b i k)
 omega)

theorem Sm_first (n : Nat) (f : Nat → Int) : Sm (n + 1) f = f 0 + Sm n (fun i => f (i + 1)) := by
 induction n with
 | zero => show 0 + f 0 = f 0 + 0; omega
 | succ n ih =>
  show Sm (n + 1) f + f (n + 1) = f 0 + (Sm n (fun i => f (i + 1)) + f (n + 1))
  rw [ih]; omega

theorem ab_sg (j : Nat) (x : Int) : ab (sg j * x) = ab x := by
 rw [ab_mul]
 have : ab (sg j) = 1 := by unfold sg ab; split <;> rfl
 rw [this, Int.one_mul]

theorem det_coef : ∀ (n : Nat) (a b : Nat → Nat → Int), Coef (n + 1) (Pr n (cs n a b)) (dc n a b) (fun u => det n (fun i k => a i k + u * b i k)) := by
 intro n
 induction n with
 | zero => intro a b; exact Coef.one
 | succ n ih =>
  intro a b
  have h := Coef.sum (d := n + 2) (n + 1) (fun j => (ab (sg j * a 0 j) + ab (sg j * b 0 j)) * Pr n (cs n (minor a j) (minor b j))) (fun j => lin (sg j * a 0 j) (sg j * b 0 j) (dc n (minor a j) (minor b j)))
   (fun j u => (sg j * a 0 j + u * (sg j * b 0 j)) * det n (fun i k => minor a j i k + u * minor b j i k)) (fun j _ => (ih (minor a j) (minor b j)).lin_mul _ _)
  have hB : Sm (n + 1) (fun j => (ab (sg j * a 0 j) + ab (sg j * b 0 j)) * Pr n (cs n (minor a j) (minor b j))) ≤ Pr (n + 1) (cs (n + 1) a b) := by
   have h1 := Pr_sum_le (fun k => ab (a 0 k) + ab (b 0 k)) (fun k => Sm n (fun i => ab (a (i + 1) k) + ab (b (i + 1) k))) (fun k => by have := ab_nonneg (a 0 k); have := ab_nonneg (b 0 k); omega) (fun k => Sm_nonneg (fun i _ => by have := ab_nonneg (a (i + 1) k); have := ab_nonneg (b (i + 1) k); omega)) n
   have h2 : 0 ≤ Pr (n + 1) (fun k => Sm n (fun i => ab (a (i + 1) k) + ab (b (i + 1) k))) := Pr_nonneg (fun k _ => Sm_nonneg (fun i _ => by have := ab_nonneg (a (i + 1) k); have := ab_nonneg (b (i + 1) k); omega))
   have e1 : Pr (n + 1) (cs (n + 1) a b) = Pr (n + 1) (fun k => (ab (a 0 k) + ab (b 0 k)) + Sm n (fun i => ab (a (i + 1) k) + ab (b (i + 1) k))) := Pr_congr (fun k _ => Sm_first n (fun i => ab (a i k) + ab (b i k)))
   have e2 : Sm (n + 1) (fun j => (ab (sg j * a 0 j) + ab (sg j * b 0 j)) * Pr n (cs n (minor a j) (minor b j))) = Sm (n + 1) (fun j => (ab (a 0 j) + ab (b 0 j)) * Pr n (fun k => Sm n (fun i => ab (a (i + 1) (skip j k)) + ab (b (i + 1) (skip j k))))) := Sm_congr (fun j _ => by
    rw [ab_sg, ab_sg]
    rfl)
   rw [e1, e2]
   omega
  refine ⟨h.1, fun u => ?_, Int.le_trans h.2.2 hB⟩
  refine Eq.trans ?_ (h.2.1 u)
  refine Sm_congr (fun j _ => ?_)
  show sg j * (a 0 j + u * b 0 j) * det n (minor (fun i k => a i k + u * b i k) j) = (sg j * a 0 j + u * (sg j * b 0 j)) * det n (fun i k => minor a j i k + u * minor b j i k)
  have e : minor (fun i k => a i k + u * b i k) j = fun i k => minor a j i k + u * minor b j i k := rfl
  rw [e, Int.mul_add, ← Int.mul_assoc (sg j) u, Int.mul_comm (sg j) u, Int.mul_assoc u]
theorem dc_high (n : Nat) (a b : Nat → Nat → Int) {i : Nat} (h : n + 1 ≤ i) : dc n a b i = 0 := (det_coef n a b).1 i h

theorem dc_zero : ∀ (n : Nat) (a b : Nat → Nat → Int), dc n a b 0 = det n a := by
 intro n
 induction n with
 | zero => intro a b; rfl
 | succ n ih =>
  intro a b
  show Sm (n + 1) (fun j => lin (sg j * a 0 j) (sg j * b 0 j) (dc n (minor a j) (minor b j)) 0) = Sm (n + 1) (fun j => sg j * a 0 j * det n (minor a j))
  refine Sm_congr (fun j _ => ?_)
  unfold lin
  rw [if_pos rfl, ih, Int.add_zero]

theorem dc_top : ∀ (n : Nat) (a b : Nat → Nat → Int), dc n a b n = det n b := by
 intro n
 induction n with
 | zero => intro a b; rfl
 | succ n ih =>
  intro a b
  show Sm (n + 1) (fun j => lin (sg j * a 0 j) (sg j * b 0 j) (dc n (minor a j) (minor b j)) (n + 1)) = Sm (n + 1) (fun j => sg j * b 0 j * det n (minor b j))
  refine Sm_congr (fun j _ => ?_)
  unfold lin
  rw [if_neg (by omega), Nat.add_sub_cancel, ih, dc_high n _ _ (Nat.le_refl _), Int.mul_zero, Int.zero_add]

def idm (i k : Nat) : Int := if i = k then 1 else 0
def ng (a : Nat → Nat → Int) (i k : Nat) : Int := - a i k

/-- The coefficients of det(1 - u a). -/
def ch (n : Nat) (a : Nat → Nat → Int) : Nat → Int := dc n idm (ng a)

/-- The coefficients of the adjoint's entries. -/
def nc (n : Nat) (a : Nat → Nat → Int) (m k i : Nat) : Int := dc n (setc idm k (unit i)) (setc (ng a) k (fun _ => 0)) m

def xu (a : Nat → Nat → Int) (u : Int) (i k : Nat) : Int := idm i k + u * ng a i k

theorem adj_xu (n : Nat) (a : Nat → Nat → Int) (u : Int) (k i : Nat) : adj n (xu a u) k i = Sm (n + 1) (fun m => nc n a m k i * u ^ m) := by
 refine Eq.trans ?_ ((det_coef n (setc idm k (unit i)) (setc (ng a) k (fun _ => 0))).2.1 u)
 unfold adj
 refine det_congr n _ _ (fun r c _ _ => ?_)
 unfold setc xu
 by_cases e : c = k
 ·rw [if_pos e, if_pos e, if_pos e, Int.mul_zero, Int.add_zero]
 ·rw [if_neg e, if_neg e, if_neg e]

theorem det_xu (n : Nat) (a : Nat → Nat → Int) (u : Int) : det n (xu a u) = Sm (n + 1) (fun m => ch n a m * u ^ m) := (det_coef n idm (ng a)).2.1 u

theorem nc_end (n : Nat) (a : Nat → Nat → Int) (m k i : Nat) (hk : k < n) (hm : n ≤ m) : nc n a m k i = 0 := by
 by_cases e : m = n
 ·subst e
  unfold nc
  rw [dc_top]
  exact det_zero_col m (ng a) k hk
 ·exact dc_high n _ _ (by omega)

/-- N_m = N_(m-1) A + d_m. -/
theorem nc_step (n : Nat) (a : Nat → Nat → Int) (m k j : Nat) (hk : k < n) (hj : j < n) : nc n a m k j = (if m = 0 then 0 else Sm n (fun i => nc n a (m - 1) k i * a i j)) + (if k = j then ch n a m else 0) := by
 by_cases hm : n + 2 ≤ m
 ·rw [nc_end n a m k j hk (by omega), if_neg (by omega), show ch n a m = 0 from dc_high n _ _ (by omega)]
  rw [Sm_congr (g := fun _ => 0) (fun i _ => by rw [nc_end n a (m - 1) k i hk (by omega), Int.zero_mul]), Sm_zero]
  split <;> rfl
 have key : ∀ u : Int, Sm (n + 2) (fun m => (nc n a m k j - ((if m = 0 then 0 else Sm n (fun i => nc n a (m - 1) k i * a i j)) + (if k = j then ch n a m else 0))) * u ^ m) = 0 := by
  intro u
  have h := adj_mul n (xu a u) k j hk hj
  unfold mul at h
  have e1 : Sm n (fun i => adj n (xu a u) k i * xu a u i j) = adj n (xu a u) k j - u * Sm n (fun i => adj n (xu a u) k i * a i j) := by
   have : Sm n (fun i => adj n (xu a u) k i * xu a u i j) = Sm n (fun i => (if i = j then 1 else 0) * adj n (xu a u) k i + (-u) * (adj n (xu a u) k i * a i j)) := Sm_congr (fun i _ => by
    unfold xu idm ng
    generalize adj n _ k i = g
    rw [Int.mul_add]
    congr 1
    ·exact Int.mul_comm _ _
    ·rw [Int.mul_neg, Int.mul_neg, Int.neg_mul, Int.mul_comm g, Int.mul_assoc, Int.mul_comm (a i j) g])
   rw [this, Sm_add, Sm_pick' n _ hj, Sm_mul_left, Int.neg_mul]
   rfl
  rw [e1] at h
  have e2 : Sm n (fun i => adj n (xu a u) k i * a i j) = Sm (n + 1) (fun m => Sm n (fun i => nc n a m k i * a i j) * u ^ m) := by
   rw [Sm_congr (g := fun i => Sm (n + 1) (fun m => nc n a m k i * a i j * u ^ m)) (fun i _ => by
    rw [adj_xu, ← Sm_mul_right]
    exact Sm_congr (fun m _ => by rw [Int.mul_assoc, Int.mul_comm (u ^ m), ← Int.mul_assoc])), Sm_swap]
   exact Sm_congr (fun m _ => Sm_mul_right n _ _)
  have e3 : u * Sm (n + 1) (fun m => Sm n (fun i => nc n a m k i * a i j) * u ^ m) = Sm (n + 2) (fun m => (if m = 0 then 0 else Sm n (fun i => nc n a (m - 1) k i * a i j)) * u ^ m) := by
   rw [← Sm_mul_left, ← Sm_shift]
   refine Sm_congr (fun m _ => ?_)
   by_cases e : m = 0
   ·rw [if_pos e, if_pos e, Int.zero_mul]
   ·rw [if_neg e, if_neg e]
    obtain ⟨q, rfl⟩ : ∃ q, m = q + 1 := ⟨m - 1, by omega⟩
    rw [Nat.add_sub_cancel, Int.pow_succ, Int.mul_comm (u ^ q) u, ← Int.mul_assoc, ← Int.mul_assoc, Int.mul_comm u]
  have e4 : Sm (n + 1) (fun m => nc n a m k j * u ^ m) = Sm (n + 2) (fun m => nc n a m k j * u ^ m) := (Sm_more _ (by omega) (fun i hi => by rw [nc_end n a i k j hk (by omega), Int.zero_mul])).symm
  have e5 : (if k = j then det n (xu a u) else 0) = Sm (n + 2) (fun m => (if k = j then ch n a m else 0) * u ^ m) := by
   by_cases c : k = j
   ·rw [if_pos c, det_xu]
    rw [Sm_congr (n := n + 2) (g := fun m => ch n a m * u ^ m) (fun m _ => by rw [if_pos c])]
    exact (Sm_more _ (by omega) (fun i hi => by rw [show ch n a i = 0 from dc_high n _ _ (by omega), Int.zero_mul])).symm
   ·rw [if_neg c, Sm_congr (n := n + 2) (g := fun _ => 0) (fun m _ => by rw [if_neg c, Int.zero_mul]), Sm_zero]
  rw [adj_xu, e2, e3, e4, e5] at h
  have e6 : Sm (n + 2) (fun m => (nc n a m k j - ((if m = 0 then 0 else Sm n (fun i => nc n a (m - 1) k i * a i j)) + (if k = j then ch n a m else 0))) * u ^ m) = Sm (n + 2) (fun m => nc n a m k j * u ^ m) + ((-1) * Sm (n + 2) (fun m => (if m = 0 then 0 else Sm n (fun i => nc n a (m - 1) k i * a i j)) * u ^ m) + (-1) * Sm (n + 2) (fun m => (if k = j then ch n a m else 0) * u ^ m)) := by
   rw [← Sm_mul_left, ← Sm_mul_left, ← Sm_add, ← Sm_add]
   refine Sm_congr (fun m _ => ?_)
   generalize nc n a m k j = x1
   generalize (if m = 0 then (0 : Int) else _) = x2
   generalize (if k = j then _ else (0 : Int)) = x3
   generalize u ^ m = x4
   rw [Int.sub_mul, Int.add_mul]
   omega
  rw [e6]
  omega
 have := coef_zero (n + 2) _ (fun u _ => key u) m (by omega)
 omega
theorem Sm_skip (f : Nat → Int) : ∀ (n j : Nat), j ≤ n → Sm (n + 1) f = f j + Sm n (fun k => f (skip j k)) := by
 intro n
 induction n with
 | zero =>
  intro j hj
  rw [show j = 0 by omega]
  show 0 + f 0 = f 0 + 0
  omega
 | succ n ih =>
  intro j hj
  by_cases e : j = n + 1
  ·subst e
   show Sm (n + 1) f + f (n + 1) = _
   rw [Sm_congr (g := fun k => f (skip (n + 1) k)) (fun k hk => by rw [show skip (n + 1) k = k from if_pos hk])]
   omega
  ·show Sm (n + 1) f + f (n + 1) = f j + (Sm n (fun k => f (skip j k)) + f (skip j n))
   rw [ih j (by omega), show skip j n = n + 1 from if_neg (by omega)]
   omega

/-- The first coefficient: one column after the other is exchanged. -/
theorem dc_one : ∀ (n : Nat) (a b : Nat → Nat → Int), dc n a b 1 = Sm n (fun k => det n (setc a k (fun i => b i k))) := by
 intro n
 induction n with
 | zero => intro a b; rfl
 | succ n ih =>
  intro a b
  have e1 : ∀ k, k < n + 1 → det (n + 1) (setc a k (fun i => b i k)) = Sm (n + 1) (fun j => sg j * setc a k (fun i => b i k) 0 j * det n (minor (setc a k (fun i => b i k)) j)) := fun k _ => rfl
  rw [Sm_congr e1, Sm_swap]
  show Sm (n + 1) (fun j => lin (sg j * a 0 j) (sg j * b 0 j) (dc n (minor a j) (minor b j)) 1) = _
  refine Sm_congr (fun j hj => ?_)
  rw [Sm_skip _ n j (by omega)]
  unfold lin
  rw [if_neg (by omega), ih, dc_zero, minor_setc_eq, Int.add_comm]
  congr 1
  ·show _ = sg j * (if j = j then b 0 j else a 0 j) * _
   rw [if_pos rfl]
  ·rw [← Sm_mul_left]
   refine Sm_congr (fun k hk => ?_)
   have hne : j ≠ skip j k := by unfold skip; split <;> omega
   rw [minor_setc_ne a hne]
   have e2 : setc a (skip j k) (fun i => b i (skip j k)) 0 j = a 0 j := if_neg hne
   have e3 : (if skip j k < j then skip j k else skip j k - 1) = k := by
    unfold skip
    by_cases c : k < j
    ·rw [if_pos c, if_pos c]
    ·rw [if_neg c, if_neg (by omega)]
     omega
   rw [e2, e3]
   rfl

theorem pow_near (u h : Int) : ∀ m : Nat, ∃ e, (u + h) ^ m = u ^ m + h * ((m : Int) * u ^ (m - 1)) + h * h * e := by
 intro m
 induction m with
 | zero => exact ⟨0, by rw [Int.pow_zero, Int.pow_zero]; simp⟩
 | succ m ih =>
  obtain ⟨e, he⟩ := ih
  have e1 : (m : Int) * u ^ (m - 1) * u = (m : Int) * u ^ m := by
   match m with
   | 0 => simp
   | q + 1 => rw [Nat.add_sub_cancel, Int.mul_assoc, ← Int.pow_succ]
  refine ⟨(m : Int) * u ^ (m - 1) + e * (u + h), ?_⟩
  rw [Int.pow_succ, he, Int.pow_succ, Nat.add_sub_cancel]
  generalize (m : Int) * u ^ (m - 1) = p at *
  rw [show ((m + 1 : Nat) : Int) = m + 1 from rfl, Int.add_mul (m : Int) 1, ← e1]
  generalize u ^ m = q
  grind

theorem Sm_near (d : Nat) (c : Nat → Int) (u h : Int) : ∃ e, Sm d (fun m => c m * (u + h) ^ m) = Sm d (fun m => c m * u ^ m) + h * Sm d (fun m => c m * ((m : Int) * u ^ (m - 1))) + h * h * e := by
 induction d with
 | zero => exact ⟨0, by simp [Sm]⟩
 | succ d ih =>
  obtain ⟨e, he⟩ := ih
  obtain ⟨e', he'⟩ := pow_near u h d
  refine ⟨e + c d * e', ?_⟩
  show Sm d (fun m => c m * (u + h) ^ m) + c d * (u + h) ^ d = Sm d (fun m => c m * u ^ m) + c d * u ^ d + h * (Sm d (fun m => c m * ((m : Int) * u ^ (m - 1))) + c d * ((d : Int) * u ^ (d - 1))) + h * h * (e + c d * e')
  rw [he, he']
  generalize Sm d _ = s1
  generalize Sm d _ = s2
  generalize (d : Int) * u ^ (d - 1) = s3
  generalize u ^ d = s4
  generalize c d = s5
  grind

theorem Sm_two_terms (d : Nat) (c : Nat → Int) (h : Int) : ∃ e, Sm (d + 2) (fun m => c m * h ^ m) = c 0 + h * c 1 + h * h * e := by
 induction d with
 | zero =>
  refine ⟨0, ?_⟩
  show 0 + c 0 * h ^ 0 + c 1 * h ^ 1 = _
  rw [Int.pow_zero, Int.pow_succ, Int.pow_zero]
  grind
 | succ d ih =>
  obtain ⟨e, he⟩ := ih
  refine ⟨e + c (d + 2) * h ^ d, ?_⟩
  show Sm (d + 2) (fun m => c m * h ^ m) + c (d + 2) * h ^ (d + 2) = _
  rw [he, Int.pow_succ, Int.pow_succ]
  generalize h ^ d = p
  grind

/-- The trace of N_m A. -/
def tn (n : Nat) (a : Nat → Nat → Int) (m : Nat) : Int := Sm n (fun k => Sm n (fun i => nc n a m k i * a i k))

theorem newton (n : Nat) (a : Nat → Nat → Int) (m : Nat) (hm : m < n + 1) : ((m + 1 : Nat) : Int) * ch n a (m + 1) = - tn n a m := by
 have key : ∀ u : Int, Sm (n + 1) (fun m => ch n a m * ((m : Int) * u ^ (m - 1))) = - Sm (n + 1) (fun m => tn n a m * u ^ m) := by
  intro u
  apply Classical.byContradiction
  intro hc
  obtain ⟨x, hx⟩ : ∃ x, x = Sm (n + 1) (fun m => ch n a m * ((m : Int) * u ^ (m - 1))) + Sm (n + 1) (fun m => tn n a m * u ^ m) := ⟨_, rfl⟩
  obtain ⟨h, hh⟩ : ∃ h : Int, h = ab x + 1 := ⟨_, rfl⟩
  have hpos : 1 ≤ h := by have := ab_nonneg x; omega
  obtain ⟨e1, he1⟩ := Sm_near (n + 1) (ch n a) u h
  have d1 := det_xu n a (u + h)
  have d0 := det_xu n a u
  have dd := (det_coef n (xu a u) (ng a)).2.1 h
  simp only at dd
  have ex : (fun i k => xu a u i k + h * ng a i k) = xu a (u + h) := by
   funext i k
   unfold xu
   rw [Int.add_mul]
   omega
  rw [ex] at dd
  obtain ⟨e2, he2⟩ := Sm_two_terms n (dc n (xu a u) (ng a)) h
  rw [Sm_more (d := n + 1) (fun m => dc n (xu a u) (ng a) m * h ^ m) (by omega) (fun i hi => by rw [dc_high n _ _ hi, Int.zero_mul]), ← dd, dc_zero] at he2
  have ej : dc n (xu a u) (ng a) 1 = - Sm (n + 1) (fun m => tn n a m * u ^ m) := by
   rw [dc_one]
   have e3 : Sm n (fun k => det n (setc (xu a u) k (fun i => ng a i k))) = Sm n (fun k => Sm n (fun i => adj n (xu a u) k i * ng a i k)) := Sm_congr (fun k hk => (adj_col n (xu a u) k hk (fun i => ng a i k)).symm)
   rw [e3]
   have e4 : Sm n (fun k => Sm n (fun i => adj n (xu a u) k i * ng a i k)) = Sm n (fun k => Sm n (fun i => Sm (n + 1) (fun m => (-1) * (nc n a m k i * a i k * u ^ m)))) := Sm_congr (fun k _ => Sm_congr (fun i _ => by
    rw [adj_xu, Sm_mul_left, ← Sm_mul_right]
    unfold ng
    rw [← Sm_mul_left]
    refine Sm_congr (fun m _ => ?_)
    grind))
   rw [e4]
   have e5 : Sm n (fun k => Sm n (fun i => Sm (n + 1) (fun m => (-1) * (nc n a m k i * a i k * u ^ m)))) = Sm (n + 1) (fun m => (-1) * (tn n a m * u ^ m)) := by
    rw [Sm_congr (g := fun k => Sm (n + 1) (fun m => Sm n (fun i => (-1) * (nc n a m k i * a i k * u ^ m)))) (fun k _ => Sm_swap _ _ _), Sm_swap]
    refine Sm_congr (fun m _ => ?_)
    unfold tn
    rw [← Sm_mul_right, ← Sm_mul_left]
    refine Sm_congr (fun k _ => ?_)
    rw [← Sm_mul_right, ← Sm_mul_left]
   rw [e5, Sm_mul_left]
   omega
  rw [ej, d1, he1, ← d0] at he2
  have hdiv : h * x = h * (h * (e2 - e1)) := by
   rw [hx]
   generalize Sm (n + 1) (fun m => ch n a m * ((m : Int) * u ^ (m - 1))) = s1 at *
   generalize Sm (n + 1) (fun m => tn n a m * u ^ m) = s2 at *
   grind
  have hx2 : x = h * (e2 - e1) := Int.eq_of_mul_eq_mul_left (by omega) hdiv
  have hx0 : x ≠ 0 := by omega
  have hd : h ∣ x := ⟨_, hx2⟩
  have h3 := Nat.le_of_dvd (by omega) (Int.natAbs_dvd_natAbs.2 hd)
  have h4 : ab x = x.natAbs := rfl
  omega
 have shift : ∀ u : Int, Sm (n + 1) (fun m => ch n a m * ((m : Int) * u ^ (m - 1))) = Sm (n + 1) (fun m => ((m + 1 : Nat) : Int) * ch n a (m + 1) * u ^ m) := by
  intro u
  have e1 : Sm (n + 2) (fun m => ch n a m * ((m : Int) * u ^ (m - 1))) = Sm (n + 1) (fun m => ch n a m * ((m : Int) * u ^ (m - 1))) := Sm_more _ (by omega) (fun i hi => by rw [show ch n a i = 0 from dc_high n _ _ hi, Int.zero_mul])
  rw [← e1, Sm_first]
  simp only [Nat.add_sub_cancel]
  rw [show ((0 : Nat) : Int) = 0 from rfl, Int.zero_mul, Int.mul_zero, Int.zero_add]
  refine Sm_congr (fun m _ => ?_)
  grind
 have := coef_zero (n + 1) (fun m => ((m + 1 : Nat) : Int) * ch n a (m + 1) + tn n a m) (fun u _ => by
  have h1 := key u
  rw [shift] at h1
  rw [Sm_congr (g := fun m => ((m + 1 : Nat) : Int) * ch n a (m + 1) * u ^ m + tn n a m * u ^ m) (fun m _ => Int.add_mul _ _ _), Sm_add]
  omega) m hm
 omega
def zeros (n : Nat) : List (List Int) := List.replicate n (List.replicate n 0)

theorem rep_succ {α : Type} (n : Nat) (x : α) : List.replicate n x ++ [x] = List.replicate (n + 1) x := List.replicate_succ'.symm

theorem implSquare (n : Int) (h0 : 0 ≤ n) (h1 : n ≤ 1000) : Ev (fun k => impl_square.f k n) (zeros n.toNat) := by
 have : ∀ (d v : Nat), (v : Int) + d = n → Ev (fun k => impl_square.l0 k n (List.replicate v (List.replicate n.toNat 0)) n (v : Int)) (zeros n.toNat) := by
  intro d
  induction d with
  | zero =>
   intro v hv
   refine Ev.succ ?_; simp only [impl_square.l0]
   rw [show v = n.toNat by omega]
   repeat (first | with_reducible exact Ev.now _ | dsimp only | refine Ev.pos (by first | omega | rfl | assumption | decide) ?_ | refine Ev.neg (by first | omega | assumption | exact Bool.false_ne_true | exact fun e => absurd e (by decide)) ?_ | simp only [bne_self_eq_false, Bool.not_true, Bool.not_false, List.length_cons, List.length_nil] | rw [wrap_id (by omega) (by omega)] | ((with_reducible refine Ev.eq (congrArg some ?_)); rfl))
  | succ d ih =>
   intro v hv
   have := ih (v + 1) (by omega)
   rw [← rep_succ] at this
   refine Ev.succ ?_; simp only [impl_square.l0]
   rw [wrap_succ (by omega)]
   refine Ev.pos (by omega) ?_
   refine Ev.pos (by omega) ?_
   refine Ev.pos (by omega) ?_
   refine Ev.pos (by simp; omega) ?_
   exact this
 exact this n.toNat 0 (by omega)
theorem wrap_q (x : Int) : ∃ q : Int, wrap64 x = x + 18446744073709551616 * q := ⟨-((x + 9223372036854775808) / 18446744073709551616), by unfold wrap64; omega⟩

theorem wrap_of_q (x q : Int) : wrap64 (x + 18446744073709551616 * q) = wrap64 x := by unfold wrap64; omega

theorem wrap_wrap (x : Int) : wrap64 (wrap64 x) = wrap64 x := by unfold wrap64; omega

theorem wrap_mul_right (x y : Int) : wrap64 (x * wrap64 y) = wrap64 (x * y) := by
 obtain ⟨q, hq⟩ := wrap_q y
 rw [hq, Int.mul_add, Int.mul_left_comm, wrap_of_q]

theorem wrap_mul_left (x y : Int) : wrap64 (wrap64 x * y) = wrap64 (x * y) := by
 rw [Int.mul_comm, wrap_mul_right, Int.mul_comm]

theorem wrap_mul_wrap (x y : Int) : wrap64 (wrap64 x * wrap64 y) = wrap64 (x * y) := by
 rw [wrap_mul_left, wrap_mul_right]

theorem wrap_neg (a : Int) : wrap64 (-wrap64 a) = wrap64 (-a) := by
 unfold wrap64
 omega

theorem wrap_add_congr {a a' b b' : Int} (h : wrap64 a = wrap64 a') (h' : wrap64 b = wrap64 b') : wrap64 (a + b) = wrap64 (a' + b') := by
 rw [← wrap_add_wrap, h, h', wrap_add_wrap]

theorem wrap_Sm {n : Nat} {f g : Nat → Int} (h : ∀ i, i < n → wrap64 (f i) = wrap64 (g i)) : wrap64 (Sm n f) = wrap64 (Sm n g) := by
 induction n with
 | zero => rfl
 | succ n ih =>
  unfold Sm
  exact wrap_add_congr (ih (fun i hi => h i (by omega))) (h n (by omega))

theorem nc_comm (n : Nat) (a : Nat → Nat → Int) : ∀ (m k j : Nat), k < n → j < n → mul n a (nc n a m) k j = mul n (nc n a m) a k j := by
 have base : ∀ (f : Nat → Nat → Int) (d : Int) (N : Nat → Nat → Int), (∀ k j, k < n → j < n → N k j = f k j + (if k = j then d else 0)) → (∀ k j, k < n → j < n → mul n a f k j = mul n f a k j) → ∀ k j, k < n → j < n → mul n a N k j = mul n N a k j := by
  intro f d N hN hf k j hk hj
  unfold mul
  rw [Sm_congr (g := fun i => a k i * f i j + (if i = j then 1 else 0) * (a k i * d)) (fun i hi => by
   rw [hN i j hi hj, Int.mul_add]
   congr 1
   by_cases e : i = j
   ·rw [if_pos e, if_pos e, Int.one_mul]
   ·rw [if_neg e, if_neg e, Int.zero_mul, Int.mul_zero])]
  rw [Sm_congr (f := fun i => N k i * a i j) (g := fun i => f k i * a i j + (if i = k then 1 else 0) * (d * a i j)) (fun i hi => by
   rw [hN k i hk hi, Int.add_mul]
   congr 1
   by_cases e : k = i
   ·rw [if_pos e, if_pos e.symm, Int.one_mul]
   ·rw [if_neg e, if_neg (fun z => e z.symm), Int.zero_mul, Int.zero_mul])]
  rw [Sm_add, Sm_add, Sm_pick' n (fun i => a k i * d) hj, Sm_pick' n (fun i => d * a i j) hk, Int.mul_comm d]
  congr 1
  exact hf k j hk hj
 intro m
 induction m with
 | zero =>
  refine base (fun _ _ => 0) (ch n a 0) _ (fun k j hk hj => ?_) (fun k j hk hj => ?_)
  ·rw [nc_step n a 0 k j hk hj, if_pos rfl]
  ·unfold mul
   rw [Sm_congr (g := fun _ => 0) (fun i _ => Int.mul_zero _), Sm_congr (f := fun i => 0 * a i j) (g := fun _ => 0) (fun i _ => Int.zero_mul _)]
 | succ m ih =>
  refine base (fun k j => mul n (nc n a m) a k j) (ch n a (m + 1)) _ (fun k j hk hj => ?_) (fun k j hk hj => ?_)
  ·rw [nc_step n a (m + 1) k j hk hj, if_neg (by omega), Nat.add_sub_cancel]
   rfl
  ·have h1 := mul_assoc' n a (nc n a m) a k j
   have h2 : mul n (mul n a (nc n a m)) a k j = mul n (mul n (nc n a m) a) a k j := mul_congr (fun i hi => ih k i hk hi) (fun i _ => rfl)
   rw [h2] at h1
   exact h1.symm
/-- The last column is zero above its foot. -/
theorem det_foot : ∀ (n : Nat) (m : Nat → Nat → Int) (s : Int), (∀ i, i < n → m i n = 0) → m n n = s → det (n + 1) m = s * det n m := by
 intro n
 induction n with
 | zero =>
  intro m s _ hs
  show 0 + sg 0 * m 0 0 * 1 = s * 1
  rw [hs]
  show 0 + 1 * s * 1 = s * 1
  omega
 | succ n ih =>
  intro m s h hs
  show Sm (n + 1) (fun j => sg j * m 0 j * det (n + 1) (minor m j)) + sg (n + 1) * m 0 (n + 1) * det (n + 1) (minor m (n + 1)) = s * Sm (n + 1) (fun j => sg j * m 0 j * det n (minor m j))
  rw [h 0 (by omega), Int.mul_zero, Int.zero_mul, Int.add_zero, ← Sm_mul_left]
  refine Sm_congr (fun j hj => ?_)
  rw [ih (minor m j) s ?_ ?_]
  ·rw [← Int.mul_assoc, ← Int.mul_assoc, Int.mul_comm s, Int.mul_assoc (sg j * m 0 j)]
  ·intro i hi
   unfold minor
   rw [if_neg (by omega)]
   exact h (i + 1) (by omega)
  ·unfold minor
   rw [if_neg (by omega)]
   exact hs

theorem border (n : Nat) (x : Nat → Nat → Int) (hr : ∀ r i, r < n → i < n → mul n x (adj n x) r i = if r = i then det n x else 0) : det n x * det (n + 1) x = det n x * (x n n * det n x - Sm n (fun k => x n k * Sm n (fun i => adj n x k i * x i n))) := by
 obtain ⟨w, hw⟩ : ∃ w : Nat → Int, w = fun k => Sm n (fun i => adj n x k i * x i n) := ⟨_, rfl⟩
 obtain ⟨s, hs⟩ : ∃ s : Int, s = x n n * det n x - Sm n (fun k => x n k * w k) := ⟨_, rfl⟩
 -- the last column times the determinant, less the others
 have h1 := det_lin (n + 1) x n (det n x) (-1) (fun i => x i n) (fun r => Sm n (fun k => w k * x r k)) (by omega)
 rw [setc_self, det_sum (n + 1) x n (by omega) w (fun k r => x r k) n] at h1
 have hz : Sm n (fun k => w k * det (n + 1) (setc x n (fun r => x r k))) = 0 := by
  rw [Sm_congr (g := fun _ => 0) (fun k hk => ?_), Sm_zero]
  rw [det_same (n := n + 1) (p := n) (q := k) (by omega) (by omega) (by omega) (fun i => ?_), Int.mul_zero]
  unfold setc
  rw [if_pos rfl, if_neg (by omega)]
 rw [hz, Int.mul_zero, Int.add_zero] at h1
 -- X adj X = det X, row by row
 have hx : ∀ r, r < n → Sm n (fun k => w k * x r k) = det n x * x r n := by
  intro r hrn
  rw [hw]
  rw [Sm_congr (g := fun k => Sm n (fun i => x r k * adj n x k i * x i n)) (fun k _ => by
   rw [Int.mul_comm, ← Sm_mul_left]
   exact Sm_congr (fun i _ => (Int.mul_assoc _ _ _).symm)), Sm_swap]
  rw [Sm_congr (g := fun i => (if i = r then 1 else 0) * (det n x * x i n)) (fun i hi => by
   rw [Sm_mul_right]
   have := hr r i hrn hi
   unfold mul at this
   rw [this]
   by_cases e : r = i
   ·rw [if_pos e, if_pos e.symm, Int.one_mul]
   ·rw [if_neg e, if_neg (fun z => e z.symm), Int.zero_mul, Int.zero_mul])]
  exact Sm_pick' n (fun i => det n x * x i n) hrn
 have h2 := det_foot n (setc x n (fun i => det n x * x i n + -1 * Sm n (fun k => w k * x i k))) s (fun i hi => by
  unfold setc
  rw [if_pos rfl]
  show det n x * x i n + -1 * Sm n (fun k => w k * x i k) = 0
  rw [hx i hi]
  omega) (by
  unfold setc
  rw [if_pos rfl, hs, Int.mul_comm (x n n)]
  show det n x * x n n + -1 * Sm n (fun k => w k * x n k) = _
  rw [Sm_congr (f := fun k => w k * x n k) (g := fun k => x n k * w k) (fun k _ => Int.mul_comm _ _)]
  omega)
 rw [← h1, h2, hs, hw, Int.mul_comm]
 congr 1
 refine det_congr n _ _ (fun i k _ hk => ?_)
 unfold setc
 rw [if_neg (by omega)]
/-- 1 - u a times its adjoint. -/
theorem xu_adj (n : Nat) (a : Nat → Nat → Int) (u : Int) (k j : Nat) (hk : k < n) (hj : j < n) : mul n (xu a u) (adj n (xu a u)) k j = if k = j then det n (xu a u) else 0 := by
 rw [← adj_mul n (xu a u) k j hk hj]
 have e1 : ∀ k j, k < n → j < n → mul n (xu a u) (adj n (xu a u)) k j = adj n (xu a u) k j + (-u) * mul n a (adj n (xu a u)) k j := by
  intro k j hk hj
  unfold mul
  rw [← Sm_mul_left]
  have : Sm n (fun i => xu a u k i * adj n (xu a u) i j) = Sm n (fun i => (if i = k then 1 else 0) * adj n (xu a u) i j + (-u) * (a k i * adj n (xu a u) i j)) := Sm_congr (fun i _ => by
   unfold xu idm ng
   generalize adj n _ i j = g
   rw [Int.add_mul]
   congr 1
   ·by_cases e : k = i
    ·rw [if_pos e, if_pos e.symm]
    ·rw [if_neg e, if_neg (fun z => e z.symm)]
   ·grind)
  rw [this, Sm_add, Sm_pick' n (fun i => adj n (xu a u) i j) hk]
 have e2 : ∀ k j, k < n → j < n → mul n (adj n (xu a u)) (xu a u) k j = adj n (xu a u) k j + (-u) * mul n (adj n (xu a u)) a k j := by
  intro k j hk hj
  unfold mul
  rw [← Sm_mul_left]
  have : Sm n (fun i => adj n (xu a u) k i * xu a u i j) = Sm n (fun i => (if i = j then 1 else 0) * adj n (xu a u) k i + (-u) * (adj n (xu a u) k i * a i j)) := Sm_congr (fun i _ => by
   unfold xu idm ng
   generalize adj n _ k i = g
   rw [Int.mul_add]
   congr 1
   ·exact Int.mul_comm _ _
   ·grind)
  rw [this, Sm_add, Sm_pick' n (fun i => adj n (xu a u) k i) hj]
 rw [e1 k j hk hj, e2 k j hk hj]
 congr 1
 congr 1
 have e3 : mul n a (adj n (xu a u)) k j = Sm (n + 1) (fun m => mul n a (nc n a m) k j * u ^ m) := by
  unfold mul
  rw [Sm_congr (g := fun i => Sm (n + 1) (fun m => a k i * nc n a m i j * u ^ m)) (fun i _ => by
   rw [adj_xu, ← Sm_mul_left]
   exact Sm_congr (fun m _ => (Int.mul_assoc _ _ _).symm)), Sm_swap]
  exact Sm_congr (fun m _ => Sm_mul_right n _ _)
 have e4 : mul n (adj n (xu a u)) a k j = Sm (n + 1) (fun m => mul n (nc n a m) a k j * u ^ m) := by
  unfold mul
  rw [Sm_congr (g := fun i => Sm (n + 1) (fun m => nc n a m k i * a i j * u ^ m)) (fun i _ => by
   rw [adj_xu, ← Sm_mul_right]
   exact Sm_congr (fun m _ => by rw [Int.mul_assoc, Int.mul_comm (u ^ m), ← Int.mul_assoc])), Sm_swap]
  exact Sm_congr (fun m _ => Sm_mul_right n _ _)
 rw [e3, e4]
 exact Sm_congr (fun m _ => by rw [nc_comm n a m k j hk hj])

theorem det_idm : ∀ n, det n idm = 1 := by
 intro n
 induction n with
 | zero => rfl
 | succ n ih =>
  rw [det_foot n idm 1 (fun i hi => if_neg (by omega)) (if_pos rfl), ih]
  rfl

theorem det_xu_ne (n : Nat) (a : Nat → Nat → Int) (u : Int) (hu : 2 ≤ u) : det n (xu a u) ≠ 0 := by
 intro h
 rw [det_xu, Sm_first, show ch n a 0 = 1 from (dc_zero n idm (ng a)).trans (det_idm n), Int.pow_zero] at h
 have e : Sm n (fun i => ch n a (i + 1) * u ^ (i + 1)) = u * Sm n (fun i => ch n a (i + 1) * u ^ i) := by
  rw [← Sm_mul_left]
  refine Sm_congr (fun i _ => ?_)
  rw [Int.pow_succ]
  grind
 rw [e] at h
 generalize Sm n _ = s at h
 have hd : u ∣ 1 := ⟨-s, by rw [Int.mul_neg]; omega⟩
 have := Int.le_of_dvd (by decide) hd
 omega

/-- The foot, the row and the column, for one number u. -/
theorem det_border (n : Nat) (a : Nat → Nat → Int) (u : Int) (hu : 2 ≤ u) : det (n + 1) (xu a u) = (1 - u * a n n) * det n (xu a u) - u * u * Sm n (fun k => a n k * Sm n (fun i => adj n (xu a u) k i * a i n)) := by
 have h := border n (xu a u) (fun r i hr hi => xu_adj n a u r i hr hi)
 have h1 := Int.eq_of_mul_eq_mul_left (det_xu_ne n a u hu) h
 rw [h1]
 have e1 : xu a u n n = 1 - u * a n n := by
  unfold xu idm ng
  rw [if_pos rfl, Int.mul_neg]
  omega
 have e2 : Sm n (fun k => xu a u n k * Sm n (fun i => adj n (xu a u) k i * xu a u i n)) = u * u * Sm n (fun k => a n k * Sm n (fun i => adj n (xu a u) k i * a i n)) := by
  rw [← Sm_mul_left]
  refine Sm_congr (fun k hk => ?_)
  have e3 : xu a u n k = -(u * a n k) := by
   unfold xu idm ng
   rw [if_neg (by omega), Int.mul_neg]
   omega
  have e4 : Sm n (fun i => adj n (xu a u) k i * xu a u i n) = -u * Sm n (fun i => adj n (xu a u) k i * a i n) := by
   rw [← Sm_mul_left]
   refine Sm_congr (fun i hi => ?_)
   unfold xu idm ng
   rw [if_neg (by omega)]
   generalize adj n _ k i = g
   grind
  rw [e3, e4]
  generalize Sm n _ = s
  grind
 rw [e1, e2]

/-- What the last row and column add to the coefficient m. -/
def bt (n : Nat) (a : Nat → Nat → Int) (m : Nat) : Int := Sm n (fun k => a n k * Sm n (fun i => nc n a m k i * a i n))

/-- One row and one column more, by coefficients. -/
theorem ch_border (n : Nat) (a : Nat → Nat → Int) (m : Nat) (hm : m < n + 3) : ch (n + 1) a m = ch n a m + (if m = 0 then 0 else -(a n n) * ch n a (m - 1)) + (if m < 2 then 0 else - bt n a (m - 2)) := by
 have key : ∀ u : Int, 2 ≤ u → Sm (n + 3) (fun m => (ch (n + 1) a m - (ch n a m + (if m = 0 then 0 else -(a n n) * ch n a (m - 1)) + (if m < 2 then 0 else - bt n a (m - 2)))) * u ^ m) = 0 := by
  intro u hu
  have h := det_border n a u hu
  rw [det_xu, det_xu] at h
  have e0 : Sm n (fun k => a n k * Sm n (fun i => adj n (xu a u) k i * a i n)) = Sm (n + 1) (fun m => bt n a m * u ^ m) := by
   unfold bt
   rw [Sm_congr (g := fun k => Sm (n + 1) (fun m => a n k * Sm n (fun i => nc n a m k i * a i n) * u ^ m)) (fun k _ => by
    rw [Sm_congr (g := fun i => Sm (n + 1) (fun m => nc n a m k i * a i n * u ^ m)) (fun i _ => by
     rw [adj_xu, ← Sm_mul_right]
     exact Sm_congr (fun m _ => by rw [Int.mul_assoc, Int.mul_comm (u ^ m), ← Int.mul_assoc])), Sm_swap, ← Sm_mul_left]
    refine Sm_congr (fun m _ => ?_)
    rw [Sm_mul_right, Int.mul_assoc]), Sm_swap]
   exact Sm_congr (fun m _ => Sm_mul_right n _ _)
  have e1 : Sm (n + 1 + 1) (fun m => ch (n + 1) a m * u ^ m) = Sm (n + 3) (fun m => ch (n + 1) a m * u ^ m) := (Sm_more _ (by omega) (fun i hi => by rw [show ch (n + 1) a i = 0 from dc_high _ _ _ (by omega), Int.zero_mul])).symm
  have e2 : Sm (n + 1) (fun m => ch n a m * u ^ m) = Sm (n + 3) (fun m => ch n a m * u ^ m) := (Sm_more _ (by omega) (fun i hi => by rw [show ch n a i = 0 from dc_high _ _ _ (by omega), Int.zero_mul])).symm
  have e3 : u * Sm (n + 1) (fun m => ch n a m * u ^ m) = Sm (n + 3) (fun m => (if m = 0 then 0 else ch n a (m - 1)) * u ^ m) := by
   rw [← Sm_more (d := n + 1) (e := n + 2) (fun m => ch n a m * u ^ m) (by omega) (fun i hi => by rw [show ch n a i = 0 from dc_high _ _ _ (by omega), Int.zero_mul]), ← Sm_mul_left, ← Sm_shift]
   refine Sm_congr (fun m _ => ?_)
   by_cases e : m = 0
   ·rw [if_pos e, if_pos e, Int.zero_mul]
   ·rw [if_neg e, if_neg e]
    obtain ⟨q, rfl⟩ : ∃ q, m = q + 1 := ⟨m - 1, by omega⟩
    rw [Nat.add_sub_cancel, Int.pow_succ]
    grind
  have e4 : u * u * Sm (n + 1) (fun m => bt n a m * u ^ m) = Sm (n + 3) (fun m => (if m < 2 then 0 else bt n a (m - 2)) * u ^ m) := by
   have s2 : Sm (n + 3) (fun m => (if m < 2 then 0 else bt n a (m - 2)) * u ^ m) = Sm (n + 1) (fun m => bt n a m * u ^ (m + 2)) := by
    rw [Sm_first, Sm_first]
    rw [if_pos (by omega), if_pos (by omega), Int.zero_mul, Int.zero_mul, Int.zero_add, Int.zero_add]
    exact Sm_congr (fun m _ => by rw [if_neg (by omega)]; rfl)
   rw [s2, ← Sm_mul_left]
   refine Sm_congr (fun m _ => ?_)
   rw [Int.pow_succ, Int.pow_succ]
   grind
  rw [e0, e1] at h
  have e5 : Sm (n + 3) (fun m => (ch (n + 1) a m - (ch n a m + (if m = 0 then 0 else -(a n n) * ch n a (m - 1)) + (if m < 2 then 0 else - bt n a (m - 2)))) * u ^ m) = Sm (n + 3) (fun m => ch (n + 1) a m * u ^ m) + ((-1) * Sm (n + 3) (fun m => ch n a m * u ^ m) + (a n n * Sm (n + 3) (fun m => (if m = 0 then 0 else ch n a (m - 1)) * u ^ m) + Sm (n + 3) (fun m => (if m < 2 then 0 else bt n a (m - 2)) * u ^ m))) := by
   rw [← Sm_mul_left, ← Sm_mul_left, ← Sm_add, ← Sm_add, ← Sm_add]
   refine Sm_congr (fun m _ => ?_)
   by_cases c0 : m = 0
   ·rw [if_pos c0, if_pos c0, if_pos (by omega), if_pos (by omega)]
    grind
   ·rw [if_neg c0, if_neg c0]
    by_cases c2 : m < 2
    ·rw [if_pos c2, if_pos c2]
     grind
    ·rw [if_neg c2, if_neg c2]
     grind
  rw [e5, ← e3, ← e4, h, ← e2]
  generalize Sm (n + 1) (fun m => ch n a m * u ^ m) = s1
  generalize Sm (n + 1) (fun m => bt n a m * u ^ m) = s2
  grind
 have := coef_zero2 (n + 3) _ (fun u hu => key u hu) m hm
 omega
/-- a to the power p. -/
def mp (n : Nat) (a : Nat → Nat → Int) : Nat → Nat → Nat → Int
 | 0 => idm
 | p + 1 => mul n (mp n a p) a

theorem nc_pow (n : Nat) (a : Nat → Nat → Int) : ∀ (m k j : Nat), k < n → j < n → nc n a m k j = Sm (m + 1) (fun t => ch n a t * mp n a (m - t) k j) := by
 intro m
 induction m with
 | zero =>
  intro k j hk hj
  rw [nc_step n a 0 k j hk hj, if_pos rfl, Int.zero_add]
  show _ = 0 + ch n a 0 * idm k j
  unfold idm
  split
  ·omega
  ·omega
 | succ m ih =>
  intro k j hk hj
  rw [nc_step n a (m + 1) k j hk hj, if_neg (by omega), Nat.add_sub_cancel]
  show _ = Sm (m + 1) (fun t => ch n a t * mp n a (m + 1 - t) k j) + ch n a (m + 1) * mp n a (m + 1 - (m + 1)) k j
  rw [Nat.sub_self]
  congr 1
  ·rw [Sm_congr (g := fun i => Sm (m + 1) (fun t => ch n a t * mp n a (m - t) k i * a i j)) (fun i hi => by
    rw [ih k i hk hi, ← Sm_mul_right]), Sm_swap]
   refine Sm_congr (fun t ht => ?_)
   rw [show m + 1 - t = (m - t) + 1 by omega]
   show _ = ch n a t * Sm n (fun i => mp n a (m - t) k i * a i j)
   rw [← Sm_mul_left]
   exact Sm_congr (fun i _ => Int.mul_assoc _ _ _)
  ·show _ = ch n a (m + 1) * idm k j
   unfold idm
   split
   ·omega
   ·omega
/-- The matrix's powers at a column. -/
def cg (r : Nat) (a : Nat → Nat → Int) (v : Nat → Int) : Nat → Nat → Int
 | 0 => v
 | p + 1 => fun i => Sm r (fun q => a i q * cg r a v p q)

theorem cg_first (r : Nat) (a : Nat → Nat → Int) : ∀ (p : Nat) (v : Nat → Int), cg r a (fun i => Sm r (fun q => a i q * v q)) p = cg r a v (p + 1) := by
 intro p
 induction p with
 | zero => intro v; rfl
 | succ p ih =>
  intro v
  funext i
  show Sm r (fun q => a i q * cg r a (fun i => Sm r (fun q => a i q * v q)) p q) = Sm r (fun q => a i q * cg r a v (p + 1) q)
  rw [ih v]

theorem cg_pow (r : Nat) (a : Nat → Nat → Int) : ∀ (p : Nat) (v : Nat → Int) (i : Nat), i < r → Sm r (fun q => mp r a p i q * v q) = cg r a v p i := by
 intro p
 induction p with
 | zero =>
  intro v i hi
  show Sm r (fun q => idm i q * v q) = v i
  rw [Sm_congr (g := fun q => (if q = i then 1 else 0) * v q) (fun q _ => ?_)]
  ·exact Sm_pick' r v hi
  ·unfold idm
   by_cases c : i = q
   ·rw [if_pos c, if_pos c.symm]
   ·rw [if_neg c, if_neg (fun z => c z.symm)]
 | succ p ih =>
  intro v i hi
  rw [← cg_first, ← ih _ i hi]
  show Sm r (fun q => Sm r (fun k => mp r a p i k * a k q) * v q) = _
  rw [Sm_congr (g := fun q => Sm r (fun k => mp r a p i k * (a k q * v q))) (fun q _ => by
   rw [← Sm_mul_right]
   exact Sm_congr (fun k _ => Int.mul_assoc _ _ _)), Sm_swap]
  exact Sm_congr (fun k _ => Sm_mul_left r _ _)

/-- The row, a power, and the column. -/
def rp (r : Nat) (a : Nat → Nat → Int) (p : Nat) : Int := Sm r (fun q => a r q * cg r a (fun i => a i r) p q)

/-- The numbers by which those of r rows are multiplied. -/
def tu (r : Nat) (a : Nat → Nat → Int) : Nat → Int
 | 0 => 1
 | 1 => -(a r r)
 | p + 2 => -rp r a p

theorem bt_rp (r : Nat) (a : Nat → Nat → Int) (m : Nat) : bt r a m = Sm (m + 1) (fun t => ch r a t * rp r a (m - t)) := by
 unfold bt
 rw [Sm_congr (g := fun k => Sm (m + 1) (fun t => ch r a t * (a r k * cg r a (fun i => a i r) (m - t) k))) (fun k hk => ?_), Sm_swap]
 ·exact Sm_congr (fun t _ => Sm_mul_left r _ _)
 ·rw [Sm_congr (g := fun i => Sm (m + 1) (fun t => ch r a t * (mp r a (m - t) k i * a i r))) (fun i hi => by
   rw [nc_pow r a m k i hk hi, ← Sm_mul_right]
   exact Sm_congr (fun t _ => Int.mul_assoc _ _ _)), Sm_swap, ← Sm_mul_left]
  refine Sm_congr (fun t _ => ?_)
  rw [Sm_mul_left, cg_pow r a (m - t) (fun i => a i r) k hk]
  exact Int.mul_left_comm _ _ _

theorem toep (r : Nat) (a : Nat → Nat → Int) (i : Nat) (hi : i < r + 3) : Sm (i + 1) (fun t => tu r a (i - t) * ch r a t) = ch (r + 1) a i := by
 rw [ch_border r a i hi]
 match i with
 | 0 =>
  show 0 + 1 * ch r a 0 = ch r a 0 + 0 + 0
  omega
 | 1 =>
  show 0 + -(a r r) * ch r a 0 + 1 * ch r a 1 = ch r a 1 + -(a r r) * ch r a 0 + 0
  omega
 | m + 2 =>
  rw [if_neg (by omega), if_neg (by omega), show m + 2 - 1 = m + 1 from rfl, Nat.add_sub_cancel, bt_rp]
  show Sm (m + 1) (fun t => tu r a (m + 2 - t) * ch r a t) + tu r a (m + 2 - (m + 1)) * ch r a (m + 1) + tu r a (m + 2 - (m + 2)) * ch r a (m + 2) = _
  rw [show m + 2 - (m + 1) = 1 by omega, show m + 2 - (m + 2) = 0 by omega]
  have e : Sm (m + 1) (fun t => tu r a (m + 2 - t) * ch r a t) = (-1) * Sm (m + 1) (fun t => ch r a t * rp r a (m - t)) := by
   rw [← Sm_mul_left]
   refine Sm_congr (fun t ht => ?_)
   rw [show m + 2 - t = (m - t) + 2 by omega]
   show -rp r a (m - t) * ch r a t = _
   grind
  rw [e]
  show _ + -(a r r) * ch r a (m + 1) + 1 * ch r a (m + 2) = _
  omega

theorem toep_cut (r : Nat) (a : Nat → Nat → Int) (i : Nat) (hi : i < r + 2) : Sm (if i + 1 ≤ r + 1 then i + 1 else r + 1) (fun t => tu r a (i - t) * ch r a t) = ch (r + 1) a i := by
 rw [← toep r a i (by omega)]
 by_cases c : i + 1 ≤ r + 1
 ·rw [if_pos c]
 ·rw [if_neg c]
  obtain rfl : i = r + 1 := by omega
  show _ = Sm (r + 1) (fun t => tu r a (r + 1 - t) * ch r a t) + tu r a (r + 1 - (r + 1)) * ch r a (r + 1)
  rw [show ch r a (r + 1) = 0 from dc_high _ _ _ (Nat.le_refl _), Int.mul_zero, Int.add_zero]
/-- The wrapped coefficients, k of them. -/
def chL (n : Nat) (a : Nat → Nat → Int) (k : Nat) : List Int := rowOf k (fun m => wrap64 (ch n a m))

theorem rowOf_snoc (k : Nat) (f : Nat → Int) : rowOf k f ++ [f k] = rowOf (k + 1) f := (map_range_succ f k).symm

section
variable (n : Nat) (hn : n ≤ 1000) (a : List (List Int)) (ha : Sq n a) (hw : ∀ i j, i < n → j < n → wrap64 (mat a i j) = mat a i j)

/-- The column behind p steps, wrapped. -/
def colW (r p : Nat) (k : Nat) : List Int := rowOf k (fun i => wrap64 (cg r (mat a) (fun i => mat a i r) p i))

def tuW (r k : Nat) : List Int := rowOf k (fun p => wrap64 (tu r (mat a) p))

include hn ha hw

theorem bkColumn (r : Nat) (hr : r < n) (x3 : List Int) (x5 : List Int) (res : List Int) (h : Ev (fun f => spec_l01Berkowitz.l2 f a x3 (r : Int) x5 (colW a r 0 r) 0) res) :
  ∀ (d i : Nat), i + d = r → Ev (fun f => spec_l01Berkowitz.l1 f a x3 (r : Int) x5 (colW a r 0 i) (i : Int)) res := by
 have hal := ha.1
 intro d
 induction d with
 | zero =>
  intro i hi
  obtain rfl : i = r := by omega
  refine Ev.succ ?_; simp only [spec_l01Berkowitz.l1]
  repeat (first | with_reducible exact Ev.now _ | dsimp only | refine Ev.pos (by first | omega | rfl | assumption | decide) ?_ | refine Ev.neg (by first | omega | assumption | exact Bool.false_ne_true | exact fun e => absurd e (by decide)) ?_ | simp only [bne_self_eq_false, Bool.not_true, Bool.not_false, List.length_cons, List.length_nil] | rw [wrap_id (by omega) (by omega)] | ((with_reducible refine Ev.eq (congrArg some ?_)); rfl))
  exact h
 | succ d ih =>
  intro i hi
  have h1 := ih (i + 1) (by omega)
  have hrow := ha.2 i (by omega)
  have hlen : (colW a r 0 i).length = i := rowOf_length _ _
  have e : colW a r 0 i ++ [rd (rd_L2 a (i : Int)) (r : Int)] = colW a r 0 (i + 1) := by
   rw [show rd (rd_L2 a (i : Int)) (r : Int) = mat a i r from rfl, ← hw i r (by omega) hr]
   exact rowOf_snoc i _
  refine Ev.succ ?_; simp only [spec_l01Berkowitz.l1]
  rw [e, wrap_succ (i := i) (by omega)]
  repeat (first | with_reducible exact Ev.now _ | dsimp only | refine Ev.pos (by first | omega | rfl | assumption | decide) ?_ | refine Ev.neg (by first | omega | assumption | exact Bool.false_ne_true | exact fun e => absurd e (by decide)) ?_ | simp only [bne_self_eq_false, Bool.not_true, Bool.not_false, List.length_cons, List.length_nil] | rw [wrap_id (by omega) (by omega)] | ((with_reducible refine Ev.eq (congrArg some ?_)); rfl))
  exact h1

omit hw in
/-- The sum of one place of the next column. -/
theorem bkCell (r k i : Nat) (hr : r < n) (hi : i < r) (x3 x5 x10 : List Int) (x9 : Int) (hx : x10.length ≤ 1000) (res : List Int) (h : Ev (fun f => spec_l01Berkowitz.l3 f a x3 (r : Int) x5 (colW a r k r) (k : Int) x9 (x10 ++ [wrap64 (cg r (mat a) (fun i => mat a i r) (k + 1) i)]) ((i + 1 : Nat) : Int)) res) :
  ∀ (d j : Nat), j + d = r → Ev (fun f => spec_l01Berkowitz.l4 f a x3 (r : Int) x5 (colW a r k r) (k : Int) x9 x10 (i : Int) (wrap64 (Sm j (fun q => mat a i q * cg r (mat a) (fun i => mat a i r) k q))) (j : Int)) res := by
 have hal := ha.1
 have hrow := ha.2 i (by omega)
 have hlen : (colW a r k r).length = r := rowOf_length _ _
 intro d
 induction d with
 | zero =>
  intro j hj
  obtain rfl : j = r := by omega
  refine Ev.succ ?_; simp only [spec_l01Berkowitz.l4]
  rw [wrap_succ (i := i) (by omega)]
  repeat (first | with_reducible exact Ev.now _ | dsimp only | refine Ev.pos (by first | omega | rfl | assumption | decide) ?_ | refine Ev.neg (by first | omega | assumption | exact Bool.false_ne_true | exact fun e => absurd e (by decide)) ?_ | simp only [bne_self_eq_false, Bool.not_true, Bool.not_false, List.length_cons, List.length_nil] | rw [wrap_id (by omega) (by omega)] | ((with_reducible refine Ev.eq (congrArg some ?_)); rfl))
  exact h
 | succ d ih =>
  intro j hj
  have h1 := ih (j + 1) (by omega)
  have e : wrap64 (wrap64 (Sm j (fun q => mat a i q * cg r (mat a) (fun i => mat a i r) k q)) + wrap64 (rd (rd_L2 a (i : Int)) (j : Int) * rd (colW a r k r) (j : Int))) = wrap64 (Sm (j + 1) (fun q => mat a i q * cg r (mat a) (fun i => mat a i r) k q)) := by
   unfold colW
   rw [rowOf_rd _ (by omega), show rd (rd_L2 a (i : Int)) (j : Int) = mat a i j from rfl, wrap_mul_right, wrap_add_wrap]
   rfl
  refine Ev.succ ?_; simp only [spec_l01Berkowitz.l4]
  rw [e, wrap_succ (i := j) (by omega)]
  repeat (first | with_reducible exact Ev.now _ | dsimp only | refine Ev.pos (by first | omega | rfl | assumption | decide) ?_ | refine Ev.neg (by first | omega | assumption | exact Bool.false_ne_true | exact fun e => absurd e (by decide)) ?_ | simp only [bne_self_eq_false, Bool.not_true, Bool.not_false, List.length_cons, List.length_nil] | rw [wrap_id (by omega) (by omega)] | ((with_reducible refine Ev.eq (congrArg some ?_)); rfl))
  exact h1

omit hw in
/-- One more number, and the next column. -/
theorem bkNext (r k : Nat) (hr : r < n) (hk : k < r) (x3 : List Int) (res : List Int) (h : Ev (fun f => spec_l01Berkowitz.l2 f a x3 (r : Int) (tuW a r (k + 3)) (colW a r (k + 1) r) ((k + 1 : Nat) : Int)) res) :
  ∀ (d i : Nat), i + d = r → Ev (fun f => spec_l01Berkowitz.l3 f a x3 (r : Int) (tuW a r (k + 2)) (colW a r k r) (k : Int) (wrap64 (Sm i (fun q => mat a r q * cg r (mat a) (fun i => mat a i r) k q))) (colW a r (k + 1) i) (i : Int)) res := by
 have hal := ha.1
 have hrow := ha.2 r (by omega)
 have hlen : (colW a r k r).length = r := rowOf_length _ _
 intro d
 induction d with
 | zero =>
  intro i hi
  obtain rfl : i = r := by omega
  have hl2 : (tuW a i (k + 2)).length = k + 2 := rowOf_length _ _
  have e : tuW a i (k + 2) ++ [wrap64 (-wrap64 (Sm i (fun q => mat a i q * cg i (mat a) (fun j => mat a j i) k q)))] = tuW a i (k + 3) := by
   rw [wrap_neg]
   exact rowOf_snoc (k + 2) (fun p => wrap64 (tu i (mat a) p))
  refine Ev.succ ?_; simp only [spec_l01Berkowitz.l3]
  rw [e, wrap_succ (i := k) (by omega)]
  repeat (first | with_reducible exact Ev.now _ | dsimp only | refine Ev.pos (by first | omega | rfl | assumption | decide) ?_ | refine Ev.neg (by first | omega | assumption | exact Bool.false_ne_true | exact fun e => absurd e (by decide)) ?_ | simp only [bne_self_eq_false, Bool.not_true, Bool.not_false, List.length_cons, List.length_nil] | rw [wrap_id (by omega) (by omega)] | ((with_reducible refine Ev.eq (congrArg some ?_)); rfl))
  exact h
 | succ d ih =>
  intro i hi
  have h1 := ih (i + 1) (by omega)
  have hl3 : (colW a r (k + 1) i).length = i := rowOf_length _ _
  have e : wrap64 (wrap64 (Sm i (fun q => mat a r q * cg r (mat a) (fun i => mat a i r) k q)) + wrap64 (rd (rd_L2 a (r : Int)) (i : Int) * rd (colW a r k r) (i : Int))) = wrap64 (Sm (i + 1) (fun q => mat a r q * cg r (mat a) (fun i => mat a i r) k q)) := by
   unfold colW
   rw [rowOf_rd _ (by omega), show rd (rd_L2 a (r : Int)) (i : Int) = mat a r i from rfl, wrap_mul_right, wrap_add_wrap]
   rfl
  have e2 : colW a r (k + 1) i ++ [wrap64 (cg r (mat a) (fun i => mat a i r) (k + 1) i)] = colW a r (k + 1) (i + 1) := rowOf_snoc i _
  rw [← e2, ← e] at h1
  have h2 := bkCell n hn a ha r k i hr (by omega) x3 (tuW a r (k + 2)) (colW a r (k + 1) i) _ (by omega) res h1 r 0 (by omega)
  rw [show wrap64 (Sm 0 (fun q => mat a i q * cg r (mat a) (fun i => mat a i r) k q)) = 0 from wrap_id (x := 0) (by decide) (by decide)] at h2
  refine Ev.succ ?_; simp only [spec_l01Berkowitz.l3]
  repeat (first | with_reducible exact Ev.now _ | dsimp only | refine Ev.pos (by first | omega | rfl | assumption | decide) ?_ | refine Ev.neg (by first | omega | assumption | exact Bool.false_ne_true | exact fun e => absurd e (by decide)) ?_ | simp only [bne_self_eq_false, Bool.not_true, Bool.not_false, List.length_cons, List.length_nil] | rw [wrap_id (by omega) (by omega)] | ((with_reducible refine Ev.eq (congrArg some ?_)); rfl))
  exact h2

omit hw in
/-- All numbers. -/
theorem bkTurn (r : Nat) (hr : r < n) (x3 : List Int) (res : List Int) (h : Ev (fun f => spec_l01Berkowitz.l5 f a x3 (r : Int) (tuW a r (r + 2)) (List.replicate (r + 2) 0) 0) res) :
  ∀ (d k : Nat), k + d = r → Ev (fun f => spec_l01Berkowitz.l2 f a x3 (r : Int) (tuW a r (k + 2)) (colW a r k r) (k : Int)) res := by
 intro d
 induction d with
 | zero =>
  intro k hk
  obtain rfl : k = r := by omega
  refine Ev.succ ?_; simp only [spec_l01Berkowitz.l2]
  rw [wrap_id (x := (k : Int) + 2) (by omega) (by omega), show ((k : Int) + 2).toNat = k + 2 by omega]
  repeat (first | with_reducible exact Ev.now _ | dsimp only | refine Ev.pos (by first | omega | rfl | assumption | decide) ?_ | refine Ev.neg (by first | omega | assumption | exact Bool.false_ne_true | exact fun e => absurd e (by decide)) ?_ | simp only [bne_self_eq_false, Bool.not_true, Bool.not_false, List.length_cons, List.length_nil] | rw [wrap_id (by omega) (by omega)] | ((with_reducible refine Ev.eq (congrArg some ?_)); rfl))
  exact h
 | succ d ih =>
  intro k hk
  have h1 := ih (k + 1) (by omega)
  have h2 := bkNext n hn a ha r k hr (by omega) x3 res h1 r 0 (by omega)
  rw [show wrap64 (Sm 0 (fun q => mat a r q * cg r (mat a) (fun i => mat a i r) k q)) = 0 from wrap_id (x := 0) (by decide) (by decide)] at h2
  refine Ev.succ ?_; simp only [spec_l01Berkowitz.l2]
  repeat (first | with_reducible exact Ev.now _ | dsimp only | refine Ev.pos (by first | omega | rfl | assumption | decide) ?_ | refine Ev.neg (by first | omega | assumption | exact Bool.false_ne_true | exact fun e => absurd e (by decide)) ?_ | simp only [bne_self_eq_false, Bool.not_true, Bool.not_false, List.length_cons, List.length_nil] | rw [wrap_id (by omega) (by omega)] | ((with_reducible refine Ev.eq (congrArg some ?_)); rfl))
  exact h2

/-- The made numbers while those before i are told, and at i the products before j. -/
def madeW (r i j : Nat) : List Int := rowOf (r + 2) (fun q => if q < i then wrap64 (ch (r + 1) (mat a) q) else if q = i then wrap64 (Sm j (fun t => tu r (mat a) (i - t) * ch r (mat a) t)) else 0)

omit hn ha hw in
theorem madeW_zero (r : Nat) : madeW a r 0 0 = List.replicate (r + 2) 0 := by
 rw [← rowOf_zero]
 refine rowOf_congr (fun q hq => ?_)
 rw [if_neg (by omega)]
 split
 ·exact wrap_id (x := 0) (by decide) (by decide)
 ·rfl

omit hn ha hw in
theorem madeW_next (r i : Nat) (hi : i < r + 2) : madeW a r i (if i + 1 ≤ r + 1 then i + 1 else r + 1) = madeW a r (i + 1) 0 := by
 refine rowOf_congr (fun q hq => ?_)
 by_cases c : q < i
 ·rw [if_pos c, if_pos (by omega)]
 ·by_cases e : q = i
  ·rw [if_neg c, if_pos e, toep_cut r (mat a) i hi, if_pos (show q < i + 1 by omega), e]
  ·rw [if_neg c, if_neg e, if_neg (by omega)]
   by_cases e2 : q = i + 1
   ·rw [if_pos e2]
    exact (wrap_id (x := 0) (by decide) (by decide)).symm
   ·rw [if_neg e2]

omit hn ha hw in
theorem madeW_set (r i j : Nat) (hi : i < r + 2) : (madeW a r i j).set i (wrap64 (rd (madeW a r i j) (i : Int) + wrap64 (wrap64 (tu r (mat a) (i - j)) * wrap64 (ch r (mat a) j)))) = madeW a r i (j + 1) := by
 unfold madeW
 rw [rowOf_rd _ hi, if_neg (by omega), if_pos rfl, wrap_mul_wrap, wrap_add_wrap, rowOf_set _ _ hi]
 refine rowOf_congr (fun q hq => ?_)
 by_cases e : q = i
 ·rw [if_pos e, if_neg (by omega), if_pos e]
  rfl
 ·rw [if_neg e]
  by_cases c : q < i
  ·rw [if_pos c, if_pos c]
  ·rw [if_neg c, if_neg c, if_neg e, if_neg e]

omit ha hw in
/-- One number of those of one row more. -/
theorem bkMade (r i : Nat) (hr : r < n) (hi : i < r + 2) (res : List Int) (h : Ev (fun f => spec_l01Berkowitz.l5 f a (chL r (mat a) (r + 1)) (r : Int) (tuW a r (r + 2)) (madeW a r (i + 1) 0) ((i + 1 : Nat) : Int)) res) :
  ∀ (d j : Nat), j + d = (if i + 1 ≤ r + 1 then i + 1 else r + 1) → Ev (fun f => spec_l01Berkowitz.l6 f a (chL r (mat a) (r + 1)) (r : Int) (tuW a r (r + 2)) (madeW a r i j) (i : Int) (j : Int)) res := by
 have hl3 : (chL r (mat a) (r + 1)).length = r + 1 := rowOf_length _ _
 have hl5 : (tuW a r (r + 2)).length = r + 2 := rowOf_length _ _
 intro d
 induction d with
 | zero =>
  intro j hj
  rw [← madeW_next a r i hi] at h
  have e : j = (if i + 1 ≤ r + 1 then i + 1 else r + 1) := by omega
  rw [← e] at h
  refine Ev.succ ?_; simp only [spec_l01Berkowitz.l6]
  rw [wrap_succ (i := i) (by omega)]
  by_cases c : (j : Int) < ((r + 1 : Nat) : Int)
  ·have c2 : ¬ (j : Int) ≤ (i : Int) := by
    split at e <;> omega
   repeat (first | with_reducible exact Ev.now _ | dsimp only | refine Ev.pos (by first | omega | rfl | assumption | decide) ?_ | refine Ev.neg (by first | omega | assumption | exact Bool.false_ne_true | exact fun e => absurd e (by decide)) ?_ | simp only [bne_self_eq_false, Bool.not_true, Bool.not_false, List.length_cons, List.length_nil] | rw [wrap_id (by omega) (by omega)] | ((with_reducible refine Ev.eq (congrArg some ?_)); rfl))
   exact h
  ·repeat (first | with_reducible exact Ev.now _ | dsimp only | refine Ev.pos (by first | omega | rfl | assumption | decide) ?_ | refine Ev.neg (by first | omega | assumption | exact Bool.false_ne_true | exact fun e => absurd e (by decide)) ?_ | simp only [bne_self_eq_false, Bool.not_true, Bool.not_false, List.length_cons, List.length_nil] | rw [wrap_id (by omega) (by omega)] | ((with_reducible refine Ev.eq (congrArg some ?_)); rfl))
   exact h
 | succ d ih =>
  intro j hj
  have h1 := ih (j + 1) (by omega)
  have hj1 : j < r + 1 ∧ j ≤ i := by split at hj <;> omega
  have hl14 : (madeW a r i j).length = r + 2 := rowOf_length _ _
  have e1 : rd (tuW a r (r + 2)) (((i - j : Nat)) : Int) = wrap64 (tu r (mat a) (i - j)) := rowOf_rd _ (by omega)
  have e2 : rd (chL r (mat a) (r + 1)) (j : Int) = wrap64 (ch r (mat a) j) := rowOf_rd _ (by omega)
  rw [← madeW_set a r i j hi] at h1
  refine Ev.succ ?_; simp only [spec_l01Berkowitz.l6]
  rw [wrap_id (x := (i : Int) - j) (by omega) (by omega), show (i : Int) - j = ((i - j : Nat) : Int) by omega, e1, e2, wrap_succ (i := j) (by omega), Int.toNat_natCast]
  repeat (first | with_reducible exact Ev.now _ | dsimp only | refine Ev.pos (by first | omega | rfl | assumption | decide) ?_ | refine Ev.neg (by first | omega | assumption | exact Bool.false_ne_true | exact fun e => absurd e (by decide)) ?_ | simp only [bne_self_eq_false, Bool.not_true, Bool.not_false, List.length_cons, List.length_nil] | rw [wrap_id (by omega) (by omega)] | ((with_reducible refine Ev.eq (congrArg some ?_)); rfl))
  exact h1

omit ha hw in
theorem bkRows (r : Nat) (hr : r < n) (res : List Int) (h : Ev (fun f => spec_l01Berkowitz.l0 f a (chL (r + 1) (mat a) (r + 2)) ((r + 1 : Nat) : Int)) res) :
  ∀ (d i : Nat), i + d = r + 2 → Ev (fun f => spec_l01Berkowitz.l5 f a (chL r (mat a) (r + 1)) (r : Int) (tuW a r (r + 2)) (madeW a r i 0) (i : Int)) res := by
 intro d
 induction d with
 | zero =>
  intro i hi
  obtain rfl : i = r + 2 := by omega
  have e : madeW a r (r + 2) 0 = chL (r + 1) (mat a) (r + 2) := rowOf_congr (fun q hq => if_pos hq)
  have hl : (chL (r + 1) (mat a) (r + 2)).length = r + 2 := rowOf_length _ _
  rw [e]
  refine Ev.succ ?_; simp only [spec_l01Berkowitz.l5]
  rw [wrap_succ (i := r) (by omega)]
  repeat (first | with_reducible exact Ev.now _ | dsimp only | refine Ev.pos (by first | omega | rfl | assumption | decide) ?_ | refine Ev.neg (by first | omega | assumption | exact Bool.false_ne_true | exact fun e => absurd e (by decide)) ?_ | simp only [bne_self_eq_false, Bool.not_true, Bool.not_false, List.length_cons, List.length_nil] | rw [wrap_id (by omega) (by omega)] | ((with_reducible refine Ev.eq (congrArg some ?_)); rfl))
  exact h
 | succ d ih =>
  intro i hi
  have h1 := ih (i + 1) (by omega)
  have hl : (madeW a r i 0).length = r + 2 := rowOf_length _ _
  have h2 := bkMade n hn a r i hr (by omega) res h1 _ 0 (Nat.zero_add _)
  refine Ev.succ ?_; simp only [spec_l01Berkowitz.l5]
  repeat (first | with_reducible exact Ev.now _ | dsimp only | refine Ev.pos (by first | omega | rfl | assumption | decide) ?_ | refine Ev.neg (by first | omega | assumption | exact Bool.false_ne_true | exact fun e => absurd e (by decide)) ?_ | simp only [bne_self_eq_false, Bool.not_true, Bool.not_false, List.length_cons, List.length_nil] | rw [wrap_id (by omega) (by omega)] | ((with_reducible refine Ev.eq (congrArg some ?_)); rfl))
  exact h2

theorem bkAll : ∀ (d r : Nat), r + d = n → Ev (fun f => spec_l01Berkowitz.l0 f a (chL r (mat a) (r + 1)) (r : Int)) (trimN (chL n (mat a) (n + 1)) (n + 1)) := by
 have hal := ha.1
 intro d
 induction d with
 | zero =>
  intro r hr
  obtain rfl : r = n := by omega
  have hl : (chL r (mat a) (r + 1)).length = r + 1 := rowOf_length _ _
  have h1 := specTrim (chL r (mat a) (r + 1)) (by omega)
  rw [hl] at h1
  refine Ev.succ ?_; simp only [spec_l01Berkowitz.l0]
  repeat (first | with_reducible exact Ev.now _ | dsimp only | with_reducible refine Ev.bind (h1) ?_ | refine Ev.pos (by first | omega | rfl | assumption | decide) ?_ | refine Ev.neg (by first | omega | assumption | exact Bool.false_ne_true | exact fun e => absurd e (by decide)) ?_ | simp only [bne_self_eq_false, Bool.not_true, Bool.not_false, List.length_cons, List.length_nil] | rw [wrap_id (by omega) (by omega)] | with_reducible exact (h1) | ((with_reducible refine Ev.eq (congrArg some ?_)); rfl))
 | succ d ih =>
  intro r hr
  have h1 := ih (r + 1) (by omega)
  have hrow := ha.2 r (by omega)
  have h2 := bkRows n hn a r (by omega) _ h1 (r + 2) 0 (by omega)
  rw [madeW_zero] at h2
  have h3 := bkTurn n hn a ha r (by omega) _ _ h2 r 0 (by omega)
  have h4 := bkColumn n hn a ha hw r (by omega) _ _ _ h3 r 0 (by omega)
  have e1 : tuW a r (0 + 2) = [1, wrap64 (-(rd (rd_L2 a (r : Int)) (r : Int)))] := by
   show [wrap64 1, wrap64 (-(mat a r r))] = _
   rw [show wrap64 1 = 1 from wrap_id (by decide) (by decide)]
   rfl
  have e2 : colW a r 0 0 = [] := rfl
  rw [e1, e2] at h4
  refine Ev.succ ?_; simp only [spec_l01Berkowitz.l0]
  repeat (first | with_reducible exact Ev.now _ | dsimp only | refine Ev.pos (by first | omega | rfl | assumption | decide) ?_ | refine Ev.neg (by first | omega | assumption | exact Bool.false_ne_true | exact fun e => absurd e (by decide)) ?_ | simp only [bne_self_eq_false, Bool.not_true, Bool.not_false, List.length_cons, List.length_nil] | rw [wrap_id (by omega) (by omega)] | ((with_reducible refine Ev.eq (congrArg some ?_)); rfl))
  exact h4

theorem berkowitz : Ev (fun f => spec_l01Berkowitz.f f a) (trimN (chL n (mat a) (n + 1)) (n + 1)) := by
 have h := bkAll n hn a ha hw n 0 (by omega)
 have e : chL 0 (mat a) (0 + 1) = [1] := by
  show [wrap64 1] = [1]
  rw [wrap_id (by decide) (by decide)]
 unfold spec_l01Berkowitz.f
 rw [e] at h
 exact h

end
/-- The product of two series. -/
def cw (f g : Nat → Int) (n : Nat) : Int := Sm (n + 1) (fun i => f i * g (n - i))

theorem Sm_rev : ∀ (n : Nat) (f : Nat → Int), Sm (n + 1) f = Sm (n + 1) (fun i => f (n - i)) := by
 intro n
 induction n with
 | zero => intro f; rfl
 | succ n ih =>
  intro f
  rw [Sm_first (n + 1) (fun i => f (n + 1 - i))]
  show Sm (n + 1) f + f (n + 1) = f (n + 1 - 0) + Sm (n + 1) (fun i => f (n + 1 - (i + 1)))
  rw [ih f, Int.add_comm]
  congr 1
  exact Sm_congr (fun i _ => by rw [Nat.add_sub_add_right])

theorem cw_comm (f g : Nat → Int) (n : Nat) : cw f g n = cw g f n := by
 unfold cw
 rw [Sm_rev]
 refine Sm_congr (fun i hi => ?_)
 rw [show n - (n - i) = i by omega, Int.mul_comm]

theorem Sm_tri (a : Nat → Nat → Int) : ∀ n, Sm (n + 1) (fun k => Sm (k + 1) (fun i => a i (k - i))) = Sm (n + 1) (fun i => Sm (n - i + 1) (fun j => a i j)) := by
 intro n
 induction n with
 | zero => rfl
 | succ n ih =>
  show Sm (n + 1) (fun k => Sm (k + 1) (fun i => a i (k - i))) + (Sm (n + 1) (fun i => a i (n + 1 - i)) + a (n + 1) (n + 1 - (n + 1))) = Sm (n + 1) (fun i => Sm (n + 1 - i + 1) (fun j => a i j)) + Sm (n + 1 - (n + 1) + 1) (fun j => a (n + 1) j)
  rw [ih, Nat.sub_self]
  have e : Sm (n + 1) (fun i => Sm (n + 1 - i + 1) (fun j => a i j)) = Sm (n + 1) (fun i => Sm (n - i + 1) (fun j => a i j)) + Sm (n + 1) (fun i => a i (n + 1 - i)) := by
   rw [← Sm_add]
   refine Sm_congr (fun i hi => ?_)
   rw [show n + 1 - i = n - i + 1 by omega]
   rfl
  rw [e]
  show _ = _ + (0 + a (n + 1) 0)
  omega

/-- One. -/
def c1 (n : Nat) : Int := if n = 0 then 1 else 0

/-- u times the derivative. -/
def dd (f : Nat → Int) (n : Nat) : Int := (n : Int) * f n

def mulR (l m : List Int) : List Int × Int := if whole l = true ∧ whole m = true then (if (prodR l m).2 = true then ((prodR l m).1, 0) else ([], 3)) else ([], 1)

theorem multiply_is (l m : List Int) (hl : l.length ≤ 1048576) (hm : m.length ≤ 1048576) : (mulR l m).1.length ≤ 1048576 ∧ Ev (fun k => spec_MultiplyWhole.f k l m) (mulR l m) ∧ Ev (fun k => impl_MultiplyWhole.f k l m) (mulR l m) := by
 unfold spec_MultiplyWhole.f impl_MultiplyWhole.f
 have h1 := specPoly l hl
 have h1' := specPoly m hm
 have h2 := areWhole2 l m hl hm
 by_cases hw : whole l = true
 ·rw [hw] at h1 h2
  by_cases hw' : whole m = true
  ·rw [hw'] at h1' h2
   rw [Bool.and_true] at h2
   obtain ⟨hp, hsp, hip⟩ := product_is l m hw hw'
   have e : mulR l m = if (prodR l m).2 = true then ((prodR l m).1, 0) else ([], 3) := if_pos ⟨hw, hw'⟩
   generalize prodR l m = p at hp hsp hip e
   by_cases hb : p.2 = true
   ·rw [e, if_pos hb]
    refine ⟨hp, ?_, ?_⟩
    ·repeat (first | with_reducible exact Ev.now _ | dsimp only | with_reducible refine Ev.bind (h1) ?_ | with_reducible refine Ev.bind (h1') ?_ | refine Ev.pos (by first | omega | rfl | assumption | decide) ?_ | refine Ev.neg (by first | omega | assumption | exact Bool.false_ne_true | exact fun e => absurd e (by decide)) ?_ | simp only [bne_self_eq_false, Bool.not_true, Bool.not_false, List.length_cons, List.length_nil] | rw [wrap_id (by omega) (by omega)] | with_reducible exact (h1) | with_reducible exact (h1') | ((with_reducible refine Ev.eq (congrArg some ?_)); rfl))
     refine Ev.succ ?_; simp only [spec_MultiplyWhole.j0]
     repeat (first | with_reducible exact Ev.now _ | dsimp only | with_reducible refine Ev.bind (hsp) ?_ | refine Ev.pos (by first | omega | rfl | assumption | decide) ?_ | refine Ev.neg (by first | omega | assumption | exact Bool.false_ne_true | exact fun e => absurd e (by decide)) ?_ | simp only [bne_self_eq_false, Bool.not_true, Bool.not_false, List.length_cons, List.length_nil] | rw [wrap_id (by omega) (by omega)] | with_reducible exact (hsp) | ((with_reducible refine Ev.eq (congrArg some ?_)); rfl))
    ·repeat (first | with_reducible exact Ev.now _ | dsimp only | with_reducible refine Ev.bind (h2) ?_ | with_reducible refine Ev.bind (hip) ?_ | refine Ev.pos (by first | omega | rfl | assumption | decide) ?_ | refine Ev.neg (by first | omega | assumption | exact Bool.false_ne_true | exact fun e => absurd e (by decide)) ?_ | simp only [bne_self_eq_false, Bool.not_true, Bool.not_false, List.length_cons, List.length_nil] | rw [wrap_id (by omega) (by omega)] | with_reducible exact (h2) | with_reducible exact (hip) | ((with_reducible refine Ev.eq (congrArg some ?_)); rfl))
   ·rw [e, if_neg hb]
    refine ⟨by simp, ?_, ?_⟩
    ·repeat (first | with_reducible exact Ev.now _ | dsimp only | with_reducible refine Ev.bind (h1) ?_ | with_reducible refine Ev.bind (h1') ?_ | refine Ev.pos (by first | omega | rfl | assumption | decide) ?_ | refine Ev.neg (by first | omega | assumption | exact Bool.false_ne_true | exact fun e => absurd e (by decide)) ?_ | simp only [bne_self_eq_false, Bool.not_true, Bool.not_false, List.length_cons, List.length_nil] | rw [wrap_id (by omega) (by omega)] | with_reducible exact (h1) | with_reducible exact (h1') | ((with_reducible refine Ev.eq (congrArg some ?_)); rfl))
     refine Ev.succ ?_; simp only [spec_MultiplyWhole.j0]
     repeat (first | with_reducible exact Ev.now _ | dsimp only | with_reducible refine Ev.bind (hsp) ?_ | refine Ev.pos (by first | omega | rfl | assumption | decide) ?_ | refine Ev.neg (by first | omega | assumption | exact Bool.false_ne_true | exact fun e => absurd e (by decide)) ?_ | simp only [bne_self_eq_false, Bool.not_true, Bool.not_false, List.length_cons, List.length_nil] | rw [wrap_id (by omega) (by omega)] | with_reducible exact (hsp) | ((with_reducible refine Ev.eq (congrArg some ?_)); rfl))
    ·repeat (first | with_reducible exact Ev.now _ | dsimp only | with_reducible refine Ev.bind (h2) ?_ | with_reducible refine Ev.bind (hip) ?_ | refine Ev.pos (by first | omega | rfl | assumption | decide) ?_ | refine Ev.neg (by first | omega | assumption | exact Bool.false_ne_true | exact fun e => absurd e (by decide)) ?_ | simp only [bne_self_eq_false, Bool.not_true, Bool.not_false, List.length_cons, List.length_nil] | rw [wrap_id (by omega) (by omega)] | with_reducible exact (h2) | with_reducible exact (hip) | ((with_reducible refine Ev.eq (congrArg some ?_)); rfl))
  ·rw [Bool.not_eq_true] at hw'
   rw [hw'] at h1' h2
   rw [Bool.and_false] at h2
   rw [show mulR l m = ([], 1) from if_neg (fun h => by rw [hw'] at h; exact absurd h.2 (by decide))]
   refine ⟨by simp, ?_, ?_⟩
   ·repeat (first | with_reducible exact Ev.now _ | dsimp only | with_reducible refine Ev.bind (h1) ?_ | with_reducible refine Ev.bind (h1') ?_ | refine Ev.pos (by first | omega | rfl | assumption | decide) ?_ | refine Ev.neg (by first | omega | assumption | exact Bool.false_ne_true | exact fun e => absurd e (by decide)) ?_ | simp only [bne_self_eq_false, Bool.not_true, Bool.not_false, List.length_cons, List.length_nil] | rw [wrap_id (by omega) (by omega)] | with_reducible exact (h1) | with_reducible exact (h1') | ((with_reducible refine Ev.eq (congrArg some ?_)); rfl))
    refine Ev.succ ?_; simp only [spec_MultiplyWhole.j0]
    repeat (first | with_reducible exact Ev.now _ | dsimp only | refine Ev.pos (by first | omega | rfl | assumption | decide) ?_ | refine Ev.neg (by first | omega | assumption | exact Bool.false_ne_true | exact fun e => absurd e (by decide)) ?_ | simp only [bne_self_eq_false, Bool.not_true, Bool.not_false, List.length_cons, List.length_nil] | rw [wrap_id (by omega) (by omega)] | ((with_reducible refine Ev.eq (congrArg some ?_)); rfl))
   ·repeat (first | with_reducible exact Ev.now _ | dsimp only | with_reducible refine Ev.bind (h2) ?_ | refine Ev.pos (by first | omega | rfl | assumption | decide) ?_ | refine Ev.neg (by first | omega | assumption | exact Bool.false_ne_true | exact fun e => absurd e (by decide)) ?_ | simp only [bne_self_eq_false, Bool.not_true, Bool.not_false, List.length_cons, List.length_nil] | rw [wrap_id (by omega) (by omega)] | with_reducible exact (h2) | ((with_reducible refine Ev.eq (congrArg some ?_)); rfl))
 ·rw [Bool.not_eq_true] at hw
  rw [hw] at h1 h2
  rw [Bool.false_and] at h2
  rw [show mulR l m = ([], 1) from if_neg (fun h => by rw [hw] at h; exact absurd h.1 (by decide))]
  refine ⟨by simp, ?_, ?_⟩
  ·repeat (first | with_reducible exact Ev.now _ | dsimp only | with_reducible refine Ev.bind (h1) ?_ | refine Ev.pos (by first | omega | rfl | assumption | decide) ?_ | refine Ev.neg (by first | omega | assumption | exact Bool.false_ne_true | exact fun e => absurd e (by decide)) ?_ | simp only [bne_self_eq_false, Bool.not_true, Bool.not_false, List.length_cons, List.length_nil] | rw [wrap_id (by omega) (by omega)] | with_reducible exact (h1) | ((with_reducible refine Ev.eq (congrArg some ?_)); rfl))
   refine Ev.succ ?_; simp only [spec_MultiplyWhole.j0]
   repeat (first | with_reducible exact Ev.now _ | dsimp only | refine Ev.pos (by first | omega | rfl | assumption | decide) ?_ | refine Ev.neg (by first | omega | assumption | exact Bool.false_ne_true | exact fun e => absurd e (by decide)) ?_ | simp only [bne_self_eq_false, Bool.not_true, Bool.not_false, List.length_cons, List.length_nil] | rw [wrap_id (by omega) (by omega)] | ((with_reducible refine Ev.eq (congrArg some ?_)); rfl))
  ·repeat (first | with_reducible exact Ev.now _ | dsimp only | with_reducible refine Ev.bind (h2) ?_ | refine Ev.pos (by first | omega | rfl | assumption | decide) ?_ | refine Ev.neg (by first | omega | assumption | exact Bool.false_ne_true | exact fun e => absurd e (by decide)) ?_ | simp only [bne_self_eq_false, Bool.not_true, Bool.not_false, List.length_cons, List.length_nil] | rw [wrap_id (by omega) (by omega)] | with_reducible exact (h2) | ((with_reducible refine Ev.eq (congrArg some ?_)); rfl))

section
variable (a b : List Int)

/-- One number of the quotient q: d rounds from the place i on. -/
def dv (q : List Int) (k : Nat) : Nat → Nat → Int → Int × Bool
 | 0, _, acc => (acc, true)
 | d + 1, i, acc => if (more acc (-(rd b (i : Int))) (rd q ((k - i : Nat) : Int))).2 = true then dv q k d (i + 1) (more acc (-(rd b (i : Int))) (rd q ((k - i : Nat) : Int))).1 else (0, false)

/-- The quotient's first k numbers, if all stay small. -/
def qs : Nat → Option (List Int)
 | 0 => some []
 | k + 1 => match qs k with
  | none => none
  | some q => if (dv b q k (min (k + 1) b.length - 1) 1 (rd a (k : Int))).2 = true then some (q ++ [(dv b q k (min (k + 1) b.length - 1) 1 (rd a (k : Int))).1 * rd b 0]) else none

theorem qs_none {k m : Nat} (h : qs a b k = none) (hkm : k ≤ m) : qs a b m = none := by
 induction m with
 | zero => rw [show k = 0 by omega] at h; exact h
 | succ m ih =>
  by_cases e : k = m + 1
  ·rw [← e]; exact h
  ·unfold qs
   rw [ih (by omega)]

theorem dv_small (q : List Int) (k : Nat) : ∀ (d i : Nat) (acc : Int), (-big ≤ acc ∧ acc ≤ big) → (dv b q k d i acc).2 = true → -big ≤ (dv b q k d i acc).1 ∧ (dv b q k d i acc).1 ≤ big := by
 intro d
 induction d with
 | zero => intro i acc ha _; exact ha
 | succ d ih =>
  intro i acc ha h
  unfold dv at h ⊢
  by_cases c : (more acc (-(rd b (i : Int))) (rd q ((k - i : Nat) : Int))).2 = true
  ·rw [if_pos c] at h ⊢
   exact ih (i + 1) _ (more_small c) h
  ·rw [if_neg c] at h
   cases h

variable (ha : a.length ≤ 40) (hs : ∀ y ∈ a, -big ≤ y ∧ y ≤ big) (hb : b.length ≤ 40) (hn : ∀ y ∈ b, -big ≤ y ∧ y ≤ big) (hb0 : rd b 0 = 1 ∨ rd b 0 = -1)

theorem rd_small {xs : List Int} (hx : ∀ y ∈ xs, -big ≤ y ∧ y ≤ big) (i : Nat) : -big ≤ rd xs (i : Int) ∧ rd xs (i : Int) ≤ big := by
 by_cases h : i < xs.length
 ·exact hx _ (rd_mem h)
 ·rw [rd_ge (by omega)]; decide

include hs hb0 in
theorem qs_form : ∀ (k : Nat) (q : List Int), qs a b k = some q → q.length = k ∧ ∀ y ∈ q, -big ≤ y ∧ y ≤ big := by
 intro k
 induction k with
 | zero =>
  intro q h
  cases h
  exact ⟨rfl, fun y hy => absurd hy (by simp)⟩
 | succ k ih =>
  intro q h
  unfold qs at h
  cases hq : qs a b k with
  | none => rw [hq] at h; cases h
  | some q' =>
   rw [hq] at h
   simp only at h
   by_cases c : (dv b q' k (min (k + 1) b.length - 1) 1 (rd a (k : Int))).2 = true
   ·rw [if_pos c] at h
    cases h
    obtain ⟨h1, h2⟩ := ih q' hq
    refine ⟨by simp [h1], fun y hy => ?_⟩
    rcases List.mem_append.1 hy with hy | hy
    ·exact h2 y hy
    ·rw [List.mem_singleton.1 hy]
     have := dv_small b q' k _ 1 _ (rd_small hs k) c
     rcases hb0 with e | e
     ·rw [e, Int.mul_one]; exact this
     ·rw [e]; omega
   ·rw [if_neg c] at h
    cases h

theorem b_pos (hb0 : rd b 0 = 1 ∨ rd b 0 = -1) : 0 < b.length := by
 rcases Nat.eq_zero_or_pos b.length with e | e
 ·have : rd b ((0 : Nat) : Int) = 0 := rd_ge (by omega)
  rcases hb0 with h | h
  ·rw [show ((0 : Nat) : Int) = 0 from rfl] at this; omega
  ·rw [show ((0 : Nat) : Int) = 0 from rfl] at this; omega
 ·exact e

include hb hn hb0

theorem spec_inner_dv (q : List Int) (k : Nat) (hk : k < 41) (hq : q.length = k) (hqs : ∀ y ∈ q, -big ≤ y ∧ y ≤ big) (r : List Int × Int) : ∀ (d i : Nat) (acc : Int), i + d = min (k + 1) b.length → 1 ≤ i → (-big ≤ acc ∧ acc ≤ big) →
  ((dv b q k d i acc).2 = true → Ev (fun f => spec_DivideWhole.l0 f a b (q ++ [(dv b q k d i acc).1 * rd b 0]) ((k + 1 : Nat) : Int)) r) → (¬ (dv b q k d i acc).2 = true → r = ([], 3)) →
  Ev (fun f => spec_DivideWhole.l1 f a b q (k : Int) acc (i : Int)) r := by
 have hbp := b_pos b hb0
 intro d
 induction d with
 | zero =>
  intro i acc hi h1i hac h1 h2
  have h1' := h1 rfl
  have e1 : (dv b q k 0 i acc).1 = acc := rfl
  rw [e1] at h1'
  have ew : wrap64 (acc * rd b 0) = acc * rd b 0 := by
   rcases hb0 with e | e
   ·rw [e]; unfold big at hac; rw [wrap_id (by omega) (by omega)]
   ·rw [e]; unfold big at hac; rw [wrap_id (by omega) (by omega)]
  have e : Ev (fun f => spec_DivideWhole.j4 f a b q (k : Int) acc (i : Int) false) r := by
   refine Ev.succ ?_; simp only [spec_DivideWhole.j4]
   rw [wrap_succ (i := k) (by omega), ew]
   refine Ev.neg (by decide) ?_
   refine Ev.pos (by omega) ?_
   refine Ev.pos (by omega) ?_
   exact h1'
  refine Ev.succ ?_; simp only [spec_DivideWhole.l1]
  by_cases c : (i : Int) ≤ k
  ·refine Ev.pos c ?_
   rw [decide_eq_false (by omega)]
   exact e
  ·refine Ev.neg c ?_
   exact e
 | succ d ih =>
  intro i acc hi h1i hac h1 h2
  have hbi := hn _ (rd_mem (show i < b.length by omega))
  refine Ev.succ ?_; simp only [spec_DivideWhole.l1]
  refine Ev.pos (by omega) ?_
  rw [decide_eq_true (by omega)]
  refine Ev.succ ?_; simp only [spec_DivideWhole.j4]
  have en : wrap64 (-(rd b (i : Int))) = -(rd b (i : Int)) := by unfold big at hbi; rw [wrap_id (by omega) (by omega)]
  rw [wrap_id (x := (k : Int) - i) (by omega) (by omega), wrap_succ (i := i) (by omega), show (k : Int) - i = ((k - i : Nat) : Int) by omega, en, specMore hac (by omega) (rd_small hqs (k - i))]
  unfold dv at h1 h2
  by_cases g : (more acc (-(rd b (i : Int))) (rd q ((k - i : Nat) : Int))).2 = true
  ·rw [if_pos g] at h1 h2
   refine Ev.pos (by first | exact trivial | rfl) ?_
   refine Ev.pos (by omega) ?_
   refine Ev.pos (by omega) ?_
   refine Ev.pos (by omega) ?_
   refine Ev.pos (by omega) ?_
   refine Ev.bind (Ev.now _) ?_
   refine Ev.pos g ?_
   exact ih (i + 1) _ (by omega) (by omega) (more_small g) h1 h2
  ·rw [if_neg g] at h1 h2
   rw [h2 (by decide)]
   refine Ev.pos (by first | exact trivial | rfl) ?_
   refine Ev.pos (by omega) ?_
   refine Ev.pos (by omega) ?_
   refine Ev.pos (by omega) ?_
   refine Ev.pos (by omega) ?_
   refine Ev.bind (Ev.now _) ?_
   exact Ev.neg g (Ev.now _)

theorem impl_inner_dv (q : List Int) (k : Nat) (N : Int) (hk : k < 41) (hq : q.length = k) (hqs : ∀ y ∈ q, -big ≤ y ∧ y ≤ big) (r : List Int × Int) : ∀ (d i : Nat) (acc : Int), i + d = min (k + 1) b.length → 1 ≤ i → (-big ≤ acc ∧ acc ≤ big) →
  ((dv b q k d i acc).2 = true → Ev (fun f => impl_DivideWhole.l0 f a b (q ++ [(dv b q k d i acc).1 * rd b 0]) N ((k + 1 : Nat) : Int)) r) → (¬ (dv b q k d i acc).2 = true → r = ([], 3)) →
  Ev (fun f => impl_DivideWhole.l1 f a b q (k : Int) acc (i : Int) N (k : Int)) r := by
 have hbp := b_pos b hb0
 have emn : mn (k : Int) (wrap64 ((b.length : Int) - 1)) = ((min (k + 1) b.length : Nat) : Int) - 1 := by
  rw [wrap_id (by omega) (by omega)]
  unfold mn
  split <;> omega
 intro d
 induction d with
 | zero =>
  intro i acc hi h1i hac h1 h2
  have h1' := h1 rfl
  have e1 : (dv b q k 0 i acc).1 = acc := rfl
  rw [e1] at h1'
  have ew : wrap64 (acc * rd b 0) = acc * rd b 0 := by
   rcases hb0 with e | e
   ·rw [e]; unfold big at hac; rw [wrap_id (by omega) (by omega)]
   ·rw [e]; unfold big at hac; rw [wrap_id (by omega) (by omega)]
  refine Ev.succ ?_; simp only [impl_DivideWhole.l1]
  rw [emn, wrap_succ (i := k) (by omega), ew]
  refine Ev.neg (by omega) ?_
  refine Ev.pos (by omega) ?_
  refine Ev.pos (by omega) ?_
  exact h1'
 | succ d ih =>
  intro i acc hi h1i hac h1 h2
  have hbi := hn _ (rd_mem (show i < b.length by omega))
  refine Ev.succ ?_; simp only [impl_DivideWhole.l1]
  have en : wrap64 (-(rd b (i : Int))) = -(rd b (i : Int)) := by unfold big at hbi; rw [wrap_id (by omega) (by omega)]
  rw [emn, wrap_id (x := (k : Int) - i) (by omega) (by omega), wrap_succ (i := i) (by omega), show (k : Int) - i = ((k - i : Nat) : Int) by omega, en]
  have ht := implTimes hac (show -big ≤ -(rd b (i : Int)) ∧ -(rd b (i : Int)) ≤ big by omega) (rd_small hqs (k - i))
  unfold dv at h1 h2
  refine Ev.pos (by omega) ?_
  refine Ev.pos (by omega) ?_
  refine Ev.pos (by omega) ?_
  refine Ev.pos (by omega) ?_
  refine Ev.pos (by omega) ?_
  refine Ev.bind ht ?_
  by_cases g : (more acc (-(rd b (i : Int))) (rd q ((k - i : Nat) : Int))).2 = true
  ·rw [if_pos g] at h1 h2
   refine Ev.pos g ?_
   exact ih (i + 1) _ (by omega) (by omega) (more_small g) h1 h2
  ·rw [if_neg g] at h1 h2
   rw [h2 (by decide)]
   exact Ev.neg g (Ev.now _)

include ha hs

theorem spec_outer_dv (n : Nat) (h : n = a.length + 1 - b.length) (hab : b.length ≤ a.length) (r : List Int × Int) (hr : ∀ Q, qs a b n = some Q → Ev (fun f => spec_DivideWhole.l0 f a b Q (n : Int)) r) (hr0 : qs a b n = none → r = ([], 3)) :
  ∀ (d k : Nat) (q : List Int), k + d = n → qs a b k = some q → Ev (fun f => spec_DivideWhole.l0 f a b q (k : Int)) r := by
 have hbp := b_pos b hb0
 intro d
 induction d with
 | zero =>
  intro k q hk hq
  have e : k = n := by omega
  subst e
  exact hr q hq
 | succ d ih =>
  intro k q hk hq
  obtain ⟨f1, f2⟩ := qs_form a b hs hb0 k q hq
  have en : qs a b (k + 1) = if (dv b q k (min (k + 1) b.length - 1) 1 (rd a (k : Int))).2 = true then some (q ++ [(dv b q k (min (k + 1) b.length - 1) 1 (rd a (k : Int))).1 * rd b 0]) else none := by
   conv => lhs; unfold qs
   rw [hq]
  refine Ev.succ ?_; simp only [spec_DivideWhole.l0]
  rw [wrap_id (x := (a.length : Int) - b.length) (by omega) (by omega)]
  refine Ev.pos (by omega) ?_
  refine Ev.pos (by omega) ?_
  refine Ev.pos (by omega) ?_
  refine spec_inner_dv a b hb hn hb0 q k (by omega) f1 f2 r (min (k + 1) b.length - 1) 1 (rd a (k : Int)) (by omega) (Nat.le_refl _) (rd_small hs k) (fun c => ?_) (fun c => ?_)
  ·rw [if_pos c] at en
   exact ih (k + 1) _ (by omega) en
  ·rw [if_neg c] at en
   exact hr0 (qs_none a b en (by omega))

theorem impl_outer_dv (n : Nat) (h : n = a.length + 1 - b.length) (hab : b.length ≤ a.length) (r : List Int × Int) (hr : ∀ Q, qs a b n = some Q → Ev (fun f => impl_DivideWhole.l0 f a b Q (n : Int) (n : Int)) r) (hr0 : qs a b n = none → r = ([], 3)) :
  ∀ (d k : Nat) (q : List Int), k + d = n → qs a b k = some q → Ev (fun f => impl_DivideWhole.l0 f a b q (n : Int) (k : Int)) r := by
 have hbp := b_pos b hb0
 intro d
 induction d with
 | zero =>
  intro k q hk hq
  have e : k = n := by omega
  subst e
  exact hr q hq
 | succ d ih =>
  intro k q hk hq
  obtain ⟨f1, f2⟩ := qs_form a b hs hb0 k q hq
  have en : qs a b (k + 1) = if (dv b q k (min (k + 1) b.length - 1) 1 (rd a (k : Int))).2 = true then some (q ++ [(dv b q k (min (k + 1) b.length - 1) 1 (rd a (k : Int))).1 * rd b 0]) else none := by
   conv => lhs; unfold qs
   rw [hq]
  have hat : impl_at.f a (k : Int) = some (rd a (k : Int)) := by
   unfold impl_at.f
   rw [if_pos (by omega), if_pos (by omega)]
  refine Ev.succ ?_; simp only [impl_DivideWhole.l0]
  refine Ev.pos (by omega) ?_
  refine Ev.bind (Ev.eq hat) ?_
  refine impl_inner_dv a b hb hn hb0 q k (n : Int) (by omega) f1 f2 r (min (k + 1) b.length - 1) 1 (rd a (k : Int)) (by omega) (Nat.le_refl _) (rd_small hs k) (fun c => ?_) (fun c => ?_)
  ·rw [if_pos c] at en
   exact ih (k + 1) _ (by omega) en
  ·rw [if_neg c] at en
   exact hr0 (qs_none a b en (by omega))

end

/-- A cut list of small numbers is a polynomial. -/
theorem whole_trim {q : List Int} (hq : q.length ≤ 40) (hs : ∀ y ∈ q, -big ≤ y ∧ y ≤ big) : ∀ i, i ≤ q.length → whole (trimN q i) = true := by
 intro i
 induction i with
 | zero => intro _; rfl
 | succ i ih =>
  intro hi
  unfold trimN
  by_cases c : rd q (i : Int) = 0
  ·rw [if_pos c]; exact ih (by omega)
  ·rw [if_neg c]
   unfold whole
   rw [Bool.and_eq_true, Bool.and_eq_true, List.all_eq_true, decide_eq_true_iff]
   refine ⟨⟨fun x hx => decide_eq_true (hs x (List.mem_of_mem_take hx)), by simp only [List.length_take]; omega⟩, ?_⟩
   rw [bne_iff_ne, List.getLast?_eq_getElem?]
   have e : (q.take (i + 1)).length = i + 1 := by simp only [List.length_take]; omega
   rw [e, Nat.add_sub_cancel, List.getElem?_take, if_pos (by omega), List.getElem?_eq_getElem (by omega)]
   rw [rd_lt (by omega)] at c
   intro x
   exact c (Option.some.inj x)

theorem implEqual_loop (x y : List Int) (hx : x.length ≤ 1048576) (hxy : x.length = y.length) : ∀ (d i : Nat), i + d = x.length → Ev (fun k => slices_Equal_int64_int64.l0 k x y (x.length : Int) (i : Int)) (decide (x.drop i = y.drop i)) := by
 intro d
 induction d with
 | zero =>
  intro i hi
  refine Ev.succ ?_; simp only [slices_Equal_int64_int64.l0]
  rw [List.drop_eq_nil_of_le (by omega), List.drop_eq_nil_of_le (by omega)]
  repeat (first | with_reducible exact Ev.now _ | dsimp only | refine Ev.pos (by first | omega | rfl | assumption | decide) ?_ | refine Ev.neg (by first | omega | assumption | exact Bool.false_ne_true | exact fun e => absurd e (by decide)) ?_ | simp only [bne_self_eq_false, Bool.not_true, Bool.not_false, List.length_cons, List.length_nil] | rw [wrap_id (by omega) (by omega)] | ((with_reducible refine Ev.eq (congrArg some ?_)); rfl))
 | succ d ih =>
  intro i hi
  refine Ev.succ ?_; simp only [slices_Equal_int64_int64.l0]
  rw [List.drop_eq_getElem_cons (by omega : i < x.length), List.drop_eq_getElem_cons (by omega : i < y.length), wrap_succ (by omega)]
  by_cases e : rd x i = rd y i
  ·repeat (first | with_reducible exact Ev.now _ | dsimp only | refine Ev.pos (by first | omega | rfl | assumption | decide) ?_ | refine Ev.neg (by first | omega | assumption | exact Bool.false_ne_true | exact fun e => absurd e (by decide)) ?_ | simp only [bne_self_eq_false, Bool.not_true, Bool.not_false, List.length_cons, List.length_nil] | rw [wrap_id (by omega) (by omega)] | ((with_reducible refine Ev.eq (congrArg some ?_)); rfl))
   have := ih (i + 1) (by omega)
   rw [rd_lt (by omega), rd_lt (by omega)] at e
   rw [e, decide_cons]
   exact this
  ·rw [decide_eq_false (fun h => e (by rw [rd_lt (by omega), rd_lt (by omega)]; exact (List.cons.inj h).1))]
   repeat (first | with_reducible exact Ev.now _ | dsimp only | refine Ev.pos (by first | omega | rfl | assumption | decide) ?_ | refine Ev.neg (by first | omega | assumption | exact Bool.false_ne_true | exact fun e => absurd e (by decide)) ?_ | simp only [bne_self_eq_false, Bool.not_true, Bool.not_false, List.length_cons, List.length_nil] | rw [wrap_id (by omega) (by omega)] | ((with_reducible refine Ev.eq (congrArg some ?_)); rfl))

theorem implEqual (x y : List Int) (hx : x.length ≤ 1048576) : Ev (fun k => slices_Equal_int64_int64.f k x y) (decide (x = y)) := by
 unfold slices_Equal_int64_int64.f
 by_cases h : x.length = y.length
 ·refine Ev.pos (by omega) ?_
  exact implEqual_loop x y hx h x.length 0 (by omega)
 ·rw [decide_eq_false (fun e => h (by rw [e]))]
  exact Ev.neg (by omega) (Ev.now _)

theorem specSame_loop (a Q p : List Int) (ha : a.length ≤ 40) (hQ : Q.length ≤ 1048576) (hp : p.length = a.length) : ∀ (d i : Nat), i + d = a.length → p.take i = a.take i → Ev (fun k => spec_DivideWhole.l2 k a Q p true (i : Int)) (if p = a then (trimN Q Q.length, 0) else ([], 4)) := by
 intro d
 induction d with
 | zero =>
  intro i hi ht
  refine Ev.succ ?_; simp only [spec_DivideWhole.l2]
  rw [if_pos (eq_of_take hp (by omega) ht)]
  have := specTrim Q hQ
  repeat (first | with_reducible exact Ev.now _ | dsimp only | with_reducible refine Ev.bind (this) ?_ | refine Ev.pos (by first | omega | rfl | assumption | decide) ?_ | refine Ev.neg (by first | omega | assumption | exact Bool.false_ne_true | exact fun e => absurd e (by decide)) ?_ | simp only [bne_self_eq_false, Bool.not_true, Bool.not_false, List.length_cons, List.length_nil] | rw [wrap_id (by omega) (by omega)] | with_reducible exact (this) | ((with_reducible refine Ev.eq (congrArg some ?_)); rfl))
 | succ d ih =>
  intro i hi ht
  refine Ev.succ ?_; simp only [spec_DivideWhole.l2]
  rw [wrap_succ (by omega)]
  refine Ev.pos (by omega) ?_
  refine Ev.pos (by first | exact trivial | rfl) ?_
  refine Ev.pos (by omega) ?_
  refine Ev.pos (by omega) ?_
  by_cases c : rd p (i : Int) = rd a (i : Int)
  ·rw [show (rd p (i : Int) == rd a (i : Int)) = true from beq_iff_eq.2 c]
   refine ih (i + 1) (by omega) ?_
   rw [rd_lt (by omega), rd_lt (by omega)] at c
   rw [List.take_succ_eq_append_getElem (by omega), List.take_succ_eq_append_getElem (by omega), ht, c]
  ·rw [show (rd p (i : Int) == rd a (i : Int)) = false from beq_eq_false_iff_ne.2 c]
   rw [if_neg (fun e => c (by rw [e]))]
   refine Ev.succ ?_
   simp only [spec_DivideWhole.l2]
   by_cases e : ((i + 1 : Nat) : Int) < a.length
   ·exact Ev.pos e (Ev.neg (by decide) (Ev.now _))
   ·exact Ev.neg e (Ev.neg (by decide) (Ev.now _))

theorem specSame (a Q p : List Int) (ha : a.length ≤ 40) (hQ : Q.length ≤ 1048576) (ha0 : 0 < a.length) : Ev (fun k => spec_DivideWhole.l2 k a Q p ((p.length : Int) == (a.length : Int)) 0) (if p = a then (trimN Q Q.length, 0) else ([], 4)) := by
 by_cases h : p.length = a.length
 ·rw [show ((p.length : Int) == (a.length : Int)) = true from beq_iff_eq.2 (by omega)]
  exact specSame_loop a Q p ha hQ h a.length 0 (by omega) (by simp)
 ·rw [show ((p.length : Int) == (a.length : Int)) = false from beq_eq_false_iff_ne.2 (by omega), if_neg (fun e => h (by rw [e]))]
  refine Ev.succ ?_
  simp only [spec_DivideWhole.l2]
  exact Ev.pos (by omega) (Ev.neg (by decide) (Ev.now _))

def divC (a b : List Int) : List Int × Int := match qs a b (a.length + 1 - b.length) with
 | none => ([], 3)
 | some Q => if (prodR (trimN Q Q.length) b).2 = true then (if (prodR (trimN Q Q.length) b).1 = a then (trimN Q Q.length, 0) else ([], 4)) else ([], 3)

theorem divide_core (a b : List Int) (hwa : whole a = true) (hwb : whole b = true) (hb0 : rd b 0 = 1 ∨ rd b 0 = -1) (ha0 : 0 < a.length) (hab : b.length ≤ a.length) : (divC a b).1.length ≤ 1048576 ∧ Ev (fun k => spec_DivideWhole.l0 k a b [] 0) (divC a b) ∧ Ev (fun k => impl_DivideWhole.j0 k a b) (divC a b) := by
 have ha := whole_length hwa
 have hb := whole_length hwb
 have hs : ∀ y ∈ a, -big ≤ y ∧ y ≤ big := whole_small hwa
 have hn : ∀ y ∈ b, -big ≤ y ∧ y ≤ big := whole_small hwb
 have hbp := b_pos b hb0
 obtain ⟨n, hN⟩ : ∃ n, n = a.length + 1 - b.length := ⟨_, rfl⟩
 have emx : mx 0 (wrap64 ((wrap64 ((a.length : Int) - (b.length : Int))) + 1)) = (n : Int) := by
  rw [wrap_id (x := (a.length : Int) - b.length) (by omega) (by omega), wrap_id (by omega) (by omega)]
  unfold mx
  split <;> omega
 have hj : ∀ r, Ev (fun k => impl_DivideWhole.l0 k a b [] (n : Int) ((0 : Nat) : Int)) r → Ev (fun k => impl_DivideWhole.j0 k a b) r := fun r h => by
  refine Ev.succ ?_; simp only [impl_DivideWhole.j0]
  rw [emx]
  exact h
 cases hq : qs a b n with
 | none =>
  rw [show divC a b = ([], 3) by unfold divC; rw [← hN, hq]]
  refine ⟨by simp, ?_, hj _ ?_⟩
  ·exact spec_outer_dv a b ha hs hb hn hb0 n hN hab _ (fun Q h => by rw [hq] at h; cases h) (fun _ => rfl) n 0 [] (by omega) rfl
  ·exact impl_outer_dv a b ha hs hb hn hb0 n hN hab _ (fun Q h => by rw [hq] at h; cases h) (fun _ => rfl) n 0 [] (by omega) rfl
 | some Q =>
  obtain ⟨f1, f2⟩ := qs_form a b hs hb0 n Q hq
  have hw := whole_trim (q := Q) (by omega) f2 Q.length (Nat.le_refl _)
  obtain ⟨hp, hsp, hip⟩ := product_is (trimN Q Q.length) b hw hwb
  have e9 : divC a b = if (prodR (trimN Q Q.length) b).2 = true then (if (prodR (trimN Q Q.length) b).1 = a then (trimN Q Q.length, 0) else ([], 4)) else ([], 3) := by unfold divC; rw [← hN, hq]
  generalize prodR (trimN Q Q.length) b = p at hp hsp hip e9
  have ht1 := specTrim Q (by omega)
  have ht2 := implTrim Q (by omega)
  have htl := trimN_length Q Q.length
  have hrd := e9
  generalize divC a b = r at hrd ⊢
  have hrl : r.1.length ≤ 1048576 := by
   rw [hrd]
   split
   ·split
    ·simp only; omega
    ·simp
   ·simp
  refine ⟨hrl, ?_, hj _ ?_⟩
  ·refine spec_outer_dv a b ha hs hb hn hb0 n hN hab _ (fun Q' h => ?_) (fun h => by rw [hq] at h; cases h) n 0 [] (by omega) rfl
   rw [hq] at h
   cases h
   refine Ev.succ ?_; simp only [spec_DivideWhole.l0]
   rw [wrap_id (x := (a.length : Int) - b.length) (by omega) (by omega)]
   refine Ev.neg (by omega) ?_
   refine Ev.bind ht1 ?_
   refine Ev.bind hsp ?_
   by_cases c : p.2 = true
   ·rw [hrd, if_pos c]
    refine Ev.pos c ?_
    exact specSame a Q p.1 ha (by omega) ha0
   ·rw [hrd, if_neg c]
    exact Ev.neg c (Ev.now _)
  ·refine impl_outer_dv a b ha hs hb hn hb0 n hN hab _ (fun Q' h => ?_) (fun h => by rw [hq] at h; cases h) n 0 [] (by omega) rfl
   rw [hq] at h
   cases h
   refine Ev.succ ?_; simp only [impl_DivideWhole.l0]
   refine Ev.neg (by omega) ?_
   refine Ev.neg (by omega) ?_
   refine Ev.succ ?_; simp only [impl_DivideWhole.j3]
   refine Ev.bind ht2 ?_
   refine Ev.bind hip ?_
   by_cases c : p.2 = true
   ·rw [hrd, if_pos c]
    refine Ev.pos c ?_
    refine Ev.bind (implEqual p.1 a hp) ?_
    by_cases e : p.1 = a
    ·rw [if_pos e, decide_eq_true e]
     exact Ev.pos rfl (Ev.now _)
    ·rw [if_neg e, decide_eq_false e]
     exact Ev.neg (by decide) (Ev.now _)
   ·rw [hrd, if_neg c]
    exact Ev.neg c (Ev.now _)

/-- The empty polynomial divided. -/
theorem divide_empty (b : List Int) (hwb : whole b = true) (hb0 : rd b 0 = 1 ∨ rd b 0 = -1) : Ev (fun k => impl_DivideWhole.j0 k [] b) ([], 0) := by
 have hb := whole_length hwb
 have hn : ∀ y ∈ b, -big ≤ y ∧ y ≤ big := whole_small hwb
 have hbp := b_pos b hb0
 have tail : ∀ (x : List Int) (N : Int) (k : Int), ¬ k < N → Ev (fun f => impl_DivideWhole.l0 f [] b x N k) ([], 0) := fun x N k hk => by
  refine Ev.succ ?_; simp only [impl_DivideWhole.l0]
  refine Ev.neg hk ?_
  refine Ev.pos (by decide) ?_
  refine Ev.succ ?_; simp only [impl_DivideWhole.j3]
  refine Ev.bind (implTrim [] (by simp)) ?_
  have hm : Ev (fun f => impl_multiply.f f (trimN [] ([] : List Int).length) b) ([], true) := by
   unfold impl_multiply.f
   refine Ev.pos (by decide) ?_
   refine Ev.succ ?_; simp only [impl_multiply.j0]
   exact Ev.pos (by first | exact trivial | rfl) (Ev.now _)
  refine Ev.bind hm (Ev.pos rfl ?_)
  refine Ev.bind (implEqual [] [] (by simp)) ?_
  rw [decide_eq_true rfl]
  exact Ev.pos rfl (Ev.now _)
 refine Ev.succ ?_; simp only [impl_DivideWhole.j0]
 have e0 : wrap64 (wrap64 ((([] : List Int).length : Int) - (b.length : Int)) + 1) = 1 - (b.length : Int) := by
  rw [List.length_nil, wrap_id (x := ((0 : Nat) : Int) - (b.length : Int)) (by omega) (by omega), wrap_id (by omega) (by omega)]
  omega
 rw [e0]
 by_cases c : b.length = 1
 ·have emx : mx 0 (1 - (b.length : Int)) = 0 := by unfold mx; rw [if_neg (by omega)]
  rw [emx]
  exact tail [] 0 0 (by omega)
 ·have emx : mx 0 (1 - (b.length : Int)) = 0 := by unfold mx; rw [if_neg (by omega)]
  rw [emx]
  exact tail [] 0 0 (by omega)

def divR (a b : List Int) : List Int × Int := if whole a = true ∧ whole b = true then (if rd b 0 = 1 ∨ rd b 0 = -1 then (if a.length = 0 then ([], 0) else if b.length ≤ a.length then divC a b else ([], 4)) else ([], 5)) else ([], 1)

theorem divide_is (a b : List Int) (ha : a.length ≤ 1048576) (hb : b.length ≤ 1048576) : (divR a b).1.length ≤ 1048576 ∧ Ev (fun k => spec_DivideWhole.f k a b) (divR a b) ∧ Ev (fun k => impl_DivideWhole.f k a b) (divR a b) := by
 unfold spec_DivideWhole.f impl_DivideWhole.f
 have h1 := specPoly a ha
 have h1' := specPoly b hb
 have h2 := areWhole2 a b ha hb
 by_cases hw : whole a = true
 ·rw [hw] at h1 h2
  by_cases hw' : whole b = true
  ·rw [hw'] at h1' h2
   rw [Bool.and_true] at h2
   have hb40 := whole_length hw'
   have ha40 := whole_length hw
   have hn : ∀ y ∈ b, -big ≤ y ∧ y ≤ big := whole_small hw'
   have hbs : -big ≤ rd b 0 ∧ rd b 0 ≤ big := rd_small hn 0
   have hat : impl_at.f b 0 = some (rd b 0) := by
    unfold impl_at.f
    by_cases e : b.length = 0
    ·have : rd b ((0 : Nat) : Int) = 0 := rd_ge (by omega)
     rw [if_neg (by omega)]
     exact congrArg some this.symm
    ·rw [if_pos (by omega), if_pos (by decide)]
   have habs : impl_absolute.f (rd b 0) = some ((rd b 0).natAbs : Int) := by
    unfold impl_absolute.f
    rw [mx_abs hbs]
   by_cases hb0 : rd b 0 = 1 ∨ rd b 0 = -1
   ·have hbp := b_pos b hb0
    have hna : ((rd b 0).natAbs : Int) = 1 := by omega
    have spec1 : ∀ r, Ev (fun k => spec_DivideWhole.j1 k a b false) r → Ev (fun k => (spec_l01Poly.f k a).bind fun t => if t = true then ((spec_l01Poly.f k b).bind fun t => spec_DivideWhole.j0 k a b (!t)) else spec_DivideWhole.j0 k a b true) r := fun r h => by
     refine Ev.bind h1 (Ev.pos rfl (Ev.bind h1' ?_))
     refine Ev.succ ?_
     simp only [spec_DivideWhole.j0]
     refine Ev.neg (by decide) ?_
     refine Ev.neg (by omega) ?_
     refine Ev.pos (by omega) ?_
     by_cases c : rd b 0 = 1
     ·exact Ev.pos c h
     ·refine Ev.neg c ?_
      rw [show (rd b 0 != -1) = false by rw [bne_eq_false_iff_eq]; omega]
      exact h
    by_cases ha0 : a.length = 0
    ·have e : a = [] := List.length_eq_zero_iff.1 ha0
     rw [show divR a b = ([], 0) by unfold divR; rw [if_pos ⟨hw, hw'⟩, if_pos hb0, if_pos ha0]]
     refine ⟨by simp, spec1 _ ?_, ?_⟩
     ·refine Ev.succ ?_
      simp only [spec_DivideWhole.j1]
      refine Ev.neg (by first | decide | simp) ?_
      exact Ev.pos (by omega) (Ev.now _)
     ·refine Ev.bind h2 (Ev.pos rfl (Ev.bind (Ev.eq hat) (Ev.bind (Ev.eq habs) (Ev.pos hna (Ev.neg (by omega) ?_)))))
      rw [e]
      exact divide_empty b hw' hb0
    ·by_cases hab : b.length ≤ a.length
     ·obtain ⟨hr, hs, hi⟩ := divide_core a b hw hw' hb0 (by omega) hab
      rw [show divR a b = divC a b by unfold divR; rw [if_pos ⟨hw, hw'⟩, if_pos hb0, if_neg ha0, if_pos hab]]
      refine ⟨hr, spec1 _ ?_, ?_⟩
      ·refine Ev.succ ?_
       simp only [spec_DivideWhole.j1]
       refine Ev.neg (by first | decide | simp) ?_
       exact Ev.neg (by omega) (Ev.neg (by omega) hs)
      ·exact Ev.bind h2 (Ev.pos rfl (Ev.bind (Ev.eq hat) (Ev.bind (Ev.eq habs) (Ev.pos hna (Ev.pos (by omega) (Ev.neg (by omega) hi))))))
     ·rw [show divR a b = ([], 4) by unfold divR; rw [if_pos ⟨hw, hw'⟩, if_pos hb0, if_neg ha0, if_neg hab]]
      refine ⟨by simp, spec1 _ ?_, ?_⟩
      ·refine Ev.succ ?_
       simp only [spec_DivideWhole.j1]
       refine Ev.neg (by first | decide | simp) ?_
       exact Ev.neg (by omega) (Ev.pos (by omega) (Ev.now _))
      ·exact Ev.bind h2 (Ev.pos rfl (Ev.bind (Ev.eq hat) (Ev.bind (Ev.eq habs) (Ev.pos hna (Ev.pos (by omega) (Ev.pos (by omega) (Ev.now _)))))))
   ·have hna : ¬ ((rd b 0).natAbs : Int) = 1 := by omega
    rw [show divR a b = ([], 5) by unfold divR; rw [if_pos ⟨hw, hw'⟩, if_neg hb0]]
    refine ⟨by simp, ?_, ?_⟩
    ·refine Ev.bind h1 (Ev.pos rfl (Ev.bind h1' ?_))
     have five : Ev (fun k => spec_DivideWhole.j1 k a b true) ([], 5) := by
      refine Ev.succ ?_
      simp only [spec_DivideWhole.j1]
      exact Ev.pos (by first | exact trivial | rfl) (Ev.now _)
     refine Ev.succ ?_
     simp only [spec_DivideWhole.j0]
     refine Ev.neg (by decide) ?_
     by_cases e : b.length = 0
     ·exact Ev.pos (by omega) five
     ·refine Ev.neg (by omega) (Ev.pos (by omega) (Ev.neg (by omega) ?_))
      rw [show (rd b 0 != -1) = true by rw [bne_iff_ne]; omega]
      exact five
    ·exact Ev.bind h2 (Ev.pos rfl (Ev.bind (Ev.eq hat) (Ev.bind (Ev.eq habs) (Ev.neg hna (Ev.now _)))))
  ·rw [Bool.not_eq_true] at hw'
   rw [hw'] at h1' h2
   rw [Bool.and_false] at h2
   rw [show divR a b = ([], 1) from if_neg (fun h => by rw [hw'] at h; exact absurd h.2 (by decide))]
   refine ⟨by simp, ?_, ?_⟩
   ·refine Ev.bind h1 (Ev.pos rfl (Ev.bind h1' ?_))
    refine Ev.succ ?_
    simp only [spec_DivideWhole.j0]
    exact Ev.pos (by first | exact trivial | rfl) (Ev.now _)
   ·exact Ev.bind h2 (Ev.neg (by decide) (Ev.now _))
 ·rw [Bool.not_eq_true] at hw
  rw [hw] at h1 h2
  rw [Bool.false_and] at h2
  rw [show divR a b = ([], 1) from if_neg (fun h => by rw [hw] at h; exact absurd h.1 (by decide))]
  refine ⟨by simp, ?_, ?_⟩
  ·refine Ev.bind h1 (Ev.neg (by decide) ?_)
   refine Ev.succ ?_
   simp only [spec_DivideWhole.j0]
   exact Ev.pos (by first | exact trivial | rfl) (Ev.now _)
  ·exact Ev.bind h2 (Ev.neg (by decide) (Ev.now _))

/-- The scheme, from the j first numbers on. -/
def val (l : List Int) (x : Int) : Nat → Int → Int × Int
 | 0, acc => (acc, 0)
 | j + 1, acc => if (more (l.getD j 0) acc x).2 = true then val l x j (more (l.getD j 0) acc x).1 else (0, 3)

theorem val_small {a b c : Int} (h : (more a b c).2 = true) : -big ≤ (more a b c).1 ∧ (more a b c).1 ≤ big := by
 unfold more at h ⊢
 by_cases g : -big ≤ b * c ∧ b * c ≤ big
 ·rw [if_pos g] at h ⊢
  exact decide_eq_true_iff.1 h
 ·rw [if_neg g] at h
  cases h

theorem specVal (l : List Int) (x : Int) (hx : -big ≤ x ∧ x ≤ big) (hl : l.length ≤ 40) (hs : ∀ y ∈ l, -big ≤ y ∧ y ≤ big) : ∀ (j : Nat) (acc : Int), j ≤ l.length → (-big ≤ acc ∧ acc ≤ big) →
  Ev (fun k => spec_ValueOfWhole.l0 k l x acc ((j : Int) - 1)) (val l x j acc) := by
 intro j
 induction j with
 | zero =>
  intro acc hj ha
  refine Ev.succ ?_; simp only [spec_ValueOfWhole.l0]
  unfold val
  repeat (first | with_reducible exact Ev.now _ | dsimp only | refine Ev.pos (by first | omega | rfl | assumption | decide) ?_ | refine Ev.neg (by first | omega | assumption | exact Bool.false_ne_true | exact fun e => absurd e (by decide)) ?_ | simp only [bne_self_eq_false, Bool.not_true, Bool.not_false, List.length_cons, List.length_nil] | rw [wrap_id (by omega) (by omega)] | ((with_reducible refine Ev.eq (congrArg some ?_)); rfl))
 | succ j ih =>
  intro acc hj ha
  refine Ev.succ ?_; simp only [spec_ValueOfWhole.l0]
  unfold val
  rw [show ((j + 1 : Nat) : Int) - 1 = j by omega, wrap_id (by omega) (by omega), specMore (hs _ (rd_mem (by omega))) ha hx, ← rd_nat]
  by_cases h : (more (rd l (j : Int)) acc x).2 = true
  ·rw [if_pos h]
   repeat (first | with_reducible exact Ev.now _ | dsimp only | with_reducible refine Ev.bind (Ev.now _) ?_ | refine Ev.pos (by first | omega | rfl | assumption | decide) ?_ | refine Ev.neg (by first | omega | assumption | exact Bool.false_ne_true | exact fun e => absurd e (by decide)) ?_ | simp only [bne_self_eq_false, Bool.not_true, Bool.not_false, List.length_cons, List.length_nil] | rw [wrap_id (by omega) (by omega)] | with_reducible exact (Ev.now _) | ((with_reducible refine Ev.eq (congrArg some ?_)); rfl))
   exact ih _ (by omega) (val_small h)
  ·rw [if_neg h]
   repeat (first | with_reducible exact Ev.now _ | dsimp only | with_reducible refine Ev.bind (Ev.now _) ?_ | refine Ev.pos (by first | omega | rfl | assumption | decide) ?_ | refine Ev.neg (by first | omega | assumption | exact Bool.false_ne_true | exact fun e => absurd e (by decide)) ?_ | simp only [bne_self_eq_false, Bool.not_true, Bool.not_false, List.length_cons, List.length_nil] | rw [wrap_id (by omega) (by omega)] | with_reducible exact (Ev.now _) | ((with_reducible refine Ev.eq (congrArg some ?_)); rfl))

theorem implVal (l : List Int) (x : Int) (hx : -big ≤ x ∧ x ≤ big) (hl : l.length ≤ 40) (hs : ∀ y ∈ l, -big ≤ y ∧ y ≤ big) : ∀ (j : Nat) (acc : Int), j ≤ l.length → (-big ≤ acc ∧ acc ≤ big) →
  Ev (fun k => impl_ValueOfWhole.l0 k l x acc ((j : Int) - 1)) (val l x j acc) := by
 intro j
 induction j with
 | zero =>
  intro acc hj ha
  refine Ev.succ ?_; simp only [impl_ValueOfWhole.l0]
  unfold val
  repeat (first | with_reducible exact Ev.now _ | dsimp only | refine Ev.pos (by first | omega | rfl | assumption | decide) ?_ | refine Ev.neg (by first | omega | assumption | exact Bool.false_ne_true | exact fun e => absurd e (by decide)) ?_ | simp only [bne_self_eq_false, Bool.not_true, Bool.not_false, List.length_cons, List.length_nil] | rw [wrap_id (by omega) (by omega)] | ((with_reducible refine Ev.eq (congrArg some ?_)); rfl))
 | succ j ih =>
  intro acc hj ha
  refine Ev.succ ?_; simp only [impl_ValueOfWhole.l0]
  unfold val
  have hc := hs _ (rd_mem (show j < l.length by omega))
  rw [show ((j + 1 : Nat) : Int) - 1 = j by omega, wrap_id (x := (j : Int) - 1) (by omega) (by omega), ← rd_nat]
  refine Ev.bind (implTimes (a := 0) (by decide) ha hx) ?_
  generalize rd l (j : Int) = c at hc
  by_cases g : -big ≤ acc * x ∧ acc * x ≤ big
  ·have e1 : more 0 acc x = (acc * x, true) := by
    unfold more
    rw [if_pos g, Int.zero_add, show small (acc * x) = true from decide_eq_true g]
   have e2 : more c acc x = (c + acc * x, small (c + acc * x)) := if_pos g
   rw [e1, e2]
   have e3 : wrap64 (acc * x + c) = c + acc * x := by
    unfold big at *
    rw [wrap_id (by omega) (by omega), Int.add_comm]
   simp only [e3, implSmall]
   by_cases h : small (c + acc * x) = true
   ·rw [if_pos h]
    repeat (first | with_reducible exact Ev.now _ | dsimp only | with_reducible refine Ev.bind (Ev.now _) ?_ | refine Ev.pos (by first | omega | rfl | assumption | decide) ?_ | refine Ev.neg (by first | omega | assumption | exact Bool.false_ne_true | exact fun e => absurd e (by decide)) ?_ | simp only [bne_self_eq_false, Bool.not_true, Bool.not_false, List.length_cons, List.length_nil] | rw [wrap_id (by omega) (by omega)] | with_reducible exact (Ev.now _) | ((with_reducible refine Ev.eq (congrArg some ?_)); rfl))
    exact ih _ (by omega) (decide_eq_true_iff.1 h)
   ·rw [if_neg h]
    repeat (first | with_reducible exact Ev.now _ | dsimp only | with_reducible refine Ev.bind (Ev.now _) ?_ | refine Ev.pos (by first | omega | rfl | assumption | decide) ?_ | refine Ev.neg (by first | omega | assumption | exact Bool.false_ne_true | exact fun e => absurd e (by decide)) ?_ | simp only [bne_self_eq_false, Bool.not_true, Bool.not_false, List.length_cons, List.length_nil] | rw [wrap_id (by omega) (by omega)] | with_reducible exact (Ev.now _) | ((with_reducible refine Ev.eq (congrArg some ?_)); rfl))
  ·have e1 : more 0 acc x = (0, false) := if_neg g
   have e2 : more c acc x = (0, false) := if_neg g
   rw [e1, e2]
   repeat (first | with_reducible exact Ev.now _ | dsimp only | refine Ev.pos (by first | omega | rfl | assumption | decide) ?_ | refine Ev.neg (by first | omega | assumption | exact Bool.false_ne_true | exact fun e => absurd e (by decide)) ?_ | simp only [bne_self_eq_false, Bool.not_true, Bool.not_false, List.length_cons, List.length_nil] | rw [wrap_id (by omega) (by omega)] | ((with_reducible refine Ev.eq (congrArg some ?_)); rfl))

def valR (l : List Int) (x : Int) : Int × Int := if whole l = true then (if -1000 ≤ x ∧ x ≤ 1000 then val l x l.length 0 else (0, 2)) else (0, 1)

theorem value_is (l : List Int) (x : Int) (hl : l.length ≤ 1048576) : Ev (fun k => spec_ValueOfWhole.f k l x) (valR l x) ∧ Ev (fun k => impl_ValueOfWhole.f k l x) (valR l x) := by
 unfold spec_ValueOfWhole.f impl_ValueOfWhole.f
 rw [specIn, implWithin]
 by_cases hw : whole l = true
 ·have h1 := specPoly l hl
  have h2 := areWhole l hl
  rw [hw] at h1 h2
  have h40 := whole_length hw
  by_cases hx : -1000 ≤ x ∧ x ≤ 1000
  ·rw [show valR l x = val l x l.length 0 by unfold valR; rw [if_pos hw, if_pos hx]]
   refine ⟨?_, ?_⟩
   ·rw [decide_eq_true hx]
    repeat (first | with_reducible exact Ev.now _ | dsimp only | with_reducible refine Ev.bind (h1) ?_ | with_reducible refine Ev.bind (Ev.now _) ?_ | refine Ev.pos (by first | omega | rfl | assumption | decide) ?_ | refine Ev.neg (by first | omega | assumption | exact Bool.false_ne_true | exact fun e => absurd e (by decide)) ?_ | simp only [bne_self_eq_false, Bool.not_true, Bool.not_false, List.length_cons, List.length_nil] | rw [wrap_id (by omega) (by omega)] | with_reducible exact (h1) | with_reducible exact (Ev.now _) | ((with_reducible refine Ev.eq (congrArg some ?_)); rfl))
    exact specVal l x (by unfold big; omega) h40 (whole_small hw) _ _ (Nat.le_refl _) (by decide)
   ·rw [decide_eq_true hx]
    repeat (first | with_reducible exact Ev.now _ | dsimp only | with_reducible refine Ev.bind (h2) ?_ | with_reducible refine Ev.bind (Ev.now _) ?_ | refine Ev.pos (by first | omega | rfl | assumption | decide) ?_ | refine Ev.neg (by first | omega | assumption | exact Bool.false_ne_true | exact fun e => absurd e (by decide)) ?_ | simp only [bne_self_eq_false, Bool.not_true, Bool.not_false, List.length_cons, List.length_nil] | rw [wrap_id (by omega) (by omega)] | with_reducible exact (h2) | with_reducible exact (Ev.now _) | ((with_reducible refine Ev.eq (congrArg some ?_)); rfl))
    exact implVal l x (by unfold big; omega) h40 (whole_small hw) _ _ (Nat.le_refl _) (by decide)
  ·rw [show valR l x = (0, 2) by unfold valR; rw [if_pos hw, if_neg hx]]
   refine ⟨?_, ?_⟩
   ·rw [decide_eq_false hx]
    repeat (first | with_reducible exact Ev.now _ | dsimp only | with_reducible refine Ev.bind (h1) ?_ | with_reducible refine Ev.bind (Ev.now _) ?_ | refine Ev.pos (by first | omega | rfl | assumption | decide) ?_ | refine Ev.neg (by first | omega | assumption | exact Bool.false_ne_true | exact fun e => absurd e (by decide)) ?_ | simp only [bne_self_eq_false, Bool.not_true, Bool.not_false, List.length_cons, List.length_nil] | rw [wrap_id (by omega) (by omega)] | with_reducible exact (h1) | with_reducible exact (Ev.now _) | ((with_reducible refine Ev.eq (congrArg some ?_)); rfl))
   ·rw [decide_eq_false hx]
    repeat (first | with_reducible exact Ev.now _ | dsimp only | with_reducible refine Ev.bind (h2) ?_ | with_reducible refine Ev.bind (Ev.now _) ?_ | refine Ev.pos (by first | omega | rfl | assumption | decide) ?_ | refine Ev.neg (by first | omega | assumption | exact Bool.false_ne_true | exact fun e => absurd e (by decide)) ?_ | simp only [bne_self_eq_false, Bool.not_true, Bool.not_false, List.length_cons, List.length_nil] | rw [wrap_id (by omega) (by omega)] | with_reducible exact (h2) | with_reducible exact (Ev.now _) | ((with_reducible refine Ev.eq (congrArg some ?_)); rfl))
 ·rw [Bool.not_eq_true] at hw
  have h1 := specPoly l hl
  have h2 := areWhole l hl
  rw [hw] at h1 h2
  rw [show valR l x = (0, 1) by unfold valR; rw [if_neg (by rw [hw]; decide)]]
  refine ⟨?_, ?_⟩
  ·repeat (first | with_reducible exact Ev.now _ | dsimp only | with_reducible refine Ev.bind (h1) ?_ | refine Ev.pos (by first | omega | rfl | assumption | decide) ?_ | refine Ev.neg (by first | omega | assumption | exact Bool.false_ne_true | exact fun e => absurd e (by decide)) ?_ | simp only [bne_self_eq_false, Bool.not_true, Bool.not_false, List.length_cons, List.length_nil] | rw [wrap_id (by omega) (by omega)] | with_reducible exact (h1) | ((with_reducible refine Ev.eq (congrArg some ?_)); rfl))
  ·repeat (first | with_reducible exact Ev.now _ | dsimp only | with_reducible refine Ev.bind (h2) ?_ | refine Ev.pos (by first | omega | rfl | assumption | decide) ?_ | refine Ev.neg (by first | omega | assumption | exact Bool.false_ne_true | exact fun e => absurd e (by decide)) ?_ | simp only [bne_self_eq_false, Bool.not_true, Bool.not_false, List.length_cons, List.length_nil] | rw [wrap_id (by omega) (by omega)] | with_reducible exact (h2) | ((with_reducible refine Ev.eq (congrArg some ?_)); rfl))
section
variable (n : Nat) (hn : n ≤ 1000) (a b : List (List Int)) (ha : Sq n a) (hb : Sq n b)

/-- The product's entry, of the k first places. -/
def part (k i j : Nat) : Int := wrap64 (Sm k (fun m => mat a i m * mat b m j))

/-- The result while row i is told from the places before k, and up to j from place k. -/
def rt (i k j : Nat) : List (List Int) := ofFn n (fun p q => if p < i then part a b n p q else if p = i then (if q < j then part a b (k + 1) p q else part a b k p q) else 0)

theorem rt_next (i k : Nat) : rt n a b i k n = rt n a b i (k + 1) 0 := by
 refine ofFn_congr (fun p q hp hq => ?_)
 by_cases c : p < i
 ·simp only [if_pos c]
 ·by_cases e : p = i
  ·simp only [if_neg c, if_pos e, if_pos hq, if_neg (Nat.not_lt_zero q)]
  ·simp only [if_neg c, if_neg e]

theorem part_zero (i j : Nat) : part a b 0 i j = 0 := by
 unfold part Sm
 exact wrap_id (by decide) (by decide)

theorem rt_row (i : Nat) : rt n a b i n 0 = rt n a b (i + 1) 0 0 := by
 refine ofFn_congr (fun p q hp hq => ?_)
 by_cases c : p < i
 ·rw [if_pos c, if_pos (by omega)]
 ·by_cases e : p = i
  ·rw [if_neg c, if_pos e, if_neg (by omega), if_pos (by omega)]
  ·rw [if_neg c, if_neg e, if_neg (by omega)]
   by_cases e2 : p = i + 1
   ·rw [if_pos e2, if_neg (by omega), part_zero]
   ·rw [if_neg e2]

theorem part_skip (k i j : Nat) (h : mat a i k = 0) : part a b (k + 1) i j = part a b k i j := by
 unfold part
 rw [show Sm (k + 1) (fun m => mat a i m * mat b m j) = Sm k (fun m => mat a i m * mat b m j) + mat a i k * mat b k j from rfl, h, Int.zero_mul, Int.add_zero]

theorem rt_skip (i k : Nat) (h : mat a i k = 0) : rt n a b i k 0 = rt n a b i (k + 1) 0 := by
 refine ofFn_congr (fun p q hp hq => ?_)
 by_cases c : p < i
 ·simp only [if_pos c]
 ·by_cases e : p = i
  ·subst e
   simp only [if_neg c, if_pos, if_neg (Nat.not_lt_zero q), part_skip a b k p q h]
  ·simp only [if_neg c, if_neg e]

theorem part_step (k i j : Nat) : wrap64 (part a b k i j + wrap64 (mat a i k * mat b k j)) = part a b (k + 1) i j := by
 unfold part
 rw [wrap_add_wrap]
 rfl

theorem rt_length (i k j : Nat) : (rt n a b i k j).length = n := ofFn_length _ _

theorem rt_at {i : Nat} (k j : Nat) (hi : i < n) : rd_L2 (rt n a b i k j) (i : Int) = rowOf n (fun q => if q < j then part a b (k + 1) i q else part a b k i q) := by
 unfold rt
 rw [ofFn_row _ hi]
 refine rowOf_congr (fun q hq => ?_)
 rw [if_neg (Nat.lt_irrefl i), if_pos rfl]

theorem rt_set {i j : Nat} (k : Nat) (hi : i < n) (hj : j < n) : (rt n a b i k j).set i ((rd_L2 (rt n a b i k j) (i : Int)).set j (wrap64 (rd (rd_L2 (rt n a b i k j) (i : Int)) (j : Int) + wrap64 (mat a i k * mat b k j)))) = rt n a b i k (j + 1) := by
 rw [rt_at n a b k j hi, rowOf_rd _ hj, if_neg (Nat.lt_irrefl j), part_step, rowOf_set _ _ hj]
 unfold rt
 rw [ofFn_set _ _ hi]
 refine ofFn_congr (fun p q hp hq => ?_)
 by_cases e : p = i
 ·subst e
  rw [if_pos rfl, if_neg (Nat.lt_irrefl p), if_pos rfl]
  by_cases e2 : q = j
  ·subst e2
   rw [if_pos rfl, if_pos (by omega)]
  ·rw [if_neg e2]
   by_cases c : q < j
   ·rw [if_pos c, if_pos (by omega)]
   ·rw [if_neg c, if_neg (by omega)]
 ·rw [if_neg e]
  by_cases c : p < i
  ·rw [if_pos c, if_pos c]
  ·rw [if_neg c, if_neg c, if_neg e, if_neg e]

include hn ha hb

theorem rtInner (i k : Nat) (hi : i < n) (hk : k < n) (r : List (List Int)) (hr : Ev (fun f => impl_rowsTimes.l1 f b (rt n a b i k n) (i : Int) a (n : Int) (i : Int) (rd_L2 a (i : Int)) (n : Int) ((k + 1 : Nat) : Int)) r) :
  ∀ (d j : Nat), j + d = n → Ev (fun f => impl_rowsTimes.l2 f b (rt n a b i k j) (i : Int) (mat a i k) a (n : Int) (i : Int) (rd_L2 a (i : Int)) (n : Int) (k : Int) (rd_L2 b (k : Int)) (n : Int) (j : Int)) r := by
 have hbl := hb.2 k hk
 intro d
 induction d with
 | zero =>
  intro j hj
  have e : j = n := by omega
  subst e
  refine Ev.succ ?_; simp only [impl_rowsTimes.l2]
  rw [wrap_succ (i := k) (by omega)]
  repeat (first | with_reducible exact Ev.now _ | dsimp only | refine Ev.pos (by first | omega | rfl | assumption | decide) ?_ | refine Ev.neg (by first | omega | assumption | exact Bool.false_ne_true | exact fun e => absurd e (by decide)) ?_ | simp only [bne_self_eq_false, Bool.not_true, Bool.not_false, List.length_cons, List.length_nil] | rw [wrap_id (by omega) (by omega)] | ((with_reducible refine Ev.eq (congrArg some ?_)); rfl))
  exact hr
 | succ d ih =>
  intro j hj
  have h1 := ih (j + 1) (by omega)
  have hl := rt_length n a b i k j
  have hrow : (rd_L2 (rt n a b i k j) (i : Int)).length = n := by rw [rt_at n a b k j hi, rowOf_length]
  have hset := rt_set n a b (i := i) (j := j) k hi (by omega)
  refine Ev.succ ?_; simp only [impl_rowsTimes.l2]
  rw [show rd (rd_L2 b (k : Int)) (j : Int) = mat b k j from rfl, Int.toNat_natCast, Int.toNat_natCast, hset, wrap_succ (i := j) (by omega)]
  repeat (first | with_reducible exact Ev.now _ | dsimp only | refine Ev.pos (by first | omega | rfl | assumption | decide) ?_ | refine Ev.neg (by first | omega | assumption | exact Bool.false_ne_true | exact fun e => absurd e (by decide)) ?_ | simp only [bne_self_eq_false, Bool.not_true, Bool.not_false, List.length_cons, List.length_nil] | rw [wrap_id (by omega) (by omega)] | ((with_reducible refine Ev.eq (congrArg some ?_)); rfl))
  exact h1

theorem rtMiddle (i : Nat) (hi : i < n) (r : List (List Int)) (hr : Ev (fun f => impl_rowsTimes.l0 f b (rt n a b (i + 1) 0 0) a (n : Int) ((i + 1 : Nat) : Int)) r) :
  ∀ (d k : Nat), k + d = n → Ev (fun f => impl_rowsTimes.l1 f b (rt n a b i k 0) (i : Int) a (n : Int) (i : Int) (rd_L2 a (i : Int)) (n : Int) (k : Int)) r := by
 have hal := ha.2 i hi
 have hbl := hb.1
 intro d
 induction d with
 | zero =>
  intro k hk
  have e : k = n := by omega
  refine Ev.succ ?_; simp only [impl_rowsTimes.l1]
  rw [e, rt_row, wrap_succ (i := i) (by omega)]
  repeat (first | with_reducible exact Ev.now _ | dsimp only | refine Ev.pos (by first | omega | rfl | assumption | decide) ?_ | refine Ev.neg (by first | omega | assumption | exact Bool.false_ne_true | exact fun e => absurd e (by decide)) ?_ | simp only [bne_self_eq_false, Bool.not_true, Bool.not_false, List.length_cons, List.length_nil] | rw [wrap_id (by omega) (by omega)] | ((with_reducible refine Ev.eq (congrArg some ?_)); rfl))
  exact hr
 | succ d ih =>
  intro k hk
  have h1 := ih (k + 1) (by omega)
  have hbk := hb.2 k (by omega)
  refine Ev.succ ?_; simp only [impl_rowsTimes.l1]
  rw [show rd (rd_L2 a (i : Int)) (k : Int) = mat a i k from rfl, wrap_succ (i := k) (by omega)]
  by_cases c : mat a i k = 0
  ·rw [← rt_skip n a b i k c] at h1
   repeat (first | with_reducible exact Ev.now _ | dsimp only | refine Ev.pos (by first | omega | rfl | assumption | decide) ?_ | refine Ev.neg (by first | omega | assumption | exact Bool.false_ne_true | exact fun e => absurd e (by decide)) ?_ | simp only [bne_self_eq_false, Bool.not_true, Bool.not_false, List.length_cons, List.length_nil] | rw [wrap_id (by omega) (by omega)] | ((with_reducible refine Ev.eq (congrArg some ?_)); rfl))
   exact h1
  ·rw [← rt_next] at h1
   repeat (first | with_reducible exact Ev.now _ | dsimp only | refine Ev.pos (by first | omega | rfl | assumption | decide) ?_ | refine Ev.neg (by first | omega | assumption | exact Bool.false_ne_true | exact fun e => absurd e (by decide)) ?_ | simp only [bne_self_eq_false, Bool.not_true, Bool.not_false, List.length_cons, List.length_nil] | rw [wrap_id (by omega) (by omega)] | ((with_reducible refine Ev.eq (congrArg some ?_)); rfl))
   rw [hbk]
   exact rtInner n hn a b ha hb i k hi (by omega) r h1 n 0 (by omega)

theorem rtOuter : ∀ (d i : Nat), i + d = n → Ev (fun f => impl_rowsTimes.l0 f b (rt n a b i 0 0) a (n : Int) (i : Int)) (ofFn n (part a b n)) := by
 have hal := ha.1
 intro d
 induction d with
 | zero =>
  intro i hi
  refine Ev.succ ?_; simp only [impl_rowsTimes.l0]
  have e : rt n a b i 0 0 = ofFn n (part a b n) := ofFn_congr (fun p q hp hq => if_pos (by omega))
  rw [e]
  repeat (first | with_reducible exact Ev.now _ | dsimp only | refine Ev.pos (by first | omega | rfl | assumption | decide) ?_ | refine Ev.neg (by first | omega | assumption | exact Bool.false_ne_true | exact fun e => absurd e (by decide)) ?_ | simp only [bne_self_eq_false, Bool.not_true, Bool.not_false, List.length_cons, List.length_nil] | rw [wrap_id (by omega) (by omega)] | ((with_reducible refine Ev.eq (congrArg some ?_)); rfl))
 | succ d ih =>
  intro i hi
  have h1 := ih (i + 1) (by omega)
  have hai := ha.2 i (by omega)
  refine Ev.succ ?_; simp only [impl_rowsTimes.l0]
  repeat (first | with_reducible exact Ev.now _ | dsimp only | refine Ev.pos (by first | omega | rfl | assumption | decide) ?_ | refine Ev.neg (by first | omega | assumption | exact Bool.false_ne_true | exact fun e => absurd e (by decide)) ?_ | simp only [bne_self_eq_false, Bool.not_true, Bool.not_false, List.length_cons, List.length_nil] | rw [wrap_id (by omega) (by omega)] | ((with_reducible refine Ev.eq (congrArg some ?_)); rfl))
  rw [hai]
  exact rtMiddle n hn a b ha hb i (by omega) _ h1 n 0 (by omega)

theorem rowsTimes : Ev (fun f => impl_rowsTimes.f f a b) (ofFn n (part a b n)) := by
 unfold impl_rowsTimes.f
 rw [ha.1]
 refine Ev.bind (implSquare (n : Int) (by omega) (by omega)) ?_
 have e : zeros (n : Int).toNat = rt n a b 0 0 0 := by
  rw [Int.toNat_natCast]
  apply List.ext_getElem
  ·rw [rt_length]; simp [zeros]
  ·intro k h1 h2
   rw [rt_length] at h2
   rw [← rl_lt, ← rl_lt]
   ·by_cases e : k = 0
    ·subst e
     rw [rt_at n a b 0 0 h2, rl_lt h1]
     simp only [zeros, List.getElem_replicate]
     rw [← rowOf_zero]
     refine rowOf_congr (fun q hq => ?_)
     rw [if_neg (by omega), part_zero]
    ·unfold rt
     rw [ofFn_row _ h2, rl_lt h1]
     simp only [zeros, List.getElem_replicate]
     rw [← rowOf_zero]
     refine rowOf_congr (fun q hq => ?_)
     rw [if_neg (by omega), if_neg e]
 rw [e]
 exact rtOuter n hn a b ha hb n 0 (by omega)

omit hb in
theorem trace : Ev (fun f => impl_trace.f f a) (wrap64 (tr n (mat a))) := by
 have hal := ha.1
 have : ∀ (d i : Nat), i + d = n → Ev (fun f => impl_trace.l0 f (wrap64 (Sm i (fun i => mat a i i))) a (n : Int) (i : Int)) (wrap64 (tr n (mat a))) := by
  intro d
  induction d with
  | zero =>
   intro i hi
   have e : i = n := by omega
   subst e
   refine Ev.succ ?_; simp only [impl_trace.l0]
   repeat (first | with_reducible exact Ev.now _ | dsimp only | refine Ev.pos (by first | omega | rfl | assumption | decide) ?_ | refine Ev.neg (by first | omega | assumption | exact Bool.false_ne_true | exact fun e => absurd e (by decide)) ?_ | simp only [bne_self_eq_false, Bool.not_true, Bool.not_false, List.length_cons, List.length_nil] | rw [wrap_id (by omega) (by omega)] | ((with_reducible refine Ev.eq (congrArg some ?_)); rfl))
  | succ d ih =>
   intro i hi
   have h1 := ih (i + 1) (by omega)
   have hai := ha.2 i (by omega)
   refine Ev.succ ?_; simp only [impl_trace.l0]
   rw [wrap_succ (by omega), wrap_add_left]
   repeat (first | with_reducible exact Ev.now _ | dsimp only | refine Ev.pos (by first | omega | rfl | assumption | decide) ?_ | refine Ev.neg (by first | omega | assumption | exact Bool.false_ne_true | exact fun e => absurd e (by decide)) ?_ | simp only [bne_self_eq_false, Bool.not_true, Bool.not_false, List.length_cons, List.length_nil] | rw [wrap_id (by omega) (by omega)] | ((with_reducible refine Ev.eq (congrArg some ?_)); rfl))
   exact h1
 unfold impl_trace.f
 rw [hal]
 have h0 := this n 0 (by omega)
 rw [show wrap64 (Sm 0 (fun i => mat a i i)) = 0 from wrap_id (x := 0) (by decide) (by decide)] at h0
 exact h0

end
/-- What is multiplied by the rows, ahead of step k. -/
def pre (n : Nat) (a : Nat → Nat → Int) : Nat → Nat → Nat → Int
 | 0 => fun _ _ => 0
 | k + 1 => nc n a k

def wm (n : Nat) (x : Nat → Nat → Int) : List (List Int) := ofFn n (fun i j => wrap64 (x i j))

theorem wm_mat {n i j : Nat} (x : Nat → Nat → Int) (hi : i < n) (hj : j < n) : mat (wm n x) i j = wrap64 (x i j) := ofFn_mat _ hi hj

theorem part_wm (n : Nat) (a : List (List Int)) (x : Nat → Nat → Int) : ofFn n (part a (wm n x) n) = wm n (mul n (mat a) x) := by
 refine ofFn_congr (fun i j hi hj => ?_)
 unfold part
 exact wrap_Sm (fun k hk => by rw [wm_mat x hk hj, wrap_mul_right])

theorem zeros_wm (n : Nat) (a : Nat → Nat → Int) : zeros n = wm n (pre n a 0) := by
 unfold wm ofFn zeros
 apply List.ext_getElem
 ·simp
 ·intro i h1 h2
  simp only [List.getElem_replicate, List.getElem_map, List.getElem_range]
  rw [← rowOf_zero]
  exact rowOf_congr (fun j _ => (wrap_id (x := 0) (by decide) (by decide)).symm)

/-- The next ones: the product, and the last coefficient in the diagonal. -/
theorem nc_next (n : Nat) (a : Nat → Nat → Int) (k i j : Nat) (hi : i < n) (hj : j < n) : nc n a k i j = mul n a (pre n a k) i j + if i = j then ch n a k else 0 := by
 rw [nc_step n a k i j hi hj]
 congr 1
 match k with
 | 0 =>
  rw [if_pos rfl]
  unfold mul pre
  rw [Sm_congr (g := fun _ => 0) (fun q _ => Int.mul_zero _), Sm_zero]
 | k + 1 =>
  rw [if_neg (by omega), Nat.add_sub_cancel]
  exact (nc_comm n a k i j hi hj).symm

section
variable (n : Nat) (hn : n ≤ 1000) (a : List (List Int)) (ha : Sq n a)

/-- While the diagonal is told before s. -/
def diagW (k s : Nat) : List (List Int) := ofFn n (fun i j => wrap64 (mul n (mat a) (pre n (mat a) k) i j + if i = j ∧ i < s then ch n (mat a) k else 0))

theorem diagW_zero (k : Nat) : diagW n a k 0 = wm n (mul n (mat a) (pre n (mat a) k)) := by
 refine ofFn_congr (fun i j hi hj => ?_)
 rw [if_neg (by omega), Int.add_zero]

theorem diagW_end (k : Nat) : diagW n a k n = wm n (nc n (mat a) k) := by
 refine ofFn_congr (fun i j hi hj => ?_)
 rw [nc_next n (mat a) k i j hi hj]
 by_cases c : i = j
 ·rw [if_pos c, if_pos ⟨c, hi⟩]
 ·rw [if_neg c, if_neg (fun z => c z.1)]

theorem diagW_row (k s : Nat) (hs : s < n) : rd_L2 (diagW n a k s) (s : Int) = rowOf n (fun j => wrap64 (mul n (mat a) (pre n (mat a) k) s j)) := by
 unfold diagW
 rw [ofFn_row _ hs]
 refine rowOf_congr (fun j _ => ?_)
 rw [if_neg (by omega), Int.add_zero]

theorem diagW_set (k s : Nat) (hs : s < n) : (diagW n a k s).set s ((rd_L2 (diagW n a k s) (s : Int)).set s (wrap64 (rd (rd_L2 (diagW n a k s) (s : Int)) (s : Int) + wrap64 (ch n (mat a) k)))) = diagW n a k (s + 1) := by
 rw [diagW_row n a k s hs, rowOf_rd _ hs, rowOf_set _ _ hs]
 unfold diagW
 rw [ofFn_set _ _ hs]
 refine ofFn_congr (fun i j hi hj => ?_)
 by_cases e : i = s
 ·subst e
  rw [if_pos rfl]
  by_cases e2 : j = i
  ·rw [if_pos e2, wrap_add_wrap, if_pos ⟨e2.symm, by omega⟩, e2]
  ·rw [if_neg e2, if_neg (fun z => e2 z.1.symm), Int.add_zero]
 ·rw [if_neg e]
  by_cases c : i = j ∧ i < s
  ·rw [if_pos c, if_pos ⟨c.1, by omega⟩]
  ·rw [if_neg c, if_neg (fun z => c ⟨z.1, by omega⟩)]

include hn ha

theorem fdDiag (k : Nat) (hk : k < n) (res : List Int)
  (h : Ev (fun f => (impl_rowsTimes.f f a (wm n (nc n (mat a) k))).bind fun t => (impl_trace.f f t).bind fun t2 => if ((k + 1 : Nat) : Int) = 0 then none else if (chL n (mat a) (k + 1)).length < 17592186044416 then impl_determinant.l0 f a (chL n (mat a) (k + 1) ++ [wrap64 (Int.tdiv (wrap64 (-t2)) ((k + 1 : Nat) : Int))]) (wm n (nc n (mat a) k)) (wrap64 (((k + 1 : Nat) : Int) + 1)) else none) res) :
  ∀ (d s : Nat), s + d = n → Ev (fun f => impl_determinant.l1 f a (chL n (mat a) (k + 1)) (diagW n a k s) ((k + 1 : Nat) : Int) (n : Int) (s : Int)) res := by
 have hlc : (chL n (mat a) (k + 1)).length = k + 1 := rowOf_length _ _
 intro d
 induction d with
 | zero =>
  intro s hs
  obtain rfl : s = n := by omega
  rw [← diagW_end] at h
  refine Ev.succ ?_; simp only [impl_determinant.l1]
  exact Ev.neg (by omega) h
 | succ d ih =>
  intro s hs
  have h1 := ih (s + 1) (by omega)
  have hl : (diagW n a k s).length = n := ofFn_length _ _
  have hrow : (rd_L2 (diagW n a k s) (s : Int)).length = n := by rw [diagW_row n a k s (by omega), rowOf_length]
  have e2 : rd (chL n (mat a) (k + 1)) (k : Int) = wrap64 (ch n (mat a) k) := rowOf_rd _ (by omega)
  rw [← diagW_set n a k s (by omega)] at h1
  refine Ev.succ ?_; simp only [impl_determinant.l1]
  rw [wrap_id (x := ((k + 1 : Nat) : Int) - 1) (by omega) (by omega), show ((k + 1 : Nat) : Int) - 1 = (k : Int) by omega, e2, wrap_succ (i := s) (by omega), Int.toNat_natCast]
  repeat (first | with_reducible exact Ev.now _ | dsimp only | refine Ev.pos (by first | omega | rfl | assumption | decide) ?_ | refine Ev.neg (by first | omega | assumption | exact Bool.false_ne_true | exact fun e => absurd e (by decide)) ?_ | simp only [bne_self_eq_false, Bool.not_true, Bool.not_false, List.length_cons, List.length_nil] | rw [wrap_id (by omega) (by omega)] | ((with_reducible refine Ev.eq (congrArg some ?_)); rfl))
  exact h1

theorem fdAll (hb : ∀ k, 1 ≤ k → k ≤ n → ab ((k : Int) * ch n (mat a) k) ≤ 9223372036854775807) : ∀ (d k : Nat), k + d = n → Ev (fun f => impl_determinant.l0 f a (chL n (mat a) (k + 1)) (wm n (pre n (mat a) k)) ((k + 1 : Nat) : Int)) (trimN (chL n (mat a) (n + 1)) (n + 1)) := by
 have hal := ha.1
 intro d
 induction d with
 | zero =>
  intro k hk
  obtain rfl : k = n := by omega
  have hl : (chL k (mat a) (k + 1)).length = k + 1 := rowOf_length _ _
  have h1 := implTrim (chL k (mat a) (k + 1)) (by omega)
  rw [hl] at h1
  refine Ev.succ ?_; simp only [impl_determinant.l0]
  repeat (first | with_reducible exact Ev.now _ | dsimp only | with_reducible refine Ev.bind (h1) ?_ | refine Ev.pos (by first | omega | rfl | assumption | decide) ?_ | refine Ev.neg (by first | omega | assumption | exact Bool.false_ne_true | exact fun e => absurd e (by decide)) ?_ | simp only [bne_self_eq_false, Bool.not_true, Bool.not_false, List.length_cons, List.length_nil] | rw [wrap_id (by omega) (by omega)] | with_reducible exact (h1) | ((with_reducible refine Ev.eq (congrArg some ?_)); rfl))
 | succ d ih =>
  intro k hk
  have h1 := ih (k + 1) (by omega)
  have hlc : (chL n (mat a) (k + 1)).length = k + 1 := rowOf_length _ _
  have hp := rowsTimes n hn a (wm n (pre n (mat a) k)) ha (Sq_ofFn n _)
  rw [part_wm, ← diagW_zero] at hp
  have hp2 := rowsTimes n hn a (wm n (nc n (mat a) k)) ha (Sq_ofFn n _)
  rw [part_wm] at hp2
  have ht := trace n hn (wm n (mul n (mat a) (nc n (mat a) k))) (Sq_ofFn n _)
  have et : wrap64 (-wrap64 (tr n (mat (wm n (mul n (mat a) (nc n (mat a) k)))))) = ((k + 1 : Nat) : Int) * ch n (mat a) (k + 1) := by
   have e1 : wrap64 (tr n (mat (wm n (mul n (mat a) (nc n (mat a) k))))) = wrap64 (tn n (mat a) k) := by
    unfold tr
    rw [wrap_Sm (g := fun i => mul n (mat a) (nc n (mat a) k) i i) (fun i hi => by rw [wm_mat _ hi hi, wrap_wrap])]
    unfold tn
    rw [Sm_congr (fun i hi => nc_comm n (mat a) k i i hi hi)]
    rfl
   have hnw := newton n (mat a) k (by omega)
   have hb1 := hb (k + 1) (by omega) (by omega)
   rw [e1, wrap_neg, ← hnw]
   unfold ab at hb1
   exact wrap_id (by omega) (by omega)
  have eq : wrap64 (Int.tdiv (((k + 1 : Nat) : Int) * ch n (mat a) (k + 1)) ((k + 1 : Nat) : Int)) = wrap64 (ch n (mat a) (k + 1)) := by
   rw [Int.mul_tdiv_cancel_left _ (by omega)]
  have hl2 : (diagW n a k 0).length = n := ofFn_length _ _
  have h2 := fdDiag n hn a ha k (by omega) (trimN (chL n (mat a) (n + 1)) (n + 1)) (by
   refine Ev.bind hp2 (Ev.bind ht ?_)
   rw [et, eq, wrap_succ (i := k + 1) (by omega)]
   have e3 : chL n (mat a) (k + 1) ++ [wrap64 (ch n (mat a) (k + 1))] = chL n (mat a) (k + 1 + 1) := rowOf_snoc (k + 1) (fun m => wrap64 (ch n (mat a) m))
   rw [e3]
   repeat (first | with_reducible exact Ev.now _ | dsimp only | refine Ev.pos (by first | omega | rfl | assumption | decide) ?_ | refine Ev.neg (by first | omega | assumption | exact Bool.false_ne_true | exact fun e => absurd e (by decide)) ?_ | simp only [bne_self_eq_false, Bool.not_true, Bool.not_false, List.length_cons, List.length_nil] | rw [wrap_id (by omega) (by omega)] | ((with_reducible refine Ev.eq (congrArg some ?_)); rfl))
   exact h1) n 0 (by omega)
  refine Ev.succ ?_; simp only [impl_determinant.l0]
  refine Ev.pos (by omega) (Ev.bind hp ?_)
  rw [hl2]
  exact h2

theorem faddeev (hb : ∀ k, 1 ≤ k → k ≤ n → ab ((k : Int) * ch n (mat a) k) ≤ 9223372036854775807) : Ev (fun f => impl_determinant.f f a) (trimN (chL n (mat a) (n + 1)) (n + 1)) := by
 have h := fdAll n hn a ha hb n 0 (by omega)
 have e : chL n (mat a) (0 + 1) = [1] := by
  show [wrap64 (ch n (mat a) 0)] = [1]
  rw [show ch n (mat a) 0 = 1 from (dc_zero n idm (ng (mat a))).trans (det_idm n), wrap_id (by decide) (by decide)]
 unfold impl_determinant.f
 rw [ha.1]
 refine Ev.bind (implSquare (n : Int) (by omega) (by omega)) ?_
 rw [Int.toNat_natCast, zeros_wm n (mat a)]
 rw [e] at h
 exact h

end
theorem Sm_ge_one {n : Nat} {f : Nat → Int} (h : ∀ i, i < n → 0 ≤ f i) {i : Nat} (hi : i < n) : f i ≤ Sm n f := by
 induction n with
 | zero => omega
 | succ n ih =>
  have h1 : 0 ≤ Sm n f := Sm_nonneg (fun i hi => h i (by omega))
  have h2 := h n (by omega)
  unfold Sm
  by_cases e : i = n
  ·rw [e]; omega
  ·have := ih (fun i hi => h i (by omega)) (by omega)
   omega

/-- The same function of u has the same coefficients. -/
theorem ch_of (n : Nat) (x a b : Nat → Nat → Int) (h : ∀ u : Int, det n (xu x u) = det n (fun i k => a i k + u * b i k)) (m : Nat) : ch n x m = dc n a b m := by
 by_cases hm : n + 1 ≤ m
 ·rw [show ch n x m = 0 from dc_high n _ _ hm, dc_high n _ _ hm]
 have := coef_zero (n + 1) (fun m => ch n x m - dc n a b m) (fun u _ => by
  have h1 := h u
  have h2 := (det_coef n a b).2.1 u
  simp only at h2
  rw [det_xu, h2] at h1
  rw [Sm_congr (g := fun m => ch n x m * u ^ m + (-1) * (dc n a b m * u ^ m)) (fun m _ => by grind), Sm_add, Sm_mul_left]
  omega) m (by omega)
 omega

theorem ch_bound (n : Nat) (x a b : Nat → Nat → Int) (h : ∀ u : Int, det n (xu x u) = det n (fun i k => a i k + u * b i k)) (m : Nat) : ab (ch n x m) ≤ Pr n (cs n a b) := by
 rw [ch_of n x a b h m]
 by_cases hm : n + 1 ≤ m
 ·rw [dc_high n _ _ hm]
  exact Pr_nonneg (fun i _ => cs_nonneg n a b i)
 ·exact Int.le_trans (Sm_ge_one (f := fun i => ab (dc n a b i)) (fun i _ => ab_nonneg _) (by omega)) (det_coef n a b).2.2

theorem ch_bound0 (n : Nat) (x : Nat → Nat → Int) (m : Nat) : ab (ch n x m) ≤ Pr n (cs n idm (ng x)) := ch_bound n x idm (ng x) (fun u => rfl) m

def fit20 (x : Int) : Bool := decide (-20 ≤ x ∧ x ≤ 20)
def goodRow (n : Nat) (r : List Int) : Bool := decide (r.length = n) && r.all fit20

theorem specIn' (a b c : Int) : spec_l01In.f a b c = some (decide (b ≤ a ∧ a ≤ c)) := by
 unfold spec_l01In.f
 by_cases h : b ≤ a
 ·rw [if_pos h]; simp [h]
 ·rw [if_neg h]; simp [h]

theorem implDW1 (a : Int) : impl_DeterminantWhole_1.f a = some (!fit20 a) := by
 unfold impl_DeterminantWhole_1.f impl_within.f fit20
 by_cases h : -20 ≤ a
 ·rw [if_pos (show a ≥ -20 from h)]; simp [h]
 ·rw [if_neg (show ¬ a ≥ -20 from h)]; simp [h]

section
variable (l : List (List Int)) (h8 : l.length ≤ 8) (res : List Int)
include h8

theorem specDW_row (i : Nat) (hi : i < l.length) (hrl : (rd_L2 l (i : Int)).length = l.length) (b : Bool) (hs : Ev (fun k => spec_DeterminantWhole.l0 k l ((i + 1 : Nat) : Int)) (if b = true then (res, 0) else ([], 2))) :
  ∀ (d j : Nat), j + d = l.length → Ev (fun k => spec_DeterminantWhole.l1 k l (i : Int) (j : Int)) (if (((rd_L2 l (i : Int)).drop j).all fit20 && b) = true then (res, 0) else ([], 2)) := by
 intro d
 induction d with
 | zero =>
  intro j hj
  rw [List.drop_eq_nil_of_le (by omega), List.all_nil, Bool.true_and]
  refine Ev.succ ?_; simp only [spec_DeterminantWhole.l1]
  rw [wrap_succ (i := i) (by omega)]
  exact Ev.neg (by omega) hs
 | succ d ih =>
  intro j hj
  have h1 := ih (j + 1) (by omega)
  have hj' : j < (rd_L2 l (i : Int)).length := by omega
  rw [List.drop_eq_getElem_cons hj', List.all_cons, ← rd_lt hj']
  refine Ev.succ ?_; simp only [spec_DeterminantWhole.l1]
  rw [wrap_succ (i := j) (by omega), specIn']
  have e : decide (-20 ≤ rd (rd_L2 l (i : Int)) (j : Int) ∧ rd (rd_L2 l (i : Int)) (j : Int) ≤ 20) = fit20 (rd (rd_L2 l (i : Int)) (j : Int)) := rfl
  rw [e]
  cases c : fit20 (rd (rd_L2 l (i : Int)) (j : Int)) with
  | true =>
   rw [Bool.true_and]
   refine Ev.pos (by omega) (Ev.pos (by omega) (Ev.pos (by omega) (Ev.pos (by omega) (Ev.pos (by omega) (Ev.bind (Ev.now _) (Ev.pos rfl ?_))))))
   exact h1
  | false =>
   rw [Bool.false_and, Bool.false_and]
   refine Ev.pos (by omega) (Ev.pos (by omega) (Ev.pos (by omega) (Ev.pos (by omega) (Ev.pos (by omega) (Ev.bind (Ev.now _) (Ev.neg (by decide) ?_))))))
   exact Ev.now _

theorem specDW_rows (hb : l.all (goodRow l.length) = true → Ev (fun f => spec_l01Berkowitz.f f l) res) : ∀ (d i : Nat), i + d = l.length → (l.take i).all (goodRow l.length) = true → Ev (fun k => spec_DeterminantWhole.l0 k l (i : Int)) (if (l.drop i).all (goodRow l.length) = true then (res, 0) else ([], 2)) := by
 intro d
 induction d with
 | zero =>
  intro i hi ht
  rw [List.take_of_length_le (by omega)] at ht
  rw [List.drop_eq_nil_of_le (by omega), List.all_nil, if_pos rfl]
  refine Ev.succ ?_; simp only [spec_DeterminantWhole.l0]
  refine Ev.neg (by omega) (Ev.bind (hb ht) (Ev.now _))
 | succ d ih =>
  intro i hi ht
  have hi' : i < l.length := by omega
  rw [List.drop_eq_getElem_cons hi', List.all_cons, ← rl_lt hi']
  refine Ev.succ ?_; simp only [spec_DeterminantWhole.l0]
  rw [show goodRow l.length (rd_L2 l (i : Int)) = (decide ((rd_L2 l (i : Int)).length = l.length) && (rd_L2 l (i : Int)).all fit20) from rfl]
  by_cases c : (rd_L2 l (i : Int)).length = l.length
  ·rw [decide_eq_true c, Bool.true_and]
   cases c2 : (rd_L2 l (i : Int)).all fit20 with
   | true =>
    have h1 := ih (i + 1) (by omega) (by
     rw [List.take_succ_eq_append_getElem hi', List.all_append, ht, ← rl_lt hi']
     simp only [List.all_cons, List.all_nil, goodRow, c2, decide_eq_true c, Bool.and_self])
    have h2 := specDW_row l h8 res i hi' c _ h1 l.length 0 (by omega)
    rw [List.drop_zero, c2] at h2
    exact Ev.pos (by omega) (Ev.pos (by omega) (Ev.pos (by omega) h2))
   | false =>
    have h2 : ∀ (d j : Nat), j + d = l.length → ((rd_L2 l (i : Int)).drop j).all fit20 = false → Ev (fun k => spec_DeterminantWhole.l1 k l (i : Int) (j : Int)) (([] : List Int), (2 : Int)) := by
     intro d
     induction d with
     | zero =>
      intro j hj hf
      rw [List.drop_eq_nil_of_le (by omega)] at hf
      exact absurd hf (by simp)
     | succ d ih2 =>
      intro j hj hf
      have hj' : j < (rd_L2 l (i : Int)).length := by omega
      rw [List.drop_eq_getElem_cons hj', List.all_cons, ← rd_lt hj'] at hf
      refine Ev.succ ?_; simp only [spec_DeterminantWhole.l1]
      rw [wrap_succ (i := j) (by omega), specIn']
      have e : decide (-20 ≤ rd (rd_L2 l (i : Int)) (j : Int) ∧ rd (rd_L2 l (i : Int)) (j : Int) ≤ 20) = fit20 (rd (rd_L2 l (i : Int)) (j : Int)) := rfl
      rw [e]
      cases c3 : fit20 (rd (rd_L2 l (i : Int)) (j : Int)) with
      | true =>
       rw [c3, Bool.true_and] at hf
       refine Ev.pos (by omega) (Ev.pos (by omega) (Ev.pos (by omega) (Ev.pos (by omega) (Ev.pos (by omega) (Ev.bind (Ev.now _) (Ev.pos rfl ?_))))))
       exact ih2 (j + 1) (by omega) hf
      | false =>
       refine Ev.pos (by omega) (Ev.pos (by omega) (Ev.pos (by omega) (Ev.pos (by omega) (Ev.pos (by omega) (Ev.bind (Ev.now _) (Ev.neg (by decide) ?_))))))
       exact Ev.now _
    rw [Bool.false_and]
    exact Ev.pos (by omega) (Ev.pos (by omega) (Ev.pos (by omega) (h2 l.length 0 (by omega) c2)))
  ·rw [decide_eq_false c, Bool.false_and, Bool.false_and]
   exact Ev.pos (by omega) (Ev.pos (by omega) (Ev.neg (by omega) (Ev.now _)))

omit h8 in
theorem implDW_has (r : List Int) (hr : r.length ≤ 1048576) : Ev (fun k => slices_ContainsFunc_int64_int64_176_at_DeterminantWhole_1.f k r) (!r.all fit20) := by
 have loop : ∀ (d j : Nat), j + d = r.length → ∃ z : Int, Ev (fun k => slices_IndexFunc_int64_int64_231_at_DeterminantWhole_1.l0 k r (r.length : Int) (j : Int)) z ∧ decide (z ≥ 0) = !(r.drop j).all fit20 := by
  intro d
  induction d with
  | zero =>
   intro j hj
   refine ⟨-1, ?_, by rw [List.drop_eq_nil_of_le (by omega)]; rfl⟩
   refine Ev.succ ?_; simp only [slices_IndexFunc_int64_int64_231_at_DeterminantWhole_1.l0]
   exact Ev.neg (by omega) (Ev.now _)
  | succ d ih =>
   intro j hj
   obtain ⟨z, h1, h2⟩ := ih (j + 1) (by omega)
   have hj' : j < r.length := by omega
   cases c : fit20 (rd r (j : Int)) with
   | true =>
    refine ⟨z, ?_, by rw [List.drop_eq_getElem_cons hj', List.all_cons, ← rd_lt hj', c, Bool.true_and]; exact h2⟩
    refine Ev.succ ?_; simp only [slices_IndexFunc_int64_int64_231_at_DeterminantWhole_1.l0]
    rw [implDW1, c, wrap_succ (by omega)]
    exact Ev.pos (by omega) (Ev.pos (by omega) (Ev.pos (by omega) (Ev.bind (Ev.now _) (Ev.neg (by decide) h1))))
   | false =>
    refine ⟨(j : Int), ?_, by rw [List.drop_eq_getElem_cons hj', List.all_cons, ← rd_lt hj', c, Bool.false_and]; simp⟩
    refine Ev.succ ?_; simp only [slices_IndexFunc_int64_int64_231_at_DeterminantWhole_1.l0]
    rw [implDW1, c]
    exact Ev.pos (by omega) (Ev.pos (by omega) (Ev.pos (by omega) (Ev.bind (Ev.now _) (Ev.pos rfl (Ev.now _)))))
 obtain ⟨z, h1, h2⟩ := loop r.length 0 (by omega)
 unfold slices_ContainsFunc_int64_int64_176_at_DeterminantWhole_1.f slices_IndexFunc_int64_int64_231_at_DeterminantWhole_1.f
 refine Ev.bind h1 ?_
 rw [h2, List.drop_zero]
 exact Ev.now _

theorem implDW_rows (hb : l.all (goodRow l.length) = true → Ev (fun f => impl_determinant.f f l) res) : ∀ (d i : Nat), i + d = l.length → (l.take i).all (goodRow l.length) = true → Ev (fun k => impl_DeterminantWhole.l0 k l l (l.length : Int) (i : Int)) (if (l.drop i).all (goodRow l.length) = true then (res, 0) else ([], 2)) := by
 intro d
 induction d with
 | zero =>
  intro i hi ht
  rw [List.take_of_length_le (by omega)] at ht
  rw [List.drop_eq_nil_of_le (by omega), List.all_nil, if_pos rfl]
  refine Ev.succ ?_; simp only [impl_DeterminantWhole.l0]
  refine Ev.neg (by omega) (Ev.bind (hb ht) (Ev.now _))
 | succ d ih =>
  intro i hi ht
  have hi' : i < l.length := by omega
  rw [List.drop_eq_getElem_cons hi', List.all_cons, ← rl_lt hi']
  refine Ev.succ ?_; simp only [impl_DeterminantWhole.l0]
  rw [wrap_succ (i := i) (by omega)]
  rw [show goodRow l.length (rd_L2 l (i : Int)) = (decide ((rd_L2 l (i : Int)).length = l.length) && (rd_L2 l (i : Int)).all fit20) from rfl]
  by_cases c : (rd_L2 l (i : Int)).length = l.length
  ·rw [decide_eq_true c, Bool.true_and]
   have hh := implDW_has (rd_L2 l (i : Int)) (by omega)
   cases c2 : (rd_L2 l (i : Int)).all fit20 with
   | true =>
    rw [c2] at hh
    have h1 := ih (i + 1) (by omega) (by
     rw [List.take_succ_eq_append_getElem hi', List.all_append, ht, ← rl_lt hi']
     simp only [List.all_cons, List.all_nil, goodRow, c2, decide_eq_true c, Bool.and_self])
    rw [Bool.true_and]
    exact Ev.pos (by omega) (Ev.pos (by omega) (Ev.pos (by omega) (Ev.pos (by omega) (Ev.bind hh (Ev.neg (by decide) h1)))))
   | false =>
    rw [c2] at hh
    rw [Bool.false_and]
    exact Ev.pos (by omega) (Ev.pos (by omega) (Ev.pos (by omega) (Ev.pos (by omega) (Ev.bind hh (Ev.pos rfl (Ev.now _))))))
  ·rw [decide_eq_false c, Bool.false_and, Bool.false_and]
   exact Ev.pos (by omega) (Ev.pos (by omega) (Ev.pos (by omega) (Ev.neg (by omega) (Ev.now _))))

end

theorem Pr_const_le (n : Nat) (f : Nat → Int) (c : Int) (h0 : ∀ i, i < n → 0 ≤ f i) (h : ∀ i, i < n → f i ≤ c) : Pr n f ≤ c ^ n := by
 induction n with
 | zero => rw [Int.pow_zero]; exact Int.le_refl _
 | succ n ih =>
  unfold Pr
  have h1 := ih (fun i hi => h0 i (by omega)) (fun i hi => h i (by omega))
  have h2 := h0 n (by omega)
  have h3 := h n (by omega)
  have h4 : Pr n f * f n ≤ c ^ n * f n := Int.mul_le_mul_of_nonneg_right h1 h2
  have h5 : 0 ≤ c ^ n := Int.le_trans (Pr_nonneg (fun i hi => h0 i (by omega))) h1
  have h6 : c ^ n * f n ≤ c ^ n * c := Int.mul_le_mul_of_nonneg_left h3 h5
  rw [Int.pow_succ]
  omega

theorem fit_all {l : List (List Int)} (hg : l.all (goodRow l.length) = true) : Sq l.length l ∧ ∀ i j, i < l.length → j < l.length → -20 ≤ mat l i j ∧ mat l i j ≤ 20 := by
 have hr : ∀ i, i < l.length → (rd_L2 l (i : Int)).length = l.length ∧ (rd_L2 l (i : Int)).all fit20 = true := by
  intro i hi
  have := List.all_eq_true.1 hg _ (List.getElem_mem hi)
  rw [← rl_lt hi] at this
  unfold goodRow at this
  rw [Bool.and_eq_true, decide_eq_true_iff] at this
  exact this
 refine ⟨⟨rfl, fun i hi => (hr i hi).1⟩, fun i j hi hj => ?_⟩
 have := List.all_eq_true.1 (hr i hi).2 _ (rd_mem (by rw [(hr i hi).1]; exact hj))
 exact of_decide_eq_true this

theorem cs_small (n : Nat) (hn : n ≤ 8) (a : Nat → Nat → Int) (ha : ∀ i j, i < n → j < n → -20 ≤ a i j ∧ a i j ≤ 20) (k : Nat) (hk : k < n) : cs n idm (ng a) k ≤ 161 := by
 have h : cs n idm (ng a) k = Sm n (fun i => (if i = k then 1 else 0) * 1) + Sm n (fun i => ab (a i k)) := by
  rw [← Sm_add]
  unfold cs
  refine Sm_congr (fun i _ => ?_)
  unfold idm ng ab
  by_cases c : i = k
  ·simp only [if_pos c]; omega
  ·simp only [if_neg c]; omega
 rw [h, Sm_pick' n (fun _ => 1) hk]
 have h2 : Sm n (fun i => ab (a i k)) ≤ n * 20 := Sm_le (fun i hi => by have := ha i k hi hk; unfold ab; omega)
 omega

theorem det_bound (n : Nat) (hn : n ≤ 8) (a : Nat → Nat → Int) (ha : ∀ i j, i < n → j < n → -20 ≤ a i j ∧ a i j ≤ 20) (m : Nat) (hm : m ≤ n) : ab ((m : Int) * ch n a m) ≤ 9223372036854775807 := by
 have h1 := ch_bound0 n a m
 have h2 : Pr n (cs n idm (ng a)) ≤ 161 ^ n := Pr_const_le n _ 161 (fun i _ => cs_nonneg n _ _ i) (fun i hi => cs_small n hn a ha i hi)
 have h3 : (161 : Int) ^ n ≤ 161 ^ 8 := by
  have : n = 0 ∨ n = 1 ∨ n = 2 ∨ n = 3 ∨ n = 4 ∨ n = 5 ∨ n = 6 ∨ n = 7 ∨ n = 8 := by omega
  rcases this with rfl | rfl | rfl | rfl | rfl | rfl | rfl | rfl | rfl <;> decide
 have h4 : (161 : Int) ^ 8 = 451447246258894081 := by decide
 rw [ab_mul]
 have h5 : ab (m : Int) ≤ 8 := by unfold ab; omega
 have h6 : ab (m : Int) * ab (ch n a m) ≤ 8 * ab (ch n a m) := Int.mul_le_mul_of_nonneg_right h5 (ab_nonneg _)
 omega

def detR (l : List (List Int)) : List Int × Int := if l.length ≤ 8 then (if l.all (goodRow l.length) = true then (trimN (chL l.length (mat l) (l.length + 1)) (l.length + 1), 0) else ([], 2)) else ([], 2)

theorem detw_is (l : List (List Int)) (hl : Mod l) : (detR l).1.length ≤ 1048576 ∧ Ev (fun k => spec_DeterminantWhole.f k l) (detR l) ∧ Ev (fun k => impl_DeterminantWhole.f k l) (detR l) := by
 have hm := hl.1
 unfold spec_DeterminantWhole.f impl_DeterminantWhole.f
 by_cases h8 : l.length ≤ 8
 ·have hb := fun hg : l.all (goodRow l.length) = true => berkowitz l.length (by omega) l (fit_all hg).1 (fun i j hi hj => by
   have := (fit_all hg).2 i j hi hj
   exact wrap_id (by omega) (by omega))
  have hf := fun hg : l.all (goodRow l.length) = true => faddeev l.length (by omega) l (fit_all hg).1 (fun k _ hk => det_bound l.length h8 (mat l) (fit_all hg).2 k hk)
  have h1 := specDW_rows l h8 _ hb l.length 0 (by omega) rfl
  have h2 := implDW_rows l h8 _ hf l.length 0 (by omega) rfl
  rw [List.drop_zero] at h1 h2
  have e9 : detR l = if l.all (goodRow l.length) = true then (trimN (chL l.length (mat l) (l.length + 1)) (l.length + 1), 0) else ([], 2) := if_pos h8
  rw [e9]
  refine ⟨?_, Ev.neg (by omega) h1, Ev.neg (by omega) h2⟩
  have : (trimN (chL l.length (mat l) (l.length + 1)) (l.length + 1)).length ≤ _ := trimN_length _ _
  rw [show (chL l.length (mat l) (l.length + 1)).length = l.length + 1 from rowOf_length _ _] at this
  split
  ·show (trimN _ _).length ≤ _
   omega
  ·simp
 ·rw [show detR l = ([], 2) from if_neg h8]
  exact ⟨by simp, Ev.pos (by omega) (Ev.now _), Ev.pos (by omega) (Ev.now _)⟩

theorem mx_nat (a b : Nat) : mx (a : Int) (b : Int) = ((max a b : Nat) : Int) := by
 unfold mx
 split <;> omega

section
variable (l m : List Int) (t : Int)

/-- The sum's number i. -/
def sm (i : Nat) : Int × Bool := more (rd l (i : Int)) t (rd m (i : Int))

def sms (n : Nat) : List Int := (List.range n).map (fun i => (sm l m t i).1)

theorem sms_length (n : Nat) : (sms l m t n).length = n := by simp [sms]

variable (hl : l.length ≤ 40) (hs : ∀ y ∈ l, -big ≤ y ∧ y ≤ big) (hm : m.length ≤ 40) (hn : ∀ y ∈ m, -big ≤ y ∧ y ≤ big) (ht : -big ≤ t ∧ t ≤ big)

theorem rd_big {xs : List Int} (hx : ∀ y ∈ xs, -big ≤ y ∧ y ≤ big) (i : Nat) : -big ≤ rd xs (i : Int) ∧ rd xs (i : Int) ≤ big := by
 by_cases h : i < xs.length
 ·exact hx _ (rd_mem h)
 ·rw [rd_ge (by omega)]; decide

include hs in
theorem sm_far {i : Nat} (h : m.length ≤ i) : sm l m t i = (rd l (i : Int), true) := by
 unfold sm more
 rw [rd_ge h, Int.mul_zero, if_pos (by decide), Int.add_zero]
 exact congrArg _ (decide_eq_true (rd_big hs i))

include hl in
theorem spec_copy (n : Nat) (hmax : n = max l.length m.length) (r : List Int × Int) (hr : ∀ xs : List Int, xs.length = n → (∀ j : Nat, rd xs (j : Int) = rd l (j : Int)) → Ev (fun k => spec_AddWhole.l1 k m t xs 0) r) :
  ∀ (d i : Nat) (xs : List Int), i + d = l.length → xs.length = n → (∀ j : Nat, rd xs (j : Int) = if j < i then rd l (j : Int) else 0) → Ev (fun k => spec_AddWhole.l0 k l m t xs (i : Int)) r := by
 intro d
 induction d with
 | zero =>
  intro i xs hi hx hv
  refine Ev.succ ?_; simp only [spec_AddWhole.l0]
  repeat (first | with_reducible exact Ev.now _ | dsimp only | refine Ev.pos (by first | omega | rfl | assumption | decide) ?_ | refine Ev.neg (by first | omega | assumption | exact Bool.false_ne_true | exact fun e => absurd e (by decide)) ?_ | simp only [bne_self_eq_false, Bool.not_true, Bool.not_false, List.length_cons, List.length_nil] | rw [wrap_id (by omega) (by omega)] | ((with_reducible refine Ev.eq (congrArg some ?_)); rfl))
  refine hr xs hx (fun j => ?_)
  rw [hv j]
  split
  ·rfl
  ·exact (rd_ge (by omega)).symm
 | succ d ih =>
  intro i xs hi hx hv
  refine Ev.succ ?_; simp only [spec_AddWhole.l0]
  rw [wrap_succ (by omega)]
  repeat (first | with_reducible exact Ev.now _ | dsimp only | refine Ev.pos (by first | omega | rfl | assumption | decide) ?_ | refine Ev.neg (by first | omega | assumption | exact Bool.false_ne_true | exact fun e => absurd e (by decide)) ?_ | simp only [bne_self_eq_false, Bool.not_true, Bool.not_false, List.length_cons, List.length_nil] | rw [wrap_id (by omega) (by omega)] | ((with_reducible refine Ev.eq (congrArg some ?_)); rfl))
  refine ih (i + 1) _ (by omega) (by simpa using hx) (fun j => ?_)
  rw [Int.toNat_natCast, rd_set (by omega), hv j]
  by_cases e : j = i
  ·subst e; rw [if_pos rfl, if_pos (by omega)]
  ·rw [if_neg e]
   by_cases e2 : j < i
   ·rw [if_pos e2, if_pos (by omega)]
   ·rw [if_neg e2, if_neg (by omega)]

include hl hs hm hn ht in
theorem add_spec_good (n : Nat) (hmax : n = max l.length m.length) (hok : ∀ i, i < n → (sm l m t i).2 = true) :
  ∀ (d i : Nat) (xs : List Int), i + d = m.length → xs.length = n → (∀ j : Nat, rd xs (j : Int) = if j < i then (sm l m t j).1 else rd l (j : Int)) → Ev (fun k => spec_AddWhole.l1 k m t xs (i : Int)) (trimN (sms l m t n) n, 0) := by
 intro d
 induction d with
 | zero =>
  intro i xs hi hx hv
  refine Ev.succ ?_; simp only [spec_AddWhole.l1]
  have e : xs = sms l m t n := by
   refine list_ext_rd (by rw [hx, sms_length]) (fun j hj => ?_)
   rw [hv j, sms, rd_map_range _ (by omega)]
   split
   ·rfl
   ·rw [sm_far l m t hs (by omega)]
  subst e
  have := specTrim (sms l m t n) (by omega)
  rw [hx] at this
  repeat (first | with_reducible exact Ev.now _ | dsimp only | with_reducible refine Ev.bind (this) ?_ | refine Ev.pos (by first | omega | rfl | assumption | decide) ?_ | refine Ev.neg (by first | omega | assumption | exact Bool.false_ne_true | exact fun e => absurd e (by decide)) ?_ | simp only [bne_self_eq_false, Bool.not_true, Bool.not_false, List.length_cons, List.length_nil] | rw [wrap_id (by omega) (by omega)] | with_reducible exact (this) | ((with_reducible refine Ev.eq (congrArg some ?_)); rfl))
 | succ d ih =>
  intro i xs hi hx hv
  refine Ev.succ ?_; simp only [spec_AddWhole.l1]
  have h2 : (more (rd l (i : Int)) t (rd m (i : Int))).2 = true := hok i (by omega)
  rw [wrap_succ (by omega), hv i, if_neg (by omega), specMore (rd_big hs i) ht (rd_big hn i)]
  repeat (first | with_reducible exact Ev.now _ | dsimp only | with_reducible refine Ev.bind (Ev.now _) ?_ | refine Ev.pos (by first | omega | rfl | assumption | decide) ?_ | refine Ev.neg (by first | omega | assumption | exact Bool.false_ne_true | exact fun e => absurd e (by decide)) ?_ | simp only [bne_self_eq_false, Bool.not_true, Bool.not_false, List.length_cons, List.length_nil] | rw [wrap_id (by omega) (by omega)] | with_reducible exact (Ev.now _) | ((with_reducible refine Ev.eq (congrArg some ?_)); rfl))
  refine ih (i + 1) _ (by omega) (by simpa using hx) (fun j => ?_)
  rw [Int.toNat_natCast, rd_set (by omega), hv j]
  by_cases e : j = i
  ·subst e; rw [if_pos rfl, if_pos (by omega)]; rfl
  ·rw [if_neg e]
   by_cases e2 : j < i
   ·rw [if_pos e2, if_pos (by omega)]
   ·rw [if_neg e2, if_neg (by omega)]

include hs hm hn ht in
theorem add_spec_bad (n : Nat) (hmax : n = max l.length m.length) :
  ∀ (d i : Nat) (xs : List Int), i + d = m.length → xs.length = n → (∀ j : Nat, i ≤ j → rd xs (j : Int) = rd l (j : Int)) → (∃ j, i ≤ j ∧ j < n ∧ ¬ (sm l m t j).2 = true) → Ev (fun k => spec_AddWhole.l1 k m t xs (i : Int)) ([], 3) := by
 intro d
 induction d with
 | zero =>
  intro i xs hi hx hv h
  obtain ⟨j, h1, h2, h3⟩ := h
  rw [sm_far l m t hs (by omega)] at h3
  exact absurd rfl h3
 | succ d ih =>
  intro i xs hi hx hv h
  refine Ev.succ ?_; simp only [spec_AddWhole.l1]
  rw [wrap_succ (by omega), hv i (by omega), specMore (rd_big hs i) ht (rd_big hn i)]
  by_cases e : (more (rd l (i : Int)) t (rd m (i : Int))).2 = true
  ·repeat (first | with_reducible exact Ev.now _ | dsimp only | with_reducible refine Ev.bind (Ev.now _) ?_ | refine Ev.pos (by first | omega | rfl | assumption | decide) ?_ | refine Ev.neg (by first | omega | assumption | exact Bool.false_ne_true | exact fun e => absurd e (by decide)) ?_ | simp only [bne_self_eq_false, Bool.not_true, Bool.not_false, List.length_cons, List.length_nil] | rw [wrap_id (by omega) (by omega)] | with_reducible exact (Ev.now _) | ((with_reducible refine Ev.eq (congrArg some ?_)); rfl))
   refine ih (i + 1) _ (by omega) (by simpa using hx) (fun j hj => ?_) ?_
   ·rw [Int.toNat_natCast, rd_set (by omega), if_neg (by omega)]
    exact hv j (by omega)
   ·obtain ⟨j, h1, h2, h3⟩ := h
    refine ⟨j, ?_, h2, h3⟩
    rcases Nat.lt_or_eq_of_le h1 with h1 | h1
    ·exact h1
    ·subst h1; exact absurd e h3
  ·repeat (first | with_reducible exact Ev.now _ | dsimp only | with_reducible refine Ev.bind (Ev.now _) ?_ | refine Ev.pos (by first | omega | rfl | assumption | decide) ?_ | refine Ev.neg (by first | omega | assumption | exact Bool.false_ne_true | exact fun e => absurd e (by decide)) ?_ | simp only [bne_self_eq_false, Bool.not_true, Bool.not_false, List.length_cons, List.length_nil] | rw [wrap_id (by omega) (by omega)] | with_reducible exact (Ev.now _) | ((with_reducible refine Ev.eq (congrArg some ?_)); rfl))

theorem implAt (xs : List Int) (i : Nat) : impl_at.f xs (i : Int) = some (rd xs (i : Int)) := by
 unfold impl_at.f
 by_cases h : i < xs.length
 ·rw [if_pos (by omega), if_pos (by omega)]
 ·rw [if_neg (by omega), rd_ge (by omega)]

include hl hs hm hn ht in
theorem add_impl_good (n : Nat) (hmax : n = max l.length m.length) (hok : ∀ i, i < n → (sm l m t i).2 = true) :
  ∀ (d i : Nat), i + d = n → Ev (fun k => impl_AddWhole.l0 k l m t (sms l m t i) (n : Int) (i : Int)) (trimN (sms l m t n) n, 0) := by
 intro d
 induction d with
 | zero =>
  intro i hi
  refine Ev.succ ?_; simp only [impl_AddWhole.l0]
  have e : i = n := by omega
  subst e
  have := implTrim (sms l m t i) (by rw [sms_length]; omega)
  rw [sms_length] at this
  repeat (first | with_reducible exact Ev.now _ | dsimp only | with_reducible refine Ev.bind (this) ?_ | refine Ev.pos (by first | omega | rfl | assumption | decide) ?_ | refine Ev.neg (by first | omega | assumption | exact Bool.false_ne_true | exact fun e => absurd e (by decide)) ?_ | simp only [bne_self_eq_false, Bool.not_true, Bool.not_false, List.length_cons, List.length_nil] | rw [wrap_id (by omega) (by omega)] | with_reducible exact (this) | ((with_reducible refine Ev.eq (congrArg some ?_)); rfl))
 | succ d ih =>
  intro i hi
  refine Ev.succ ?_; simp only [impl_AddWhole.l0]
  have h2 : (more (rd l (i : Int)) t (rd m (i : Int))).2 = true := hok i (by omega)
  have := sms_length l m t i
  rw [wrap_succ (by omega), implAt, implAt]
  repeat (first | with_reducible exact Ev.now _ | dsimp only | with_reducible refine Ev.bind (Ev.now _) ?_ | with_reducible refine Ev.bind (implTimes (rd_big hs i) ht (rd_big hn i)) ?_ | refine Ev.pos (by first | omega | rfl | assumption | decide) ?_ | refine Ev.neg (by first | omega | assumption | exact Bool.false_ne_true | exact fun e => absurd e (by decide)) ?_ | simp only [bne_self_eq_false, Bool.not_true, Bool.not_false, List.length_cons, List.length_nil] | rw [wrap_id (by omega) (by omega)] | with_reducible exact (Ev.now _) | with_reducible exact (implTimes (rd_big hs i) ht (rd_big hn i)) | ((with_reducible refine Ev.eq (congrArg some ?_)); rfl))
  have := ih (i + 1) (by omega)
  rw [sms, map_range_succ] at this
  exact this

include hl hs hm hn ht in
theorem add_impl_bad (n : Nat) (hmax : n = max l.length m.length) :
  ∀ (d i : Nat) (xs : List Int), i + d = n → xs.length ≤ i → (∃ j, i ≤ j ∧ j < n ∧ ¬ (sm l m t j).2 = true) → Ev (fun k => impl_AddWhole.l0 k l m t xs (n : Int) (i : Int)) ([], 3) := by
 intro d
 induction d with
 | zero =>
  intro i xs hi hx h
  obtain ⟨j, h1, h2, h3⟩ := h
  omega
 | succ d ih =>
  intro i xs hi hx h
  refine Ev.succ ?_; simp only [impl_AddWhole.l0]
  rw [wrap_succ (by omega), implAt, implAt]
  by_cases e : (more (rd l (i : Int)) t (rd m (i : Int))).2 = true
  ·repeat (first | with_reducible exact Ev.now _ | dsimp only | with_reducible refine Ev.bind (Ev.now _) ?_ | with_reducible refine Ev.bind (implTimes (rd_big hs i) ht (rd_big hn i)) ?_ | refine Ev.pos (by first | omega | rfl | assumption | decide) ?_ | refine Ev.neg (by first | omega | assumption | exact Bool.false_ne_true | exact fun e => absurd e (by decide)) ?_ | simp only [bne_self_eq_false, Bool.not_true, Bool.not_false, List.length_cons, List.length_nil] | rw [wrap_id (by omega) (by omega)] | with_reducible exact (Ev.now _) | with_reducible exact (implTimes (rd_big hs i) ht (rd_big hn i)) | ((with_reducible refine Ev.eq (congrArg some ?_)); rfl))
   refine ih (i + 1) _ (by omega) (by simp; omega) ?_
   obtain ⟨j, h1, h2, h3⟩ := h
   refine ⟨j, ?_, h2, h3⟩
   rcases Nat.lt_or_eq_of_le h1 with h1 | h1
   ·exact h1
   ·subst h1; exact absurd e h3
  ·repeat (first | with_reducible exact Ev.now _ | dsimp only | with_reducible refine Ev.bind (Ev.now _) ?_ | with_reducible refine Ev.bind (implTimes (rd_big hs i) ht (rd_big hn i)) ?_ | refine Ev.pos (by first | omega | rfl | assumption | decide) ?_ | refine Ev.neg (by first | omega | assumption | exact Bool.false_ne_true | exact fun e => absurd e (by decide)) ?_ | simp only [bne_self_eq_false, Bool.not_true, Bool.not_false, List.length_cons, List.length_nil] | rw [wrap_id (by omega) (by omega)] | with_reducible exact (Ev.now _) | with_reducible exact (implTimes (rd_big hs i) ht (rd_big hn i)) | ((with_reducible refine Ev.eq (congrArg some ?_)); rfl))

end

theorem add_same (l m : List Int) (t : Int) (hl : l.length ≤ 1048576) (hm : m.length ≤ 1048576) : ∃ r : List Int × Int, r.1.length ≤ 1048576 ∧ Ev (fun k => spec_AddWhole.f k l m t) r ∧ Ev (fun k => impl_AddWhole.f k l m t) r := by
 unfold spec_AddWhole.f impl_AddWhole.f
 have h1 := specPoly l hl
 have h1' := specPoly m hm
 have h2 := areWhole2 l m hl hm
 by_cases hw : whole l = true
 ·rw [hw] at h1 h2
  by_cases hw' : whole m = true
  ·rw [hw'] at h1' h2
   rw [Bool.and_true] at h2
   have hl40 := whole_length hw
   have hm40 := whole_length hw'
   have hs := whole_small hw
   have hn := whole_small hw'
   by_cases hx : -1000 ≤ t ∧ t ≤ 1000
   ·have ht : -big ≤ t ∧ t ≤ big := by unfold big; omega
    have hwi := implWithin t (-1000) 1000
    have hsi := specIn t (-1000) 1000
    rw [decide_eq_true hx] at hwi hsi
    obtain ⟨n, hmax⟩ : ∃ n, n = max l.length m.length := ⟨_, rfl⟩
    have hz : ∀ j : Nat, rd (List.replicate n 0) (j : Int) = if j < 0 then rd l (j : Int) else 0 := fun j => by
     rw [if_neg (by omega), rd_replicate]
    by_cases hok : ∀ i, i < n → (sm l m t i).2 = true
    ·refine ⟨(trimN (sms l m t n) n, 0), ?_, ?_, ?_⟩
     ·have := trimN_length (sms l m t n) n
      rw [sms_length] at this
      simp only
      omega
     ·repeat (first | with_reducible exact Ev.now _ | dsimp only | with_reducible refine Ev.bind (h1) ?_ | with_reducible refine Ev.bind (h1') ?_ | refine Ev.pos (by first | omega | rfl | assumption | decide) ?_ | refine Ev.neg (by first | omega | assumption | exact Bool.false_ne_true | exact fun e => absurd e (by decide)) ?_ | simp only [bne_self_eq_false, Bool.not_true, Bool.not_false, List.length_cons, List.length_nil] | rw [wrap_id (by omega) (by omega)] | with_reducible exact (h1) | with_reducible exact (h1') | ((with_reducible refine Ev.eq (congrArg some ?_)); rfl))
      refine Ev.succ ?_; simp only [spec_AddWhole.j0]
      rw [mx_nat, ← hmax, Int.toNat_natCast]
      repeat (first | with_reducible exact Ev.now _ | dsimp only | with_reducible refine Ev.bind (Ev.eq hsi) ?_ | refine Ev.pos (by first | omega | rfl | assumption | decide) ?_ | refine Ev.neg (by first | omega | assumption | exact Bool.false_ne_true | exact fun e => absurd e (by decide)) ?_ | simp only [bne_self_eq_false, Bool.not_true, Bool.not_false, List.length_cons, List.length_nil] | rw [wrap_id (by omega) (by omega)] | with_reducible exact (Ev.eq hsi) | ((with_reducible refine Ev.eq (congrArg some ?_)); rfl))
      refine spec_copy l m t hl40 n hmax _ (fun xs hx hv => ?_) l.length 0 _ (by omega) (by simp) hz
      exact add_spec_good l m t hl40 hs hm40 hn ht n hmax hok m.length 0 xs (by omega) hx (fun j => by rw [if_neg (by omega)]; exact hv j)
     ·rw [mx_nat, ← hmax]
      repeat (first | with_reducible exact Ev.now _ | dsimp only | with_reducible refine Ev.bind (h2) ?_ | with_reducible refine Ev.bind (Ev.eq hwi) ?_ | refine Ev.pos (by first | omega | rfl | assumption | decide) ?_ | refine Ev.neg (by first | omega | assumption | exact Bool.false_ne_true | exact fun e => absurd e (by decide)) ?_ | simp only [bne_self_eq_false, Bool.not_true, Bool.not_false, List.length_cons, List.length_nil] | rw [wrap_id (by omega) (by omega)] | with_reducible exact (h2) | with_reducible exact (Ev.eq hwi) | ((with_reducible refine Ev.eq (congrArg some ?_)); rfl))
      exact add_impl_good l m t hl40 hs hm40 hn ht n hmax hok n 0 (by omega)
    ·have hbad : ∃ i : Nat, i < n ∧ ¬ (sm l m t i).2 = true := by
      apply Classical.byContradiction
      intro hc
      exact hok (fun i hi => Classical.byContradiction (fun e => hc ⟨i, hi, e⟩))
     obtain ⟨i, hi, hb⟩ := hbad
     refine ⟨([], 3), by simp, ?_, ?_⟩
     ·repeat (first | with_reducible exact Ev.now _ | dsimp only | with_reducible refine Ev.bind (h1) ?_ | with_reducible refine Ev.bind (h1') ?_ | refine Ev.pos (by first | omega | rfl | assumption | decide) ?_ | refine Ev.neg (by first | omega | assumption | exact Bool.false_ne_true | exact fun e => absurd e (by decide)) ?_ | simp only [bne_self_eq_false, Bool.not_true, Bool.not_false, List.length_cons, List.length_nil] | rw [wrap_id (by omega) (by omega)] | with_reducible exact (h1) | with_reducible exact (h1') | ((with_reducible refine Ev.eq (congrArg some ?_)); rfl))
      refine Ev.succ ?_; simp only [spec_AddWhole.j0]
      rw [mx_nat, ← hmax, Int.toNat_natCast]
      repeat (first | with_reducible exact Ev.now _ | dsimp only | with_reducible refine Ev.bind (Ev.eq hsi) ?_ | refine Ev.pos (by first | omega | rfl | assumption | decide) ?_ | refine Ev.neg (by first | omega | assumption | exact Bool.false_ne_true | exact fun e => absurd e (by decide)) ?_ | simp only [bne_self_eq_false, Bool.not_true, Bool.not_false, List.length_cons, List.length_nil] | rw [wrap_id (by omega) (by omega)] | with_reducible exact (Ev.eq hsi) | ((with_reducible refine Ev.eq (congrArg some ?_)); rfl))
      refine spec_copy l m t hl40 n hmax _ (fun xs hx hv => ?_) l.length 0 _ (by omega) (by simp) hz
      exact add_spec_bad l m t hs hm40 hn ht n hmax m.length 0 xs (by omega) hx (fun j _ => hv j) ⟨i, by omega, hi, hb⟩
     ·rw [mx_nat, ← hmax]
      repeat (first | with_reducible exact Ev.now _ | dsimp only | with_reducible refine Ev.bind (h2) ?_ | with_reducible refine Ev.bind (Ev.eq hwi) ?_ | refine Ev.pos (by first | omega | rfl | assumption | decide) ?_ | refine Ev.neg (by first | omega | assumption | exact Bool.false_ne_true | exact fun e => absurd e (by decide)) ?_ | simp only [bne_self_eq_false, Bool.not_true, Bool.not_false, List.length_cons, List.length_nil] | rw [wrap_id (by omega) (by omega)] | with_reducible exact (h2) | with_reducible exact (Ev.eq hwi) | ((with_reducible refine Ev.eq (congrArg some ?_)); rfl))
      exact add_impl_bad l m t hl40 hs hm40 hn ht n hmax n 0 [] (by omega) (by simp) ⟨i, by omega, hi, hb⟩
   ·have hwi := implWithin t (-1000) 1000
    have hsi := specIn t (-1000) 1000
    rw [decide_eq_false hx] at hwi hsi
    refine ⟨([], 2), by simp, ?_, ?_⟩
    ·repeat (first | with_reducible exact Ev.now _ | dsimp only | with_reducible refine Ev.bind (h1) ?_ | with_reducible refine Ev.bind (h1') ?_ | refine Ev.pos (by first | omega | rfl | assumption | decide) ?_ | refine Ev.neg (by first | omega | assumption | exact Bool.false_ne_true | exact fun e => absurd e (by decide)) ?_ | simp only [bne_self_eq_false, Bool.not_true, Bool.not_false, List.length_cons, List.length_nil] | rw [wrap_id (by omega) (by omega)] | with_reducible exact (h1) | with_reducible exact (h1') | ((with_reducible refine Ev.eq (congrArg some ?_)); rfl))
     refine Ev.succ ?_; simp only [spec_AddWhole.j0]
     repeat (first | with_reducible exact Ev.now _ | dsimp only | with_reducible refine Ev.bind (Ev.eq hsi) ?_ | refine Ev.pos (by first | omega | rfl | assumption | decide) ?_ | refine Ev.neg (by first | omega | assumption | exact Bool.false_ne_true | exact fun e => absurd e (by decide)) ?_ | simp only [bne_self_eq_false, Bool.not_true, Bool.not_false, List.length_cons, List.length_nil] | rw [wrap_id (by omega) (by omega)] | with_reducible exact (Ev.eq hsi) | ((with_reducible refine Ev.eq (congrArg some ?_)); rfl))
    ·repeat (first | with_reducible exact Ev.now _ | dsimp only | with_reducible refine Ev.bind (h2) ?_ | with_reducible refine Ev.bind (Ev.eq hwi) ?_ | refine Ev.pos (by first | omega | rfl | assumption | decide) ?_ | refine Ev.neg (by first | omega | assumption | exact Bool.false_ne_true | exact fun e => absurd e (by decide)) ?_ | simp only [bne_self_eq_false, Bool.not_true, Bool.not_false, List.length_cons, List.length_nil] | rw [wrap_id (by omega) (by omega)] | with_reducible exact (h2) | with_reducible exact (Ev.eq hwi) | ((with_reducible refine Ev.eq (congrArg some ?_)); rfl))
  ·rw [Bool.not_eq_true] at hw'
   rw [hw'] at h1' h2
   rw [Bool.and_false] at h2
   refine ⟨([], 1), by simp, ?_, ?_⟩
   ·repeat (first | with_reducible exact Ev.now _ | dsimp only | with_reducible refine Ev.bind (h1) ?_ | with_reducible refine Ev.bind (h1') ?_ | refine Ev.pos (by first | omega | rfl | assumption | decide) ?_ | refine Ev.neg (by first | omega | assumption | exact Bool.false_ne_true | exact fun e => absurd e (by decide)) ?_ | simp only [bne_self_eq_false, Bool.not_true, Bool.not_false, List.length_cons, List.length_nil] | rw [wrap_id (by omega) (by omega)] | with_reducible exact (h1) | with_reducible exact (h1') | ((with_reducible refine Ev.eq (congrArg some ?_)); rfl))
    refine Ev.succ ?_; simp only [spec_AddWhole.j0]
    repeat (first | with_reducible exact Ev.now _ | dsimp only | refine Ev.pos (by first | omega | rfl | assumption | decide) ?_ | refine Ev.neg (by first | omega | assumption | exact Bool.false_ne_true | exact fun e => absurd e (by decide)) ?_ | simp only [bne_self_eq_false, Bool.not_true, Bool.not_false, List.length_cons, List.length_nil] | rw [wrap_id (by omega) (by omega)] | ((with_reducible refine Ev.eq (congrArg some ?_)); rfl))
   ·repeat (first | with_reducible exact Ev.now _ | dsimp only | with_reducible refine Ev.bind (h2) ?_ | refine Ev.pos (by first | omega | rfl | assumption | decide) ?_ | refine Ev.neg (by first | omega | assumption | exact Bool.false_ne_true | exact fun e => absurd e (by decide)) ?_ | simp only [bne_self_eq_false, Bool.not_true, Bool.not_false, List.length_cons, List.length_nil] | rw [wrap_id (by omega) (by omega)] | with_reducible exact (h2) | ((with_reducible refine Ev.eq (congrArg some ?_)); rfl))
 ·rw [Bool.not_eq_true] at hw
  rw [hw] at h1 h2
  rw [Bool.false_and] at h2
  refine ⟨([], 1), by simp, ?_, ?_⟩
  ·repeat (first | with_reducible exact Ev.now _ | dsimp only | with_reducible refine Ev.bind (h1) ?_ | refine Ev.pos (by first | omega | rfl | assumption | decide) ?_ | refine Ev.neg (by first | omega | assumption | exact Bool.false_ne_true | exact fun e => absurd e (by decide)) ?_ | simp only [bne_self_eq_false, Bool.not_true, Bool.not_false, List.length_cons, List.length_nil] | rw [wrap_id (by omega) (by omega)] | with_reducible exact (h1) | ((with_reducible refine Ev.eq (congrArg some ?_)); rfl))
   refine Ev.succ ?_; simp only [spec_AddWhole.j0]
   repeat (first | with_reducible exact Ev.now _ | dsimp only | refine Ev.pos (by first | omega | rfl | assumption | decide) ?_ | refine Ev.neg (by first | omega | assumption | exact Bool.false_ne_true | exact fun e => absurd e (by decide)) ?_ | simp only [bne_self_eq_false, Bool.not_true, Bool.not_false, List.length_cons, List.length_nil] | rw [wrap_id (by omega) (by omega)] | ((with_reducible refine Ev.eq (congrArg some ?_)); rfl))
  ·repeat (first | with_reducible exact Ev.now _ | dsimp only | with_reducible refine Ev.bind (h2) ?_ | refine Ev.pos (by first | omega | rfl | assumption | decide) ?_ | refine Ev.neg (by first | omega | assumption | exact Bool.false_ne_true | exact fun e => absurd e (by decide)) ?_ | simp only [bne_self_eq_false, Bool.not_true, Bool.not_false, List.length_cons, List.length_nil] | rw [wrap_id (by omega) (by omega)] | with_reducible exact (h2) | ((with_reducible refine Ev.eq (congrArg some ?_)); rfl))
theorem more_val {b c : Int} (h : (more 0 b c).2 = true) : (more 0 b c).1 = b * c ∧ wrap64 (b * c) = b * c := by
 unfold more at h ⊢
 by_cases g : -big ≤ b * c ∧ b * c ≤ big
 ·rw [if_pos g]
  refine ⟨Int.zero_add _, ?_⟩
  unfold big at g
  exact wrap_id (by omega) (by omega)
 ·rw [if_neg g] at h
  cases h

/-- The first n numbers of the derivative. -/
def dl (l : List Int) (n : Nat) : List Int := (List.range n).map (fun i => ((i + 1 : Nat) : Int) * rd l ((i + 1 : Nat) : Int))

theorem dl_length (l : List Int) (n : Nat) : (dl l n).length = n := by simp [dl]

theorem dl_succ (l : List Int) (n : Nat) : dl l (n + 1) = dl l n ++ [((n + 1 : Nat) : Int) * rd l ((n + 1 : Nat) : Int)] := by
 simp [dl, List.range_succ]

section
variable (l : List Int) (hl : l.length ≤ 40) (hs : ∀ y ∈ l, -big ≤ y ∧ y ≤ big)
include hl hs

omit hl in
theorem at_big {i : Nat} (h : i < l.length) : -big ≤ rd l (i : Int) ∧ rd l (i : Int) ≤ big := hs _ (rd_mem h)

theorem check_good (hok : ∀ i : Nat, i < l.length → (more 0 i (rd l i)).2 = true) (r : List Int × Int) (hr : Ev (fun k => (spec_l01Derive.f k l).bind fun t => some (t, 0)) r) : ∀ (d i : Nat), i + d = l.length → Ev (fun k => spec_DerivativeOfWhole.l0 k l (i : Int)) r := by
 intro d
 induction d with
 | zero =>
  intro i hi
  refine Ev.succ ?_; simp only [spec_DerivativeOfWhole.l0]
  refine Ev.neg (by omega) ?_
  obtain ⟨K, h⟩ := hr
  exact ⟨K, fun k hk => h k hk⟩
 | succ d ih =>
  intro i hi
  refine Ev.succ ?_; simp only [spec_DerivativeOfWhole.l0]
  rw [wrap_succ (by omega), specMore (a := 0) (by decide) (by unfold big; omega) (at_big l hs (by omega))]
  have := hok i (by omega)
  repeat (first | with_reducible exact Ev.now _ | dsimp only | with_reducible refine Ev.bind (Ev.now _) ?_ | refine Ev.pos (by first | omega | rfl | assumption | decide) ?_ | refine Ev.neg (by first | omega | assumption | exact Bool.false_ne_true | exact fun e => absurd e (by decide)) ?_ | simp only [bne_self_eq_false, Bool.not_true, Bool.not_false, List.length_cons, List.length_nil] | rw [wrap_id (by omega) (by omega)] | with_reducible exact (Ev.now _) | ((with_reducible refine Ev.eq (congrArg some ?_)); rfl))
  exact ih (i + 1) (by omega)

theorem check_bad : ∀ (d i : Nat), i + d = l.length → (∃ j : Nat, i ≤ j ∧ j < l.length ∧ ¬ (more 0 j (rd l j)).2 = true) → Ev (fun k => spec_DerivativeOfWhole.l0 k l (i : Int)) ([], 3) := by
 intro d
 induction d with
 | zero =>
  intro i hi h
  obtain ⟨j, h1, h2, h3⟩ := h
  omega
 | succ d ih =>
  intro i hi h
  refine Ev.succ ?_; simp only [spec_DerivativeOfWhole.l0]
  rw [wrap_succ (by omega), specMore (a := 0) (by decide) (by unfold big; omega) (at_big l hs (by omega))]
  by_cases e : (more 0 i (rd l i)).2 = true
  ·repeat (first | with_reducible exact Ev.now _ | dsimp only | with_reducible refine Ev.bind (Ev.now _) ?_ | refine Ev.pos (by first | omega | rfl | assumption | decide) ?_ | refine Ev.neg (by first | omega | assumption | exact Bool.false_ne_true | exact fun e => absurd e (by decide)) ?_ | simp only [bne_self_eq_false, Bool.not_true, Bool.not_false, List.length_cons, List.length_nil] | rw [wrap_id (by omega) (by omega)] | with_reducible exact (Ev.now _) | ((with_reducible refine Ev.eq (congrArg some ?_)); rfl))
   refine ih (i + 1) (by omega) ?_
   obtain ⟨j, h1, h2, h3⟩ := h
   refine ⟨j, ?_, h2, h3⟩
   rcases Nat.lt_or_eq_of_le h1 with h1 | h1
   ·exact h1
   ·subst h1; exact absurd e h3
  ·repeat (first | with_reducible exact Ev.now _ | dsimp only | with_reducible refine Ev.bind (Ev.now _) ?_ | refine Ev.pos (by first | omega | rfl | assumption | decide) ?_ | refine Ev.neg (by first | omega | assumption | exact Bool.false_ne_true | exact fun e => absurd e (by decide)) ?_ | simp only [bne_self_eq_false, Bool.not_true, Bool.not_false, List.length_cons, List.length_nil] | rw [wrap_id (by omega) (by omega)] | with_reducible exact (Ev.now _) | ((with_reducible refine Ev.eq (congrArg some ?_)); rfl))

omit hs in
theorem derive_loop (hok : ∀ i : Nat, i < l.length → (more 0 i (rd l i)).2 = true) : ∀ (d j : Nat), j + d = l.length - 1 → Ev (fun k => spec_l01Derive.l0 k l (dl l j) ((j + 1 : Nat) : Int)) (trimN (dl l (l.length - 1)) (l.length - 1)) := by
 intro d
 induction d with
 | zero =>
  intro j hj
  refine Ev.succ ?_; simp only [spec_l01Derive.l0]
  have e : j = l.length - 1 := by omega
  subst e
  have := specTrim (dl l (l.length - 1)) (by rw [dl_length]; omega)
  rw [dl_length] at this
  repeat (first | with_reducible exact Ev.now _ | dsimp only | with_reducible refine Ev.bind (this) ?_ | refine Ev.pos (by first | omega | rfl | assumption | decide) ?_ | refine Ev.neg (by first | omega | assumption | exact Bool.false_ne_true | exact fun e => absurd e (by decide)) ?_ | simp only [bne_self_eq_false, Bool.not_true, Bool.not_false, List.length_cons, List.length_nil] | rw [wrap_id (by omega) (by omega)] | with_reducible exact (this) | ((with_reducible refine Ev.eq (congrArg some ?_)); rfl))
 | succ d ih =>
  intro j hj
  refine Ev.succ ?_; simp only [spec_l01Derive.l0]
  rw [wrap_succ (by omega), (more_val (hok (j + 1) (by omega))).2]
  have := dl_length l j
  repeat (first | with_reducible exact Ev.now _ | dsimp only | refine Ev.pos (by first | omega | rfl | assumption | decide) ?_ | refine Ev.neg (by first | omega | assumption | exact Bool.false_ne_true | exact fun e => absurd e (by decide)) ?_ | simp only [bne_self_eq_false, Bool.not_true, Bool.not_false, List.length_cons, List.length_nil] | rw [wrap_id (by omega) (by omega)] | ((with_reducible refine Ev.eq (congrArg some ?_)); rfl))
  have := ih (j + 1) (by omega)
  rw [dl_succ] at this
  exact this

theorem der_good (hok : ∀ i : Nat, i < l.length → (more 0 i (rd l i)).2 = true) : ∀ (d j : Nat), j + d = l.length - 1 → Ev (fun k => impl_derivative.l0 k l (dl l j) ((j + 1 : Nat) : Int)) (dl l (l.length - 1), true) := by
 intro d
 induction d with
 | zero =>
  intro j hj
  refine Ev.succ ?_; simp only [impl_derivative.l0]
  have e : j = l.length - 1 := by omega
  subst e
  repeat (first | with_reducible exact Ev.now _ | dsimp only | refine Ev.pos (by first | omega | rfl | assumption | decide) ?_ | refine Ev.neg (by first | omega | assumption | exact Bool.false_ne_true | exact fun e => absurd e (by decide)) ?_ | simp only [bne_self_eq_false, Bool.not_true, Bool.not_false, List.length_cons, List.length_nil] | rw [wrap_id (by omega) (by omega)] | ((with_reducible refine Ev.eq (congrArg some ?_)); rfl))
 | succ d ih =>
  intro j hj
  refine Ev.succ ?_; simp only [impl_derivative.l0]
  have h1 := hok (j + 1) (by omega)
  rw [wrap_succ (by omega)]
  have := dl_length l j
  have hm := implTimes (a := 0) (b := ((j + 1 : Nat) : Int)) (c := rd l ((j + 1 : Nat) : Int)) (by decide) (by unfold big; omega) (at_big l hs (by omega))
  repeat (first | with_reducible exact Ev.now _ | dsimp only | with_reducible refine Ev.bind (hm) ?_ | refine Ev.pos (by first | omega | rfl | assumption | decide) ?_ | refine Ev.neg (by first | omega | assumption | exact Bool.false_ne_true | exact fun e => absurd e (by decide)) ?_ | simp only [bne_self_eq_false, Bool.not_true, Bool.not_false, List.length_cons, List.length_nil] | rw [wrap_id (by omega) (by omega)] | with_reducible exact (hm) | ((with_reducible refine Ev.eq (congrArg some ?_)); rfl))
  rw [(more_val h1).1, ← dl_succ]
  exact ih (j + 1) (by omega)

theorem der_bad : ∀ (d j : Nat), j + d = l.length - 1 → (∃ i : Nat, j + 1 ≤ i ∧ i < l.length ∧ ¬ (more 0 i (rd l i)).2 = true) → ∀ x : List Int, x.length ≤ j → Ev (fun k => impl_derivative.l0 k l x ((j + 1 : Nat) : Int)) ([], false) := by
 intro d
 induction d with
 | zero =>
  intro j hj h
  obtain ⟨i, h1, h2, h3⟩ := h
  omega
 | succ d ih =>
  intro j hj h x hx
  refine Ev.succ ?_; simp only [impl_derivative.l0]
  rw [wrap_succ (by omega)]
  have hm := implTimes (a := 0) (b := ((j + 1 : Nat) : Int)) (c := rd l ((j + 1 : Nat) : Int)) (by decide) (by unfold big; omega) (at_big l hs (by omega))
  by_cases e : (more 0 ((j + 1 : Nat) : Int) (rd l ((j + 1 : Nat) : Int))).2 = true
  ·repeat (first | with_reducible exact Ev.now _ | dsimp only | with_reducible refine Ev.bind (hm) ?_ | refine Ev.pos (by first | omega | rfl | assumption | decide) ?_ | refine Ev.neg (by first | omega | assumption | exact Bool.false_ne_true | exact fun e => absurd e (by decide)) ?_ | simp only [bne_self_eq_false, Bool.not_true, Bool.not_false, List.length_cons, List.length_nil] | rw [wrap_id (by omega) (by omega)] | with_reducible exact (hm) | ((with_reducible refine Ev.eq (congrArg some ?_)); rfl))
   refine ih (j + 1) (by omega) ?_ _ (by simp; omega)
   obtain ⟨i, h1, h2, h3⟩ := h
   refine ⟨i, ?_, h2, h3⟩
   rcases Nat.lt_or_eq_of_le h1 with h1 | h1
   ·exact h1
   ·subst h1; exact absurd e h3
  ·repeat (first | with_reducible exact Ev.now _ | dsimp only | with_reducible refine Ev.bind (hm) ?_ | refine Ev.pos (by first | omega | rfl | assumption | decide) ?_ | refine Ev.neg (by first | omega | assumption | exact Bool.false_ne_true | exact fun e => absurd e (by decide)) ?_ | simp only [bne_self_eq_false, Bool.not_true, Bool.not_false, List.length_cons, List.length_nil] | rw [wrap_id (by omega) (by omega)] | with_reducible exact (hm) | ((with_reducible refine Ev.eq (congrArg some ?_)); rfl))

end

theorem trim_dl (l : List Int) (h : whole l = true) : trimN (dl l (l.length - 1)) (l.length - 1) = dl l (l.length - 1) := by
 match hn : l.length - 1 with
 | 0 => rfl
 | n + 1 =>
  unfold trimN
  have hne : l ≠ [] := fun e => by rw [e] at hn; simp at hn
  have hlast := whole_last h
  rw [List.getLast?_eq_some_getLast hne, ← last_rd l hne, show (l.length : Int) - 1 = ((n + 1 : Nat) : Int) by omega] at hlast
  have h0 : rd l ((n + 1 : Nat) : Int) ≠ 0 := fun e => hlast (by rw [e])
  have e1 : rd (dl l (n + 1)) (n : Int) = ((n + 1 : Nat) : Int) * rd l ((n + 1 : Nat) : Int) := by
   rw [rd_lt (by rw [dl_length]; omega)]
   simp [dl]
  rw [if_neg, List.take_of_length_le (by rw [dl_length]; omega)]
  rw [e1]
  exact Int.mul_ne_zero (by omega) h0

theorem der_same (l : List Int) (hl : l.length ≤ 1048576) : ∃ r : List Int × Int, r.1.length ≤ 1048576 ∧ Ev (fun k => spec_DerivativeOfWhole.f k l) r ∧ Ev (fun k => impl_DerivativeOfWhole.f k l) r := by
 unfold spec_DerivativeOfWhole.f impl_DerivativeOfWhole.f
 have h1 := specPoly l hl
 have h2 := areWhole l hl
 by_cases hw : whole l = true
 ·rw [hw] at h1 h2
  have h40 := whole_length hw
  have hs := whole_small hw
  by_cases hok : ∀ i : Nat, i < l.length → (more 0 i (rd l i)).2 = true
  ·refine ⟨(dl l (l.length - 1), 0), by have := dl_length l (l.length - 1); simp only; omega, ?_, ?_⟩
   ·repeat (first | with_reducible exact Ev.now _ | dsimp only | with_reducible refine Ev.bind (h1) ?_ | refine Ev.pos (by first | omega | rfl | assumption | decide) ?_ | refine Ev.neg (by first | omega | assumption | exact Bool.false_ne_true | exact fun e => absurd e (by decide)) ?_ | simp only [bne_self_eq_false, Bool.not_true, Bool.not_false, List.length_cons, List.length_nil] | rw [wrap_id (by omega) (by omega)] | with_reducible exact (h1) | ((with_reducible refine Ev.eq (congrArg some ?_)); rfl))
    refine check_good l h40 hs hok _ ?_ l.length 0 (by omega)
    have := derive_loop l h40 hok (l.length - 1) 0 (by omega)
    rw [trim_dl l hw] at this
    unfold spec_l01Derive.f
    exact Ev.bind this (Ev.now _)
   ·have : Ev (fun k => impl_derivative.f k l) (dl l (l.length - 1), true) := der_good l h40 hs hok (l.length - 1) 0 (by omega)
    repeat (first | with_reducible exact Ev.now _ | dsimp only | with_reducible refine Ev.bind (h2) ?_ | with_reducible refine Ev.bind (this) ?_ | refine Ev.pos (by first | omega | rfl | assumption | decide) ?_ | refine Ev.neg (by first | omega | assumption | exact Bool.false_ne_true | exact fun e => absurd e (by decide)) ?_ | simp only [bne_self_eq_false, Bool.not_true, Bool.not_false, List.length_cons, List.length_nil] | rw [wrap_id (by omega) (by omega)] | with_reducible exact (h2) | with_reducible exact (this) | ((with_reducible refine Ev.eq (congrArg some ?_)); rfl))
  ·have hbad : ∃ i : Nat, i < l.length ∧ ¬ (more 0 i (rd l i)).2 = true := by
    apply Classical.byContradiction
    intro hc
    exact hok (fun i hi => Classical.byContradiction (fun e => hc ⟨i, hi, e⟩))
   obtain ⟨i, hi, hb⟩ := hbad
   refine ⟨([], 3), by simp, ?_, ?_⟩
   ·repeat (first | with_reducible exact Ev.now _ | dsimp only | with_reducible refine Ev.bind (h1) ?_ | refine Ev.pos (by first | omega | rfl | assumption | decide) ?_ | refine Ev.neg (by first | omega | assumption | exact Bool.false_ne_true | exact fun e => absurd e (by decide)) ?_ | simp only [bne_self_eq_false, Bool.not_true, Bool.not_false, List.length_cons, List.length_nil] | rw [wrap_id (by omega) (by omega)] | with_reducible exact (h1) | ((with_reducible refine Ev.eq (congrArg some ?_)); rfl))
    exact check_bad l h40 hs l.length 0 (by omega) ⟨i, by omega, hi, hb⟩
   ·have hpos : 0 + 1 ≤ i := by
     rcases Nat.eq_zero_or_pos i with e | e
     ·subst e
      exact absurd (show (more 0 ((0 : Nat) : Int) (rd l ((0 : Nat) : Int))).2 = true by
       unfold more
       rw [show ((0 : Nat) : Int) = 0 from rfl, Int.zero_mul, if_pos (by decide)]
       rfl) hb
     ·omega
    have : Ev (fun k => impl_derivative.f k l) ([], false) := der_bad l h40 hs (l.length - 1) 0 (by omega) ⟨i, hpos, hi, hb⟩ [] (by simp)
    repeat (first | with_reducible exact Ev.now _ | dsimp only | with_reducible refine Ev.bind (h2) ?_ | with_reducible refine Ev.bind (this) ?_ | refine Ev.pos (by first | omega | rfl | assumption | decide) ?_ | refine Ev.neg (by first | omega | assumption | exact Bool.false_ne_true | exact fun e => absurd e (by decide)) ?_ | simp only [bne_self_eq_false, Bool.not_true, Bool.not_false, List.length_cons, List.length_nil] | rw [wrap_id (by omega) (by omega)] | with_reducible exact (h2) | with_reducible exact (this) | ((with_reducible refine Ev.eq (congrArg some ?_)); rfl))
 ·rw [Bool.not_eq_true] at hw
  rw [hw] at h1 h2
  refine ⟨([], 1), by simp, ?_, ?_⟩
  ·repeat (first | with_reducible exact Ev.now _ | dsimp only | with_reducible refine Ev.bind (h1) ?_ | refine Ev.pos (by first | omega | rfl | assumption | decide) ?_ | refine Ev.neg (by first | omega | assumption | exact Bool.false_ne_true | exact fun e => absurd e (by decide)) ?_ | simp only [bne_self_eq_false, Bool.not_true, Bool.not_false, List.length_cons, List.length_nil] | rw [wrap_id (by omega) (by omega)] | with_reducible exact (h1) | ((with_reducible refine Ev.eq (congrArg some ?_)); rfl))
  ·repeat (first | with_reducible exact Ev.now _ | dsimp only | with_reducible refine Ev.bind (h2) ?_ | refine Ev.pos (by first | omega | rfl | assumption | decide) ?_ | refine Ev.neg (by first | omega | assumption | exact Bool.false_ne_true | exact fun e => absurd e (by decide)) ?_ | simp only [bne_self_eq_false, Bool.not_true, Bool.not_false, List.length_cons, List.length_nil] | rw [wrap_id (by omega) (by omega)] | with_reducible exact (h2) | ((with_reducible refine Ev.eq (congrArg some ?_)); rfl))
/-- A run ends, and its answer has a property. -/
def Dr {α : Type} (g : Nat → Option α) (P : α → Prop) : Prop := ∃ r, Ev g r ∧ P r

theorem Dr.bind {α β : Type} {g : Nat → Option α} {f : Nat → α → Option β} {P : α → Prop} {Q : β → Prop} (h : Dr g P) (k : ∀ a, P a → Dr (fun n => f n a) Q) : Dr (fun n => (g n).bind (f n)) Q := by
 obtain ⟨a, h, p⟩ := h
 obtain ⟨r, e, q⟩ := k a p
 exact ⟨r, Ev.bind h e, q⟩

theorem Dr.now {α : Type} {r : α} {P : α → Prop} (p : P r) : Dr (fun _ => some r) P := ⟨r, Ev.now _, p⟩

theorem Dr.eq {α : Type} {o : Option α} {P : α → Prop} (h : ∃ r, o = some r ∧ P r) : Dr (fun _ => o) P := by
 obtain ⟨r, e, p⟩ := h
 exact ⟨r, Ev.eq e, p⟩
end Go.Proofs.Ytkadhadceongiaa.Pure
