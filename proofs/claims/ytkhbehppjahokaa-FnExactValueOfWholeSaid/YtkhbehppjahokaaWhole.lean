/- Both sides' test of a polynomial of whole numbers, and of small numbers. -/
import Derived.Test.YtkhbehppjahokaaG1
import Derived.Test.YtkhbehppjahokaaG2
import Derived.Test.YtkhbehppjahokaaAux
import Derived.Test.YtkhbehppjahokaaBase
namespace Go.Proofs.Ytkhbehppjahokaa.Pure
open Go.RowKit Go.Proofs.Ytkhbehppjahokaa.G Go.Proofs.YtkhbehppjahokaaW.PrintWords Go.Proofs.YtkhbehppjahokaaW.PrintLast Go.Proofs.YtkhbehppjahokaaW.PrintMore Go.Proofs.Ytkhbehppjahokaa.Aux

def small (x : Int) : Bool := decide (-1000000000000000 ≤ x ∧ x ≤ 1000000000000000)

def whole (l : List Int) : Bool := l.all small && decide (l.length ≤ 40) && (l.getLast? != some 0)

theorem specIn (a b c : Int) : spec_l01In.f a b c = some (decide (b ≤ a ∧ a ≤ c)) := by
  unfold spec_l01In.f
  by_cases h : b ≤ a
  · rw [if_pos h]; simp [h]
  · rw [if_neg h]; simp [h]

theorem implWithin (a b c : Int) : impl_within.f a b c = some (decide (b ≤ a ∧ a ≤ c)) := by
  unfold impl_within.f
  by_cases h : b ≤ a
  · rw [if_pos h]; simp [h]
  · rw [if_neg h]; simp [h]

theorem implSmall (x : Int) : impl_isSmall.f x = some (small x) := by
  unfold impl_isSmall.f
  rw [implWithin]
  rfl

theorem last_rd (l : List Int) (h : l ≠ []) : rd l ((l.length : Int) - 1) = l.getLast h := by
  have hp := List.length_pos_iff.2 h
  have : (l.length : Int) - 1 = ((l.length - 1 : Nat) : Int) := by omega
  rw [this, rd_lt (by omega), List.getLast_eq_getElem]

theorem end_test (l : List Int) (hl : l.length ≤ 1048576) : Ev (fun _ => (if (l.length : Int) ≤ 40 then (if (l.length : Int) = 0 then (some true) else (if 0 ≤ (wrap64 ((l.length : Int) - 1)) then (if (wrap64 ((l.length : Int) - 1)) < (l.length : Int) then (some ((rd l (wrap64 ((l.length : Int) - 1))) != 0)) else (none)) else (none))) else (some false)))
    (decide (l.length ≤ 40) && (l.getLast? != some 0)) := by
  by_cases h40 : (l.length : Int) ≤ 40
  · rw [decide_eq_true (show l.length ≤ 40 by omega), Bool.true_and]
    by_cases h0 : (l.length : Int) = 0
    · have : l = [] := List.length_eq_zero_iff.1 (by omega)
      subst this
      exact Ev.now _
    · have hne : l ≠ [] := fun e => h0 (by rw [e]; rfl)
      rw [wrap_id (by omega) (by omega), last_rd l hne, List.getLast?_eq_some_getLast hne]
      have : (some (l.getLast hne) != some 0) = (l.getLast hne != 0) := rfl
      rw [this]
      repeat (first | with_reducible exact Ev.now _ | dsimp only | refine Ev.pos (by first | omega | rfl | assumption | decide) ?_ | refine Ev.neg (by first | omega | assumption | exact Bool.false_ne_true | exact fun e => absurd e (by decide)) ?_ | simp only [bne_self_eq_false, Bool.not_true, Bool.not_false] | rw [wrap_id (by omega) (by omega)] | ((with_reducible refine Ev.eq (congrArg some ?_)); rfl))
  · rw [decide_eq_false (show ¬ l.length ≤ 40 by omega), Bool.false_and]
    repeat (first | with_reducible exact Ev.now _ | dsimp only | refine Ev.pos (by first | omega | rfl | assumption | decide) ?_ | refine Ev.neg (by first | omega | assumption | exact Bool.false_ne_true | exact fun e => absurd e (by decide)) ?_ | simp only [bne_self_eq_false, Bool.not_true, Bool.not_false] | rw [wrap_id (by omega) (by omega)] | ((with_reducible refine Ev.eq (congrArg some ?_)); rfl))

theorem specPoly_loop (l : List Int) (hl : l.length ≤ 1048576) : ∀ (d i : Nat), i + d = l.length →
    Ev (fun k => spec_l01Poly.l0 k l (i : Int)) ((l.drop i).all small && (decide (l.length ≤ 40) && (l.getLast? != some 0))) := by
  intro d
  induction d with
  | zero =>
    intro i hi
    refine Ev.succ ?_; simp only [spec_l01Poly.l0]
    rw [List.drop_eq_nil_of_le (by omega), List.all_nil, Bool.true_and]
    refine Ev.neg (by omega) ?_
    exact end_test l hl
  | succ d ih =>
    intro i hi
    refine Ev.succ ?_; simp only [spec_l01Poly.l0]
    rw [List.drop_eq_getElem_cons (by omega : i < l.length), List.all_cons, rd_lt (by omega), wrap_succ (by omega), specIn]
    have := ih (i + 1) (by omega)
    by_cases h : small l[i] = true
    · rw [h, Bool.true_and]
      unfold small at h
      repeat (first | with_reducible exact Ev.now _ | dsimp only | with_reducible refine Ev.bind (Ev.eq (congrArg some h)) ?_ | refine Ev.pos (by first | omega | rfl | assumption | decide) ?_ | refine Ev.neg (by first | omega | assumption | exact Bool.false_ne_true | exact fun e => absurd e (by decide)) ?_ | simp only [bne_self_eq_false, Bool.not_true, Bool.not_false] | rw [wrap_id (by omega) (by omega)] | with_reducible exact (Ev.eq (congrArg some h)) | ((with_reducible refine Ev.eq (congrArg some ?_)); rfl))
      exact this
    · rw [Bool.not_eq_true] at h
      rw [h, Bool.false_and, Bool.false_and]
      unfold small at h
      repeat (first | with_reducible exact Ev.now _ | dsimp only | with_reducible refine Ev.bind (Ev.eq (congrArg some h)) ?_ | refine Ev.pos (by first | omega | rfl | assumption | decide) ?_ | refine Ev.neg (by first | omega | assumption | exact Bool.false_ne_true | exact fun e => absurd e (by decide)) ?_ | simp only [bne_self_eq_false, Bool.not_true, Bool.not_false] | rw [wrap_id (by omega) (by omega)] | with_reducible exact (Ev.eq (congrArg some h)) | ((with_reducible refine Ev.eq (congrArg some ?_)); rfl))

theorem specPoly (l : List Int) (hl : l.length ≤ 1048576) : Ev (fun k => spec_l01Poly.f k l) (whole l) := by
  unfold spec_l01Poly.f whole
  rw [Bool.and_assoc]
  exact specPoly_loop l hl l.length 0 (by omega)

theorem implWhole_loop (l : List Int) (hl : l.length ≤ 1048576) : ∀ (d i : Nat), i + d = l.length →
    Ev (fun k => impl_IsWhole.l0 k l l (l.length : Int) (i : Int)) ((l.drop i).all small && (decide (l.length ≤ 40) && (l.getLast? != some 0))) := by
  intro d
  induction d with
  | zero =>
    intro i hi
    refine Ev.succ ?_; simp only [impl_IsWhole.l0]
    rw [List.drop_eq_nil_of_le (by omega), List.all_nil, Bool.true_and]
    refine Ev.neg (by omega) ?_
    exact end_test l hl
  | succ d ih =>
    intro i hi
    refine Ev.succ ?_; simp only [impl_IsWhole.l0]
    rw [List.drop_eq_getElem_cons (by omega : i < l.length), List.all_cons, rd_lt (by omega), wrap_succ (by omega), implSmall]
    have := ih (i + 1) (by omega)
    by_cases h : small l[i] = true
    · rw [h, Bool.true_and]
      repeat (first | with_reducible exact Ev.now _ | dsimp only | with_reducible refine Ev.bind (Ev.now _) ?_ | refine Ev.pos (by first | omega | rfl | assumption | decide) ?_ | refine Ev.neg (by first | omega | assumption | exact Bool.false_ne_true | exact fun e => absurd e (by decide)) ?_ | simp only [bne_self_eq_false, Bool.not_true, Bool.not_false] | rw [wrap_id (by omega) (by omega)] | with_reducible exact (Ev.now _) | ((with_reducible refine Ev.eq (congrArg some ?_)); rfl))
      exact this
    · rw [Bool.not_eq_true] at h
      rw [h, Bool.false_and, Bool.false_and]
      repeat (first | with_reducible exact Ev.now _ | dsimp only | with_reducible refine Ev.bind (Ev.now _) ?_ | refine Ev.pos (by first | omega | rfl | assumption | decide) ?_ | refine Ev.neg (by first | omega | assumption | exact Bool.false_ne_true | exact fun e => absurd e (by decide)) ?_ | simp only [bne_self_eq_false, Bool.not_true, Bool.not_false] | rw [wrap_id (by omega) (by omega)] | with_reducible exact (Ev.now _) | ((with_reducible refine Ev.eq (congrArg some ?_)); rfl))

theorem implWhole (l : List Int) (hl : l.length ≤ 1048576) : Ev (fun k => impl_IsWhole.f k l) (whole l) := by
  unfold impl_IsWhole.f whole
  rw [Bool.and_assoc]
  exact implWhole_loop l hl l.length 0 (by omega)

theorem whole_small {l : List Int} (h : whole l = true) : ∀ x ∈ l, -1000000000000000 ≤ x ∧ x ≤ 1000000000000000 := by
  unfold whole at h
  rw [Bool.and_eq_true, Bool.and_eq_true, List.all_eq_true] at h
  intro x hx
  exact decide_eq_true_iff.1 (h.1.1 x hx)

theorem whole_length {l : List Int} (h : whole l = true) : l.length ≤ 40 := by
  unfold whole at h
  rw [Bool.and_eq_true, Bool.and_eq_true] at h
  exact decide_eq_true_iff.1 h.1.2

theorem whole_last {l : List Int} (h : whole l = true) : l.getLast? ≠ some 0 := by
  unfold whole at h
  rw [Bool.and_eq_true] at h
  exact bne_iff_ne.1 h.2
end Go.Proofs.Ytkhbehppjahokaa.Pure
