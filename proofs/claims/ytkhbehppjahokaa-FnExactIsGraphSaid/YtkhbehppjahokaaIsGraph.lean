/- Both sides' test of a graph answers the same: from one to eight vertices, at most ten edges, each of two ends in range. -/
import Derived.Test.YtkhbehppjahokaaG1
import Derived.Test.YtkhbehppjahokaaG2
import Derived.Test.YtkhbehppjahokaaG7
import Derived.Test.YtkhbehppjahokaaG8
import Derived.Test.YtkhbehppjahokaaG9
import Derived.Test.YtkhbehppjahokaaAux
import Derived.Test.YtkhbehppjahokaaBase
import Derived.Test.YtkhbehppjahokaaGraph
namespace Go.Proofs.Ytkhbehppjahokaa.Pure
open Go.RowKit Go.Proofs.Ytkhbehppjahokaa.G Go.Proofs.YtkhbehppjahokaaW.PrintWords Go.Proofs.YtkhbehppjahokaaW.PrintLast Go.Proofs.YtkhbehppjahokaaW.PrintMore Go.Proofs.Ytkhbehppjahokaa.Aux

theorem specIn (a b c : Int) : spec_l01In.f a b c = some (decide (b ≤ a ∧ a ≤ c)) := by
  unfold spec_l01In.f
  by_cases h : b ≤ a
  · rw [if_pos h]; simp [h]
  · rw [if_neg h]; simp [h]

theorem implWithin (a b c : Int) : impl_within.f a b c = some (decide (b ≤ a ∧ a ≤ c)) := by
  unfold impl_within.f
  by_cases h : b ≤ a
  · rw [if_pos h]; simp [h]
  · rw [if_neg h]; simp [h]

/-- One edge's test. -/
def okEdge (n : Int) (e : List Int) : Bool := decide (e.length = 2) && (decide (0 ≤ rd e 0 ∧ rd e 0 ≤ wrap64 (n - 1)) && decide (0 ≤ rd e 1 ∧ rd e 1 ≤ wrap64 (n - 1)))

def isGraph (n : Int) (l : List (List Int)) : Bool := l.all (okEdge n) && (decide (1 ≤ n ∧ n ≤ 8) && decide ((l.length : Int) ≤ 10))

theorem specIs_loop (n : Int) (l : List (List Int)) (hl : Mod l) : ∀ (d i : Nat), i + d = l.length →
    Ev (fun k => spec_l01Is.l0 k (i : Int) n l) ((l.drop i).all (okEdge n)) := by
  have hl1 := hl.1
  intro d
  induction d with
  | zero =>
    intro i hi
    refine Ev.succ ?_; simp only [spec_l01Is.l0]
    rw [List.drop_eq_nil_of_le (by omega)]
    repeat (first | exact Ev.now _ | dsimp only | refine Ev.pos (by first | omega | rfl | assumption | decide) ?_ | refine Ev.neg (by first | omega | assumption | exact Bool.false_ne_true | exact fun e => absurd e (by decide)) ?_ | simp only [bne_self_eq_false, Bool.not_true, Bool.not_false] | rw [wrap_id (by omega) (by omega)])
  | succ d ih =>
    intro i hi
    refine Ev.succ ?_; simp only [spec_l01Is.l0]
    rw [List.drop_eq_getElem_cons (by omega : i < l.length), List.all_cons, rl_lt (by omega), wrap_succ (by omega)]
    generalize l[i] = e
    have := ih (i + 1) (by omega)
    unfold okEdge
    by_cases h2 : (e.length : Int) = 2
    · rw [decide_eq_true (show e.length = 2 by omega), Bool.true_and]
      by_cases ha : 0 ≤ rd e 0 ∧ rd e 0 ≤ wrap64 (n - 1)
      · by_cases hb : 0 ≤ rd e 1 ∧ rd e 1 ≤ wrap64 (n - 1)
        · rw [decide_eq_true ha, decide_eq_true hb, Bool.true_and, Bool.true_and]
          repeat (first | exact Ev.now _ | dsimp only | refine Ev.bind (Ev.eq ((specIn _ _ _).trans (congrArg some (decide_eq_true ha)))) ?_ | refine Ev.bind (Ev.eq ((specIn _ _ _).trans (congrArg some (decide_eq_true hb)))) ?_ | refine Ev.pos (by first | omega | rfl | assumption | decide) ?_ | refine Ev.neg (by first | omega | assumption | exact Bool.false_ne_true | exact fun e => absurd e (by decide)) ?_ | simp only [bne_self_eq_false, Bool.not_true, Bool.not_false] | rw [wrap_id (by omega) (by omega)] | exact (Ev.eq ((specIn _ _ _).trans (congrArg some (decide_eq_true ha)))) | exact (Ev.eq ((specIn _ _ _).trans (congrArg some (decide_eq_true hb)))))
          exact this
        · rw [decide_eq_false hb, Bool.and_false, Bool.false_and]
          repeat (first | exact Ev.now _ | dsimp only | refine Ev.bind (Ev.eq ((specIn _ _ _).trans (congrArg some (decide_eq_true ha)))) ?_ | refine Ev.bind (Ev.eq ((specIn _ _ _).trans (congrArg some (decide_eq_false hb)))) ?_ | refine Ev.pos (by first | omega | rfl | assumption | decide) ?_ | refine Ev.neg (by first | omega | assumption | exact Bool.false_ne_true | exact fun e => absurd e (by decide)) ?_ | simp only [bne_self_eq_false, Bool.not_true, Bool.not_false] | rw [wrap_id (by omega) (by omega)] | exact (Ev.eq ((specIn _ _ _).trans (congrArg some (decide_eq_true ha)))) | exact (Ev.eq ((specIn _ _ _).trans (congrArg some (decide_eq_false hb)))))
      · rw [decide_eq_false ha, Bool.false_and, Bool.false_and]
        repeat (first | exact Ev.now _ | dsimp only | refine Ev.bind (Ev.eq ((specIn _ _ _).trans (congrArg some (decide_eq_false ha)))) ?_ | refine Ev.pos (by first | omega | rfl | assumption | decide) ?_ | refine Ev.neg (by first | omega | assumption | exact Bool.false_ne_true | exact fun e => absurd e (by decide)) ?_ | simp only [bne_self_eq_false, Bool.not_true, Bool.not_false] | rw [wrap_id (by omega) (by omega)] | exact (Ev.eq ((specIn _ _ _).trans (congrArg some (decide_eq_false ha)))))
    · rw [decide_eq_false (show ¬ e.length = 2 by omega), Bool.false_and, Bool.false_and]
      repeat (first | exact Ev.now _ | dsimp only | refine Ev.pos (by first | omega | rfl | assumption | decide) ?_ | refine Ev.neg (by first | omega | assumption | exact Bool.false_ne_true | exact fun e => absurd e (by decide)) ?_ | simp only [bne_self_eq_false, Bool.not_true, Bool.not_false] | rw [wrap_id (by omega) (by omega)])

theorem specIs (n : Int) (l : List (List Int)) (hl : Mod l) : Ev (fun k => spec_l01Is.f k n l) (isGraph n l) := by
  unfold spec_l01Is.f isGraph
  by_cases h1 : 1 ≤ n ∧ n ≤ 8
  · rw [decide_eq_true h1, Bool.true_and]
    repeat (first | exact Ev.now _ | dsimp only | refine Ev.bind (Ev.eq ((specIn n 1 8).trans (congrArg some (decide_eq_true h1)))) ?_ | refine Ev.pos (by first | omega | rfl | assumption | decide) ?_ | refine Ev.neg (by first | omega | assumption | exact Bool.false_ne_true | exact fun e => absurd e (by decide)) ?_ | simp only [bne_self_eq_false, Bool.not_true, Bool.not_false] | rw [wrap_id (by omega) (by omega)] | exact (Ev.eq ((specIn n 1 8).trans (congrArg some (decide_eq_true h1)))))
    refine Ev.succ ?_
    simp only [spec_l01Is.j0]
    by_cases h2 : (l.length : Int) ≤ 10
    · rw [decide_eq_true h2, decide_eq_false (show ¬ (l.length : Int) > 10 by omega), Bool.and_true]
      repeat (first | exact Ev.now _ | dsimp only | refine Ev.pos (by first | omega | rfl | assumption | decide) ?_ | refine Ev.neg (by first | omega | assumption | exact Bool.false_ne_true | exact fun e => absurd e (by decide)) ?_ | simp only [bne_self_eq_false, Bool.not_true, Bool.not_false] | rw [wrap_id (by omega) (by omega)])
      exact specIs_loop n l hl l.length 0 (by omega)
    · rw [decide_eq_false h2, decide_eq_true (show (l.length : Int) > 10 by omega), Bool.and_false]
      repeat (first | exact Ev.now _ | dsimp only | refine Ev.pos (by first | omega | rfl | assumption | decide) ?_ | refine Ev.neg (by first | omega | assumption | exact Bool.false_ne_true | exact fun e => absurd e (by decide)) ?_ | simp only [bne_self_eq_false, Bool.not_true, Bool.not_false] | rw [wrap_id (by omega) (by omega)])
  · rw [decide_eq_false h1, Bool.false_and, Bool.and_false]
    repeat (first | exact Ev.now _ | dsimp only | refine Ev.bind (Ev.eq ((specIn n 1 8).trans (congrArg some (decide_eq_false h1)))) ?_ | refine Ev.pos (by first | omega | rfl | assumption | decide) ?_ | refine Ev.neg (by first | omega | assumption | exact Bool.false_ne_true | exact fun e => absurd e (by decide)) ?_ | simp only [bne_self_eq_false, Bool.not_true, Bool.not_false] | rw [wrap_id (by omega) (by omega)] | exact (Ev.eq ((specIn n 1 8).trans (congrArg some (decide_eq_false h1)))))
    refine Ev.succ ?_
    simp only [spec_l01Is.j0]
    repeat (first | exact Ev.now _ | dsimp only | refine Ev.pos (by first | omega | rfl | assumption | decide) ?_ | refine Ev.neg (by first | omega | assumption | exact Bool.false_ne_true | exact fun e => absurd e (by decide)) ?_ | simp only [bne_self_eq_false, Bool.not_true, Bool.not_false] | rw [wrap_id (by omega) (by omega)])

theorem specIsGraph (n : Int) (l : List (List Int)) (hl : Mod l) : Ev (fun k => spec_IsGraph.f k n l) (isGraph n l) := by
  unfold spec_IsGraph.f
  repeat (first | exact Ev.now _ | dsimp only | refine Ev.bind (specIs n l hl) ?_ | refine Ev.pos (by first | omega | rfl | assumption | decide) ?_ | refine Ev.neg (by first | omega | assumption | exact Bool.false_ne_true | exact fun e => absurd e (by decide)) ?_ | simp only [bne_self_eq_false, Bool.not_true, Bool.not_false] | rw [wrap_id (by omega) (by omega)] | exact (specIs n l hl))

theorem implIs_loop (n : Int) (l : List (List Int)) (hl : Mod l) : ∀ (d i : Nat), i + d = l.length →
    Ev (fun k => impl_IsGraph.l0 k l (l.length : Int) (i : Int) n l) ((l.drop i).all (okEdge n) && (decide (1 ≤ n ∧ n ≤ 8) && decide ((l.length : Int) ≤ 10))) := by
  have hl1 := hl.1
  intro d
  induction d with
  | zero =>
    intro i hi
    refine Ev.succ ?_; simp only [impl_IsGraph.l0]
    rw [List.drop_eq_nil_of_le (by omega), List.all_nil, Bool.true_and]
    by_cases h1 : 1 ≤ n ∧ n ≤ 8
    · rw [decide_eq_true h1, Bool.true_and]
      repeat (first | exact Ev.now _ | dsimp only | refine Ev.bind (Ev.eq ((implWithin n 1 8).trans (congrArg some (decide_eq_true h1)))) ?_ | refine Ev.pos (by first | omega | rfl | assumption | decide) ?_ | refine Ev.neg (by first | omega | assumption | exact Bool.false_ne_true | exact fun e => absurd e (by decide)) ?_ | simp only [bne_self_eq_false, Bool.not_true, Bool.not_false] | rw [wrap_id (by omega) (by omega)] | exact (Ev.eq ((implWithin n 1 8).trans (congrArg some (decide_eq_true h1)))))
    · rw [decide_eq_false h1, Bool.false_and]
      repeat (first | exact Ev.now _ | dsimp only | refine Ev.bind (Ev.eq ((implWithin n 1 8).trans (congrArg some (decide_eq_false h1)))) ?_ | refine Ev.pos (by first | omega | rfl | assumption | decide) ?_ | refine Ev.neg (by first | omega | assumption | exact Bool.false_ne_true | exact fun e => absurd e (by decide)) ?_ | simp only [bne_self_eq_false, Bool.not_true, Bool.not_false] | rw [wrap_id (by omega) (by omega)] | exact (Ev.eq ((implWithin n 1 8).trans (congrArg some (decide_eq_false h1)))))
  | succ d ih =>
    intro i hi
    refine Ev.succ ?_; simp only [impl_IsGraph.l0]
    rw [List.drop_eq_getElem_cons (by omega : i < l.length), List.all_cons, rl_lt (by omega), wrap_succ (by omega)]
    generalize l[i] = e
    have := ih (i + 1) (by omega)
    unfold okEdge at this ⊢
    by_cases h2 : (e.length : Int) = 2
    · rw [decide_eq_true (show e.length = 2 by omega), Bool.true_and]
      by_cases ha : 0 ≤ rd e 0 ∧ rd e 0 ≤ wrap64 (n - 1)
      · by_cases hb : 0 ≤ rd e 1 ∧ rd e 1 ≤ wrap64 (n - 1)
        · rw [decide_eq_true ha, decide_eq_true hb, Bool.true_and, Bool.true_and]
          repeat (first | exact Ev.now _ | dsimp only | refine Ev.bind (Ev.eq ((implWithin _ _ _).trans (congrArg some (decide_eq_true ha)))) ?_ | refine Ev.bind (Ev.eq ((implWithin _ _ _).trans (congrArg some (decide_eq_true hb)))) ?_ | refine Ev.pos (by first | omega | rfl | assumption | decide) ?_ | refine Ev.neg (by first | omega | assumption | exact Bool.false_ne_true | exact fun e => absurd e (by decide)) ?_ | simp only [bne_self_eq_false, Bool.not_true, Bool.not_false] | rw [wrap_id (by omega) (by omega)] | exact (Ev.eq ((implWithin _ _ _).trans (congrArg some (decide_eq_true ha)))) | exact (Ev.eq ((implWithin _ _ _).trans (congrArg some (decide_eq_true hb)))))
          exact this
        · rw [decide_eq_false hb, Bool.and_false, Bool.false_and, Bool.false_and]
          repeat (first | exact Ev.now _ | dsimp only | refine Ev.bind (Ev.eq ((implWithin _ _ _).trans (congrArg some (decide_eq_true ha)))) ?_ | refine Ev.bind (Ev.eq ((implWithin _ _ _).trans (congrArg some (decide_eq_false hb)))) ?_ | refine Ev.pos (by first | omega | rfl | assumption | decide) ?_ | refine Ev.neg (by first | omega | assumption | exact Bool.false_ne_true | exact fun e => absurd e (by decide)) ?_ | simp only [bne_self_eq_false, Bool.not_true, Bool.not_false] | rw [wrap_id (by omega) (by omega)] | exact (Ev.eq ((implWithin _ _ _).trans (congrArg some (decide_eq_true ha)))) | exact (Ev.eq ((implWithin _ _ _).trans (congrArg some (decide_eq_false hb)))))
      · rw [decide_eq_false ha, Bool.false_and, Bool.false_and, Bool.false_and]
        repeat (first | exact Ev.now _ | dsimp only | refine Ev.bind (Ev.eq ((implWithin _ _ _).trans (congrArg some (decide_eq_false ha)))) ?_ | refine Ev.pos (by first | omega | rfl | assumption | decide) ?_ | refine Ev.neg (by first | omega | assumption | exact Bool.false_ne_true | exact fun e => absurd e (by decide)) ?_ | simp only [bne_self_eq_false, Bool.not_true, Bool.not_false] | rw [wrap_id (by omega) (by omega)] | exact (Ev.eq ((implWithin _ _ _).trans (congrArg some (decide_eq_false ha)))))
    · rw [decide_eq_false (show ¬ e.length = 2 by omega), Bool.false_and, Bool.false_and, Bool.false_and]
      repeat (first | exact Ev.now _ | dsimp only | refine Ev.pos (by first | omega | rfl | assumption | decide) ?_ | refine Ev.neg (by first | omega | assumption | exact Bool.false_ne_true | exact fun e => absurd e (by decide)) ?_ | simp only [bne_self_eq_false, Bool.not_true, Bool.not_false] | rw [wrap_id (by omega) (by omega)])

theorem implIsGraph (n : Int) (l : List (List Int)) (hl : Mod l) : Ev (fun k => impl_IsGraph.f k n l) (isGraph n l) := by
  unfold impl_IsGraph.f
  exact implIs_loop n l hl l.length 0 (by omega)

theorem len_two {α : Type} {e : List α} (h : e.length = 2) : ∃ a b, e = [a, b] := by
  match e, h with
  | [a, b], _ => exact ⟨a, b, rfl⟩

theorem isGraph_iff (n : Int) (l : List (List Int)) : isGraph n l = true ↔ 1 ≤ n ∧ n ≤ 8 ∧ l.length ≤ 10 ∧ ∀ e ∈ l, ∃ a b : Int, e = [a, b] ∧ 0 ≤ a ∧ a < n ∧ 0 ≤ b ∧ b < n := by
  unfold isGraph
  rw [Bool.and_eq_true, Bool.and_eq_true, decide_eq_true_iff, decide_eq_true_iff, List.all_eq_true]
  constructor
  · rintro ⟨h, ⟨h1, h2⟩, h3⟩
    refine ⟨h1, h2, by omega, fun e he => ?_⟩
    have := h e he
    unfold okEdge at this
    rw [Bool.and_eq_true, Bool.and_eq_true, decide_eq_true_iff, decide_eq_true_iff, decide_eq_true_iff, wrap_id (by omega) (by omega)] at this
    obtain ⟨he2, ha, hb⟩ := this
    obtain ⟨a, b, rfl⟩ := len_two he2
    simp only [show rd [a, b] 0 = a from rfl, show rd [a, b] 1 = b from rfl] at ha hb
    exact ⟨a, b, rfl, by omega, by omega, by omega, by omega⟩
  · rintro ⟨h1, h2, h3, h⟩
    refine ⟨fun e he => ?_, ⟨h1, h2⟩, by omega⟩
    obtain ⟨a, b, rfl, h4, h5, h6, h7⟩ := h e he
    unfold okEdge
    rw [Bool.and_eq_true, Bool.and_eq_true, decide_eq_true_iff, decide_eq_true_iff, decide_eq_true_iff, wrap_id (by omega) (by omega)]
    simp only [show rd [a, b] 0 = a from rfl, show rd [a, b] 1 = b from rfl]
    exact ⟨rfl, by omega, by omega⟩
end Go.Proofs.Ytkhbehppjahokaa.Pure
