/- The plain proofs for this law. -/
import Derived.Test.YtipigagbgpoecaaDoorC2
import Derived.Test.YtipigagbgpoecaaDoorAux
namespace Go.Proofs.YtipigagbgpoecaaDoor.Pure
open Go.RowKit Go.Proofs.YtipigagbgpoecaaDoor.G Go.Proofs.YtipigagbgpoecaaDoorW.PrintWords Go.Proofs.YtipigagbgpoecaaDoorW.PrintLast Go.Proofs.YtipigagbgpoecaaDoorW.PrintMore Go.Proofs.YtipigagbgpoecaaDoor.Aux
set_option linter.unusedVariables false
set_option linter.unusedSimpArgs false

theorem eqInt64S_loop (a b : List Int) (hl : a.length ≤ 1048576) (hab : a.length = b.length) : ∀ (d i : Nat), i + d = a.length →
    Ev (fun k => laws_eqInt64S.l0 k a b (i : Int)) (decide (a.drop i = b.drop i)) := by
  intro d
  induction d with
  | zero =>
    intro i hi
    refine Ev.succ ?_; simp only [laws_eqInt64S.l0]
    rw [List.drop_eq_nil_of_le (by omega), List.drop_eq_nil_of_le (by omega)]
    repeat (first | with_reducible exact Ev.now _ | dsimp only | refine Ev.pos (by first | omega | rfl | assumption | decide) ?_ | refine Ev.neg (by first | omega | assumption | exact Bool.false_ne_true | exact fun e => absurd e (by decide)) ?_ | simp only [bne_self_eq_false, Bool.not_true, Bool.not_false, List.length_cons, List.length_nil] | rw [wrap_id (by omega) (by omega)] | ((with_reducible refine Ev.eq (congrArg some ?_)); rfl))
  | succ d ih =>
    intro i hi
    refine Ev.succ ?_; simp only [laws_eqInt64S.l0]
    rw [List.drop_eq_getElem_cons (by omega : i < a.length), List.drop_eq_getElem_cons (by omega : i < b.length), wrap_succ (by omega)]
    by_cases e : rd a i = rd b i
    · repeat (first | with_reducible exact Ev.now _ | dsimp only | refine Ev.pos (by first | omega | rfl | assumption | decide) ?_ | refine Ev.neg (by first | omega | assumption | exact Bool.false_ne_true | exact fun e => absurd e (by decide)) ?_ | simp only [bne_self_eq_false, Bool.not_true, Bool.not_false, List.length_cons, List.length_nil] | rw [wrap_id (by omega) (by omega)] | ((with_reducible refine Ev.eq (congrArg some ?_)); rfl))
      have := ih (i + 1) (by omega)
      rw [rd_lt (by omega), rd_lt (by omega)] at e
      rw [e, decide_cons]
      exact this
    · rw [decide_eq_false (fun h => e (by rw [rd_lt (by omega), rd_lt (by omega)]; exact (List.cons.inj h).1))]
      repeat (first | with_reducible exact Ev.now _ | dsimp only | refine Ev.pos (by first | omega | rfl | assumption | decide) ?_ | refine Ev.neg (by first | omega | assumption | exact Bool.false_ne_true | exact fun e => absurd e (by decide)) ?_ | simp only [bne_self_eq_false, Bool.not_true, Bool.not_false, List.length_cons, List.length_nil] | rw [wrap_id (by omega) (by omega)] | ((with_reducible refine Ev.eq (congrArg some ?_)); rfl))

theorem eqInt64S (a b : List Int) (hl : a.length ≤ 1048576) : Ev (fun k => laws_eqInt64S.f k a b) (decide (a = b)) := by
  unfold laws_eqInt64S.f
  by_cases h : a.length = b.length
  · repeat (first | with_reducible exact Ev.now _ | dsimp only | refine Ev.pos (by first | omega | rfl | assumption | decide) ?_ | refine Ev.neg (by first | omega | assumption | exact Bool.false_ne_true | exact fun e => absurd e (by decide)) ?_ | simp only [bne_self_eq_false, Bool.not_true, Bool.not_false, List.length_cons, List.length_nil] | rw [wrap_id (by omega) (by omega)] | ((with_reducible refine Ev.eq (congrArg some ?_)); rfl))
    exact eqInt64S_loop a b hl h a.length 0 (by omega)
  · rw [decide_eq_false (fun e => h (by rw [e]))]
    repeat (first | with_reducible exact Ev.now _ | dsimp only | refine Ev.pos (by first | omega | rfl | assumption | decide) ?_ | refine Ev.neg (by first | omega | assumption | exact Bool.false_ne_true | exact fun e => absurd e (by decide)) ?_ | simp only [bne_self_eq_false, Bool.not_true, Bool.not_false, List.length_cons, List.length_nil] | rw [wrap_id (by omega) (by omega)] | ((with_reducible refine Ev.eq (congrArg some ?_)); rfl))

theorem eqInt64S_self (a : List Int) (hl : a.length ≤ 1048576) : Ev (fun k => laws_eqInt64S.f k a a) true :=
  Ev.conv (eqInt64S a a hl) (by simp)
theorem rl_lt {xs : List (List Int)} {i : Nat} (h : i < xs.length) : rd_L1 xs (i : Int) = xs[i] := by
  simp [rd_L1, List.getD_eq_getElem?_getD, h]

/-- Rows of which each, and their number, is of a moderate size. -/
def Mod (l : List (List Int)) : Prop := l.length ≤ 1048576 ∧ ∀ r ∈ l, r.length ≤ 1048576

theorem Mod.row {l : List (List Int)} (h : Mod l) {i : Nat} (hi : i < l.length) : l[i].length ≤ 1048576 := h.2 _ (List.getElem_mem hi)

theorem eqInt64SS_self_loop (a : List (List Int)) (hl : Mod a) : ∀ (d i : Nat), i + d = a.length →
    Ev (fun k => laws_eqInt64SS.l0 k a a (i : Int)) true := by
  have hl1 := hl.1
  intro d
  induction d with
  | zero =>
    intro i hi
    refine Ev.succ ?_; simp only [laws_eqInt64SS.l0]
    repeat (first | with_reducible exact Ev.now _ | dsimp only | refine Ev.pos (by first | omega | rfl | assumption | decide) ?_ | refine Ev.neg (by first | omega | assumption | exact Bool.false_ne_true | exact fun e => absurd e (by decide)) ?_ | simp only [bne_self_eq_false, Bool.not_true, Bool.not_false, List.length_cons, List.length_nil] | rw [wrap_id (by omega) (by omega)] | ((with_reducible refine Ev.eq (congrArg some ?_)); rfl))
  | succ d ih =>
    intro i hi
    refine Ev.succ ?_; simp only [laws_eqInt64SS.l0]
    rw [rl_lt (by omega), wrap_succ (by omega)]
    repeat (first | with_reducible exact Ev.now _ | dsimp only | with_reducible refine Ev.bind (eqInt64S_self _ (hl.row (by omega))) ?_ | refine Ev.pos (by first | omega | rfl | assumption | decide) ?_ | refine Ev.neg (by first | omega | assumption | exact Bool.false_ne_true | exact fun e => absurd e (by decide)) ?_ | simp only [bne_self_eq_false, Bool.not_true, Bool.not_false, List.length_cons, List.length_nil] | rw [wrap_id (by omega) (by omega)] | with_reducible exact (eqInt64S_self _ (hl.row (by omega))) | ((with_reducible refine Ev.eq (congrArg some ?_)); rfl))
    exact ih (i + 1) (by omega)

theorem eqInt64SS_self (a : List (List Int)) (hl : Mod a) : Ev (fun k => laws_eqInt64SS.f k a a) true := by
  unfold laws_eqInt64SS.f
  repeat (first | with_reducible exact Ev.now _ | dsimp only | refine Ev.pos (by first | omega | rfl | assumption | decide) ?_ | refine Ev.neg (by first | omega | assumption | exact Bool.false_ne_true | exact fun e => absurd e (by decide)) ?_ | simp only [bne_self_eq_false, Bool.not_true, Bool.not_false, List.length_cons, List.length_nil] | rw [wrap_id (by omega) (by omega)] | ((with_reducible refine Ev.eq (congrArg some ?_)); rfl))
  exact eqInt64SS_self_loop a hl a.length 0 (by omega)

theorem eqGraph_self (n : Int) (a : List (List Int)) (hl : Mod a) : Ev (fun k => laws_eqGraph.f k n a n a) true := by
  unfold laws_eqGraph.f
  repeat (first | with_reducible exact Ev.now _ | dsimp only | with_reducible refine Ev.bind (eqInt64SS_self a hl) ?_ | refine Ev.pos (by first | omega | rfl | assumption | decide) ?_ | refine Ev.neg (by first | omega | assumption | exact Bool.false_ne_true | exact fun e => absurd e (by decide)) ?_ | simp only [bne_self_eq_false, Bool.not_true, Bool.not_false, List.length_cons, List.length_nil] | rw [wrap_id (by omega) (by omega)] | with_reducible exact (eqInt64SS_self a hl) | ((with_reducible refine Ev.eq (congrArg some ?_)); rfl))
theorem specIn (a b c : Int) : spec_l01In.f a b c = some (decide (b ≤ a ∧ a ≤ c)) := by
  unfold spec_l01In.f
  by_cases h : b ≤ a
  · rw [if_pos h]; simp [h]
  · rw [if_neg h]; simp [h]

theorem implWithin (a b c : Int) : impl_within.f a b c = some (decide (b ≤ a ∧ a ≤ c)) := by
  unfold impl_within.f
  by_cases h : b ≤ a
  · rw [if_pos h]; simp [h]
  · rw [if_neg h]; simp [h]

/-- One edge's test. -/
def okEdge (n : Int) (e : List Int) : Bool := decide (e.length = 2) && (decide (0 ≤ rd e 0 ∧ rd e 0 ≤ wrap64 (n - 1)) && decide (0 ≤ rd e 1 ∧ rd e 1 ≤ wrap64 (n - 1)))

def isGraph (n : Int) (l : List (List Int)) : Bool := l.all (okEdge n) && (decide (1 ≤ n ∧ n ≤ 8) && decide ((l.length : Int) ≤ 10))

theorem specIs_loop (n : Int) (l : List (List Int)) (hl : Mod l) : ∀ (d i : Nat), i + d = l.length →
    Ev (fun k => spec_l01Is.l0 k (i : Int) n l) ((l.drop i).all (okEdge n)) := by
  have hl1 := hl.1
  intro d
  induction d with
  | zero =>
    intro i hi
    refine Ev.succ ?_; simp only [spec_l01Is.l0]
    rw [List.drop_eq_nil_of_le (by omega)]
    repeat (first | with_reducible exact Ev.now _ | dsimp only | refine Ev.pos (by first | omega | rfl | assumption | decide) ?_ | refine Ev.neg (by first | omega | assumption | exact Bool.false_ne_true | exact fun e => absurd e (by decide)) ?_ | simp only [bne_self_eq_false, Bool.not_true, Bool.not_false, List.length_cons, List.length_nil] | rw [wrap_id (by omega) (by omega)] | ((with_reducible refine Ev.eq (congrArg some ?_)); rfl))
  | succ d ih =>
    intro i hi
    refine Ev.succ ?_; simp only [spec_l01Is.l0]
    rw [List.drop_eq_getElem_cons (by omega : i < l.length), List.all_cons, rl_lt (by omega), wrap_succ (by omega)]
    generalize l[i] = e
    have := ih (i + 1) (by omega)
    unfold okEdge
    by_cases h2 : (e.length : Int) = 2
    · rw [decide_eq_true (show e.length = 2 by omega), Bool.true_and]
      by_cases ha : 0 ≤ rd e 0 ∧ rd e 0 ≤ wrap64 (n - 1)
      · by_cases hb : 0 ≤ rd e 1 ∧ rd e 1 ≤ wrap64 (n - 1)
        · rw [decide_eq_true ha, decide_eq_true hb, Bool.true_and, Bool.true_and]
          repeat (first | with_reducible exact Ev.now _ | dsimp only | with_reducible refine Ev.bind (Ev.eq ((specIn _ _ _).trans (congrArg some (decide_eq_true ha)))) ?_ | with_reducible refine Ev.bind (Ev.eq ((specIn _ _ _).trans (congrArg some (decide_eq_true hb)))) ?_ | refine Ev.pos (by first | omega | rfl | assumption | decide) ?_ | refine Ev.neg (by first | omega | assumption | exact Bool.false_ne_true | exact fun e => absurd e (by decide)) ?_ | simp only [bne_self_eq_false, Bool.not_true, Bool.not_false, List.length_cons, List.length_nil] | rw [wrap_id (by omega) (by omega)] | with_reducible exact (Ev.eq ((specIn _ _ _).trans (congrArg some (decide_eq_true ha)))) | with_reducible exact (Ev.eq ((specIn _ _ _).trans (congrArg some (decide_eq_true hb)))) | ((with_reducible refine Ev.eq (congrArg some ?_)); rfl))
          exact this
        · rw [decide_eq_false hb, Bool.and_false, Bool.false_and]
          repeat (first | with_reducible exact Ev.now _ | dsimp only | with_reducible refine Ev.bind (Ev.eq ((specIn _ _ _).trans (congrArg some (decide_eq_true ha)))) ?_ | with_reducible refine Ev.bind (Ev.eq ((specIn _ _ _).trans (congrArg some (decide_eq_false hb)))) ?_ | refine Ev.pos (by first | omega | rfl | assumption | decide) ?_ | refine Ev.neg (by first | omega | assumption | exact Bool.false_ne_true | exact fun e => absurd e (by decide)) ?_ | simp only [bne_self_eq_false, Bool.not_true, Bool.not_false, List.length_cons, List.length_nil] | rw [wrap_id (by omega) (by omega)] | with_reducible exact (Ev.eq ((specIn _ _ _).trans (congrArg some (decide_eq_true ha)))) | with_reducible exact (Ev.eq ((specIn _ _ _).trans (congrArg some (decide_eq_false hb)))) | ((with_reducible refine Ev.eq (congrArg some ?_)); rfl))
      · rw [decide_eq_false ha, Bool.false_and, Bool.false_and]
        repeat (first | with_reducible exact Ev.now _ | dsimp only | with_reducible refine Ev.bind (Ev.eq ((specIn _ _ _).trans (congrArg some (decide_eq_false ha)))) ?_ | refine Ev.pos (by first | omega | rfl | assumption | decide) ?_ | refine Ev.neg (by first | omega | assumption | exact Bool.false_ne_true | exact fun e => absurd e (by decide)) ?_ | simp only [bne_self_eq_false, Bool.not_true, Bool.not_false, List.length_cons, List.length_nil] | rw [wrap_id (by omega) (by omega)] | with_reducible exact (Ev.eq ((specIn _ _ _).trans (congrArg some (decide_eq_false ha)))) | ((with_reducible refine Ev.eq (congrArg some ?_)); rfl))
    · rw [decide_eq_false (show ¬ e.length = 2 by omega), Bool.false_and, Bool.false_and]
      repeat (first | with_reducible exact Ev.now _ | dsimp only | refine Ev.pos (by first | omega | rfl | assumption | decide) ?_ | refine Ev.neg (by first | omega | assumption | exact Bool.false_ne_true | exact fun e => absurd e (by decide)) ?_ | simp only [bne_self_eq_false, Bool.not_true, Bool.not_false, List.length_cons, List.length_nil] | rw [wrap_id (by omega) (by omega)] | ((with_reducible refine Ev.eq (congrArg some ?_)); rfl))

theorem specIs (n : Int) (l : List (List Int)) (hl : Mod l) : Ev (fun k => spec_l01Is.f k n l) (isGraph n l) := by
  unfold spec_l01Is.f isGraph
  by_cases h1 : 1 ≤ n ∧ n ≤ 8
  · rw [decide_eq_true h1, Bool.true_and]
    repeat (first | with_reducible exact Ev.now _ | dsimp only | with_reducible refine Ev.bind (Ev.eq ((specIn n 1 8).trans (congrArg some (decide_eq_true h1)))) ?_ | refine Ev.pos (by first | omega | rfl | assumption | decide) ?_ | refine Ev.neg (by first | omega | assumption | exact Bool.false_ne_true | exact fun e => absurd e (by decide)) ?_ | simp only [bne_self_eq_false, Bool.not_true, Bool.not_false, List.length_cons, List.length_nil] | rw [wrap_id (by omega) (by omega)] | with_reducible exact (Ev.eq ((specIn n 1 8).trans (congrArg some (decide_eq_true h1)))) | ((with_reducible refine Ev.eq (congrArg some ?_)); rfl))
    refine Ev.succ ?_
    simp only [spec_l01Is.j0]
    by_cases h2 : (l.length : Int) ≤ 10
    · rw [decide_eq_true h2, decide_eq_false (show ¬ (l.length : Int) > 10 by omega), Bool.and_true]
      repeat (first | with_reducible exact Ev.now _ | dsimp only | refine Ev.pos (by first | omega | rfl | assumption | decide) ?_ | refine Ev.neg (by first | omega | assumption | exact Bool.false_ne_true | exact fun e => absurd e (by decide)) ?_ | simp only [bne_self_eq_false, Bool.not_true, Bool.not_false, List.length_cons, List.length_nil] | rw [wrap_id (by omega) (by omega)] | ((with_reducible refine Ev.eq (congrArg some ?_)); rfl))
      exact specIs_loop n l hl l.length 0 (by omega)
    · rw [decide_eq_false h2, decide_eq_true (show (l.length : Int) > 10 by omega), Bool.and_false]
      repeat (first | with_reducible exact Ev.now _ | dsimp only | refine Ev.pos (by first | omega | rfl | assumption | decide) ?_ | refine Ev.neg (by first | omega | assumption | exact Bool.false_ne_true | exact fun e => absurd e (by decide)) ?_ | simp only [bne_self_eq_false, Bool.not_true, Bool.not_false, List.length_cons, List.length_nil] | rw [wrap_id (by omega) (by omega)] | ((with_reducible refine Ev.eq (congrArg some ?_)); rfl))
  · rw [decide_eq_false h1, Bool.false_and, Bool.and_false]
    repeat (first | with_reducible exact Ev.now _ | dsimp only | with_reducible refine Ev.bind (Ev.eq ((specIn n 1 8).trans (congrArg some (decide_eq_false h1)))) ?_ | refine Ev.pos (by first | omega | rfl | assumption | decide) ?_ | refine Ev.neg (by first | omega | assumption | exact Bool.false_ne_true | exact fun e => absurd e (by decide)) ?_ | simp only [bne_self_eq_false, Bool.not_true, Bool.not_false, List.length_cons, List.length_nil] | rw [wrap_id (by omega) (by omega)] | with_reducible exact (Ev.eq ((specIn n 1 8).trans (congrArg some (decide_eq_false h1)))) | ((with_reducible refine Ev.eq (congrArg some ?_)); rfl))
    refine Ev.succ ?_
    simp only [spec_l01Is.j0]
    repeat (first | with_reducible exact Ev.now _ | dsimp only | refine Ev.pos (by first | omega | rfl | assumption | decide) ?_ | refine Ev.neg (by first | omega | assumption | exact Bool.false_ne_true | exact fun e => absurd e (by decide)) ?_ | simp only [bne_self_eq_false, Bool.not_true, Bool.not_false, List.length_cons, List.length_nil] | rw [wrap_id (by omega) (by omega)] | ((with_reducible refine Ev.eq (congrArg some ?_)); rfl))

theorem implIs_loop (n : Int) (l : List (List Int)) (hl : Mod l) : ∀ (d i : Nat), i + d = l.length →
    Ev (fun k => impl_IsGraph.l0 k l (l.length : Int) (i : Int) n l) ((l.drop i).all (okEdge n) && (decide (1 ≤ n ∧ n ≤ 8) && decide ((l.length : Int) ≤ 10))) := by
  have hl1 := hl.1
  intro d
  induction d with
  | zero =>
    intro i hi
    refine Ev.succ ?_; simp only [impl_IsGraph.l0]
    rw [List.drop_eq_nil_of_le (by omega), List.all_nil, Bool.true_and]
    by_cases h1 : 1 ≤ n ∧ n ≤ 8
    · rw [decide_eq_true h1, Bool.true_and]
      repeat (first | with_reducible exact Ev.now _ | dsimp only | with_reducible refine Ev.bind (Ev.eq ((implWithin n 1 8).trans (congrArg some (decide_eq_true h1)))) ?_ | refine Ev.pos (by first | omega | rfl | assumption | decide) ?_ | refine Ev.neg (by first | omega | assumption | exact Bool.false_ne_true | exact fun e => absurd e (by decide)) ?_ | simp only [bne_self_eq_false, Bool.not_true, Bool.not_false, List.length_cons, List.length_nil] | rw [wrap_id (by omega) (by omega)] | with_reducible exact (Ev.eq ((implWithin n 1 8).trans (congrArg some (decide_eq_true h1)))) | ((with_reducible refine Ev.eq (congrArg some ?_)); rfl))
    · rw [decide_eq_false h1, Bool.false_and]
      repeat (first | with_reducible exact Ev.now _ | dsimp only | with_reducible refine Ev.bind (Ev.eq ((implWithin n 1 8).trans (congrArg some (decide_eq_false h1)))) ?_ | refine Ev.pos (by first | omega | rfl | assumption | decide) ?_ | refine Ev.neg (by first | omega | assumption | exact Bool.false_ne_true | exact fun e => absurd e (by decide)) ?_ | simp only [bne_self_eq_false, Bool.not_true, Bool.not_false, List.length_cons, List.length_nil] | rw [wrap_id (by omega) (by omega)] | with_reducible exact (Ev.eq ((implWithin n 1 8).trans (congrArg some (decide_eq_false h1)))) | ((with_reducible refine Ev.eq (congrArg some ?_)); rfl))
  | succ d ih =>
    intro i hi
    refine Ev.succ ?_; simp only [impl_IsGraph.l0]
    rw [List.drop_eq_getElem_cons (by omega : i < l.length), List.all_cons, rl_lt (by omega), wrap_succ (by omega)]
    generalize l[i] = e
    have := ih (i + 1) (by omega)
    unfold okEdge at this ⊢
    by_cases h2 : (e.length : Int) = 2
    · rw [decide_eq_true (show e.length = 2 by omega), Bool.true_and]
      by_cases ha : 0 ≤ rd e 0 ∧ rd e 0 ≤ wrap64 (n - 1)
      · by_cases hb : 0 ≤ rd e 1 ∧ rd e 1 ≤ wrap64 (n - 1)
        · rw [decide_eq_true ha, decide_eq_true hb, Bool.true_and, Bool.true_and]
          repeat (first | with_reducible exact Ev.now _ | dsimp only | with_reducible refine Ev.bind (Ev.eq ((implWithin _ _ _).trans (congrArg some (decide_eq_true ha)))) ?_ | with_reducible refine Ev.bind (Ev.eq ((implWithin _ _ _).trans (congrArg some (decide_eq_true hb)))) ?_ | refine Ev.pos (by first | omega | rfl | assumption | decide) ?_ | refine Ev.neg (by first | omega | assumption | exact Bool.false_ne_true | exact fun e => absurd e (by decide)) ?_ | simp only [bne_self_eq_false, Bool.not_true, Bool.not_false, List.length_cons, List.length_nil] | rw [wrap_id (by omega) (by omega)] | with_reducible exact (Ev.eq ((implWithin _ _ _).trans (congrArg some (decide_eq_true ha)))) | with_reducible exact (Ev.eq ((implWithin _ _ _).trans (congrArg some (decide_eq_true hb)))) | ((with_reducible refine Ev.eq (congrArg some ?_)); rfl))
          exact this
        · rw [decide_eq_false hb, Bool.and_false, Bool.false_and, Bool.false_and]
          repeat (first | with_reducible exact Ev.now _ | dsimp only | with_reducible refine Ev.bind (Ev.eq ((implWithin _ _ _).trans (congrArg some (decide_eq_true ha)))) ?_ | with_reducible refine Ev.bind (Ev.eq ((implWithin _ _ _).trans (congrArg some (decide_eq_false hb)))) ?_ | refine Ev.pos (by first | omega | rfl | assumption | decide) ?_ | refine Ev.neg (by first | omega | assumption | exact Bool.false_ne_true | exact fun e => absurd e (by decide)) ?_ | simp only [bne_self_eq_false, Bool.not_true, Bool.not_false, List.length_cons, List.length_nil] | rw [wrap_id (by omega) (by omega)] | with_reducible exact (Ev.eq ((implWithin _ _ _).trans (congrArg some (decide_eq_true ha)))) | with_reducible exact (Ev.eq ((implWithin _ _ _).trans (congrArg some (decide_eq_false hb)))) | ((with_reducible refine Ev.eq (congrArg some ?_)); rfl))
      · rw [decide_eq_false ha, Bool.false_and, Bool.false_and, Bool.false_and]
        repeat (first | with_reducible exact Ev.now _ | dsimp only | with_reducible refine Ev.bind (Ev.eq ((implWithin _ _ _).trans (congrArg some (decide_eq_false ha)))) ?_ | refine Ev.pos (by first | omega | rfl | assumption | decide) ?_ | refine Ev.neg (by first | omega | assumption | exact Bool.false_ne_true | exact fun e => absurd e (by decide)) ?_ | simp only [bne_self_eq_false, Bool.not_true, Bool.not_false, List.length_cons, List.length_nil] | rw [wrap_id (by omega) (by omega)] | with_reducible exact (Ev.eq ((implWithin _ _ _).trans (congrArg some (decide_eq_false ha)))) | ((with_reducible refine Ev.eq (congrArg some ?_)); rfl))
    · rw [decide_eq_false (show ¬ e.length = 2 by omega), Bool.false_and, Bool.false_and, Bool.false_and]
      repeat (first | with_reducible exact Ev.now _ | dsimp only | refine Ev.pos (by first | omega | rfl | assumption | decide) ?_ | refine Ev.neg (by first | omega | assumption | exact Bool.false_ne_true | exact fun e => absurd e (by decide)) ?_ | simp only [bne_self_eq_false, Bool.not_true, Bool.not_false, List.length_cons, List.length_nil] | rw [wrap_id (by omega) (by omega)] | ((with_reducible refine Ev.eq (congrArg some ?_)); rfl))

theorem implIsGraph (n : Int) (l : List (List Int)) (hl : Mod l) : Ev (fun k => impl_IsGraph.f k n l) (isGraph n l) := by
  unfold impl_IsGraph.f
  exact implIs_loop n l hl l.length 0 (by omega)

theorem len_two {α : Type} {e : List α} (h : e.length = 2) : ∃ a b, e = [a, b] := by
  match e, h with
  | [a, b], _ => exact ⟨a, b, rfl⟩

theorem isGraph_iff (n : Int) (l : List (List Int)) : isGraph n l = true ↔ 1 ≤ n ∧ n ≤ 8 ∧ l.length ≤ 10 ∧ ∀ e ∈ l, ∃ a b : Int, e = [a, b] ∧ 0 ≤ a ∧ a < n ∧ 0 ≤ b ∧ b < n := by
  unfold isGraph
  rw [Bool.and_eq_true, Bool.and_eq_true, decide_eq_true_iff, decide_eq_true_iff, List.all_eq_true]
  constructor
  · rintro ⟨h, ⟨h1, h2⟩, h3⟩
    refine ⟨h1, h2, by omega, fun e he => ?_⟩
    have := h e he
    unfold okEdge at this
    rw [Bool.and_eq_true, Bool.and_eq_true, decide_eq_true_iff, decide_eq_true_iff, decide_eq_true_iff, wrap_id (by omega) (by omega)] at this
    obtain ⟨he2, ha, hb⟩ := this
    obtain ⟨a, b, rfl⟩ := len_two he2
    simp only [show rd [a, b] 0 = a from rfl, show rd [a, b] 1 = b from rfl] at ha hb
    exact ⟨a, b, rfl, by omega, by omega, by omega, by omega⟩
  · rintro ⟨h1, h2, h3, h⟩
    refine ⟨fun e he => ?_, ⟨h1, h2⟩, by omega⟩
    obtain ⟨a, b, rfl, h4, h5, h6, h7⟩ := h e he
    unfold okEdge
    rw [Bool.and_eq_true, Bool.and_eq_true, decide_eq_true_iff, decide_eq_true_iff, decide_eq_true_iff, wrap_id (by omega) (by omega)]
    simp only [show rd [a, b] 0 = a from rfl, show rd [a, b] 1 = b from rfl]
    exact ⟨rfl, by omega, by omega⟩
theorem graph_small {n : Int} {l : List (List Int)} (h : isGraph n l = true) : 1 ≤ n ∧ n ≤ 8 ∧ l.length ≤ 10 := by
  obtain ⟨h1, h2, h3, h4⟩ := (isGraph_iff n l).1 h
  exact ⟨h1, h2, h3⟩
theorem markInt64S_loop (n : Nat) (hn : n ≤ 1048576) (a : Int) (h0 : 0 ≤ a) (h1 : a ≤ 1125899906842624) : ∀ (d i : Nat) (ys : List Int), i + d = n → ys.length = n → ys.take i = (marks a n).take i →
    Ev (fun k => laws_markInt64S.l0 k ys (a + i) (i : Int)) (a + n, marks a n) := by
  intro d
  induction d with
  | zero =>
    intro i ys hi hy ht
    refine Ev.succ ?_; simp only [laws_markInt64S.l0]
    rw [show ys = marks a n from eq_of_take (by rw [hy, marks_length]) (by rw [marks_length]; omega) ht, show i = n by omega]
    have := marks_length a n
    repeat (first | with_reducible exact Ev.now _ | dsimp only | refine Ev.pos (by first | omega | rfl | assumption | decide) ?_ | refine Ev.neg (by first | omega | assumption | exact Bool.false_ne_true | exact fun e => absurd e (by decide)) ?_ | simp only [bne_self_eq_false, Bool.not_true, Bool.not_false, List.length_cons, List.length_nil] | rw [wrap_id (by omega) (by omega)] | ((with_reducible refine Ev.eq (congrArg some ?_)); rfl))
  | succ d ih =>
    intro i ys hi hy ht
    refine Ev.succ ?_; simp only [laws_markInt64S.l0]
    rw [wrap_succ (by omega), wrap_id (x := a + i + 1) (by omega) (by omega)]
    repeat (first | with_reducible exact Ev.now _ | dsimp only | refine Ev.pos (by first | omega | rfl | assumption | decide) ?_ | refine Ev.neg (by first | omega | assumption | exact Bool.false_ne_true | exact fun e => absurd e (by decide)) ?_ | simp only [bne_self_eq_false, Bool.not_true, Bool.not_false, List.length_cons, List.length_nil] | rw [wrap_id (by omega) (by omega)] | ((with_reducible refine Ev.eq (congrArg some ?_)); rfl))
    have := ih (i + 1) (ys.set i (a + i)) (by omega) (by simpa using hy) (take_set_succ (by rw [hy, marks_length]) (by rw [marks_length]; omega) (marks_get a n i (by rw [marks_length]; omega)).symm ht)
    rw [show a + ((i + 1 : Nat) : Int) = a + i + 1 by omega] at this
    exact this

theorem markInt64S (l : List Int) (hl : l.length ≤ 1048576) (a : Int) (h0 : 0 ≤ a) (h1 : a ≤ 1125899906842624) : Ev (fun k => laws_markInt64S.f k l a) (a + l.length, marks a l.length) := by
  unfold laws_markInt64S.f
  have := markInt64S_loop l.length hl a h0 h1 l.length 0 l (by omega) rfl (by simp)
  rw [show a + ((0 : Nat) : Int) = a by omega] at this
  exact this

theorem heldInt64S_loop (n : Nat) (hn : n ≤ 1048576) (a : Int) (h0 : 0 ≤ a) (h1 : a ≤ 1125899906842624) : ∀ (d i : Nat), i + d = n →
    Ev (fun k => laws_heldInt64S.l0 k (marks a n) (a + i) (i : Int)) (a + n) := by
  have hm := marks_length a n
  intro d
  induction d with
  | zero =>
    intro i hi
    refine Ev.succ ?_; simp only [laws_heldInt64S.l0]
    rw [show i = n by omega]
    repeat (first | with_reducible exact Ev.now _ | dsimp only | refine Ev.pos (by first | omega | rfl | assumption | decide) ?_ | refine Ev.neg (by first | omega | assumption | exact Bool.false_ne_true | exact fun e => absurd e (by decide)) ?_ | simp only [bne_self_eq_false, Bool.not_true, Bool.not_false, List.length_cons, List.length_nil] | rw [wrap_id (by omega) (by omega)] | ((with_reducible refine Ev.eq (congrArg some ?_)); rfl))
  | succ d ih =>
    intro i hi
    refine Ev.succ ?_; simp only [laws_heldInt64S.l0]
    rw [wrap_succ (by omega), wrap_id (x := a + i + 1) (by omega) (by omega)]
    have e := marks_get a n i (by omega)
    rw [← rd_lt] at e
    have := ih (i + 1) (by omega)
    rw [show a + ((i + 1 : Nat) : Int) = a + i + 1 by omega] at this
    repeat (first | with_reducible exact Ev.now _ | dsimp only | refine Ev.pos (by first | omega | rfl | assumption | decide) ?_ | refine Ev.neg (by first | omega | assumption | exact Bool.false_ne_true | exact fun e => absurd e (by decide)) ?_ | simp only [bne_self_eq_false, Bool.not_true, Bool.not_false, List.length_cons, List.length_nil] | rw [wrap_id (by omega) (by omega)] | ((with_reducible refine Ev.eq (congrArg some ?_)); rfl))
    exact this

theorem heldInt64S (a : Int) (n : Nat) (hn : n ≤ 1048576) (h0 : 0 ≤ a) (h1 : a ≤ 1125899906842624) : Ev (fun k => laws_heldInt64S.f k (marks a n) a) (a + n) := by
  unfold laws_heldInt64S.f
  have := heldInt64S_loop n hn a h0 h1 n 0 (by omega)
  rw [show a + ((0 : Nat) : Int) = a by omega] at this
  exact this
def marksR : Int → List (List Int) → List (List Int)
  | _, [] => []
  | a, r :: rs => marks a r.length :: marksR (a + r.length) rs

def total : List (List Int) → Nat
  | [] => 0
  | r :: rs => r.length + total rs

theorem total_le (rs : List (List Int)) (h : ∀ r ∈ rs, r.length ≤ 1048576) : total rs ≤ 1048576 * rs.length := by
  induction rs with
  | nil => simp [total]
  | cons r rs ih =>
    have h1 := h r (List.mem_cons_self)
    have h2 := ih (fun x hx => h x (List.mem_cons_of_mem _ hx))
    unfold total
    rw [List.length_cons]
    omega

theorem marksR_length (a : Int) (rs : List (List Int)) : (marksR a rs).length = rs.length := by
  induction rs generalizing a with
  | nil => rfl
  | cons r rs ih => simp [marksR, ih]

theorem rl_mid (A : List (List Int)) (r : List Int) (B : List (List Int)) : rd_L1 (A ++ r :: B) (A.length : Int) = r := by
  rw [rl_lt (by simp)]
  simp

theorem markRows_loop : ∀ (rest done : List (List Int)) (a : Int), (done ++ rest).length ≤ 1048576 → (∀ r ∈ rest, r.length ≤ 1048576) → 0 ≤ a → a + total rest ≤ 1125899906842624 →
    Ev (fun k => laws_markInt64SS.l0 k (done ++ rest) a (done.length : Int)) (a + total rest, done ++ marksR a rest) := by
  intro rest
  induction rest with
  | nil =>
    intro done a hl hr h0 h1
    refine Ev.succ ?_; simp only [laws_markInt64SS.l0]
    rw [List.append_nil] at *
    unfold marksR total
    rw [show a + ((0 : Nat) : Int) = a by omega, List.append_nil]
    repeat (first | with_reducible exact Ev.now _ | dsimp only | refine Ev.pos (by first | omega | rfl | assumption | decide) ?_ | refine Ev.neg (by first | omega | assumption | exact Bool.false_ne_true | exact fun e => absurd e (by decide)) ?_ | simp only [bne_self_eq_false, Bool.not_true, Bool.not_false, List.length_cons, List.length_nil] | rw [wrap_id (by omega) (by omega)] | ((with_reducible refine Ev.eq (congrArg some ?_)); rfl))
  | cons r rest ih =>
    intro done a hl hr h0 h1
    have hrl := hr r (List.mem_cons_self)
    unfold total at h1
    have hd : (done ++ r :: rest).length = done.length + rest.length + 1 := by simp; omega
    refine Ev.succ ?_; simp only [laws_markInt64SS.l0]
    rw [rl_mid, wrap_succ (by omega), Int.toNat_natCast]
    repeat (first | with_reducible exact Ev.now _ | dsimp only | with_reducible refine Ev.bind (markInt64S r hrl a h0 (by omega)) ?_ | refine Ev.pos (by first | omega | rfl | assumption | decide) ?_ | refine Ev.neg (by first | omega | assumption | exact Bool.false_ne_true | exact fun e => absurd e (by decide)) ?_ | simp only [bne_self_eq_false, Bool.not_true, Bool.not_false, List.length_cons, List.length_nil] | rw [wrap_id (by omega) (by omega)] | with_reducible exact (markInt64S r hrl a h0 (by omega)) | ((with_reducible refine Ev.eq (congrArg some ?_)); rfl))
    have e1 : (done ++ r :: rest).set done.length (marks a r.length) = (done ++ [marks a r.length]) ++ rest := by
      rw [List.set_append_right _ _ (Nat.le_refl _), Nat.sub_self, List.set_cons_zero, List.append_assoc]
      rfl
    have := ih (done ++ [marks a r.length]) (a + r.length) (by simp at hl ⊢; omega) (fun x hx => hr x (List.mem_cons_of_mem _ hx)) (by omega) (by omega)
    rw [e1]
    rw [List.length_append, List.length_singleton] at this
    unfold total marksR
    rw [show a + ((r.length + total rest : Nat) : Int) = a + r.length + total rest by omega, show done ++ marks a r.length :: marksR (a + r.length) rest = (done ++ [marks a r.length]) ++ marksR (a + r.length) rest by rw [List.append_assoc]; rfl]
    exact this

theorem markRows (rs : List (List Int)) (h : Mod rs) : Ev (fun k => laws_markInt64SS.f k rs 1) (1 + total rs, marksR 1 rs) := by
  have := total_le rs h.2
  have hl := h.1
  exact markRows_loop rs [] 1 hl h.2 (by decide) (by omega)

theorem heldRows_loop : ∀ (rest done : List (List Int)) (a : Int), (done ++ rest).length ≤ 1048576 → (∀ r ∈ rest, r.length ≤ 1048576) → 0 ≤ a → a + total rest ≤ 1125899906842624 →
    Ev (fun k => laws_heldInt64SS.l0 k (done ++ marksR a rest) a (done.length : Int)) (a + total rest) := by
  intro rest
  induction rest with
  | nil =>
    intro done a hl hr h0 h1
    refine Ev.succ ?_; simp only [laws_heldInt64SS.l0]
    unfold marksR total
    rw [show a + ((0 : Nat) : Int) = a by omega, List.append_nil]
    repeat (first | with_reducible exact Ev.now _ | dsimp only | refine Ev.pos (by first | omega | rfl | assumption | decide) ?_ | refine Ev.neg (by first | omega | assumption | exact Bool.false_ne_true | exact fun e => absurd e (by decide)) ?_ | simp only [bne_self_eq_false, Bool.not_true, Bool.not_false, List.length_cons, List.length_nil] | rw [wrap_id (by omega) (by omega)] | ((with_reducible refine Ev.eq (congrArg some ?_)); rfl))
  | cons r rest ih =>
    intro done a hl hr h0 h1
    have hrl := hr r (List.mem_cons_self)
    unfold total at h1
    have hd : (done ++ marksR a (r :: rest)).length = done.length + rest.length + 1 := by rw [List.length_append, marksR_length, List.length_cons]; omega
    have hd2 : (done ++ r :: rest).length = done.length + rest.length + 1 := by simp; omega
    refine Ev.succ ?_; simp only [laws_heldInt64SS.l0]
    unfold marksR at hd ⊢
    rw [rl_mid, wrap_succ (by omega)]
    repeat (first | with_reducible exact Ev.now _ | dsimp only | with_reducible refine Ev.bind (heldInt64S a r.length hrl h0 (by omega)) ?_ | refine Ev.pos (by first | omega | rfl | assumption | decide) ?_ | refine Ev.neg (by first | omega | assumption | exact Bool.false_ne_true | exact fun e => absurd e (by decide)) ?_ | simp only [bne_self_eq_false, Bool.not_true, Bool.not_false, List.length_cons, List.length_nil] | rw [wrap_id (by omega) (by omega)] | with_reducible exact (heldInt64S a r.length hrl h0 (by omega)) | ((with_reducible refine Ev.eq (congrArg some ?_)); rfl))
    have := ih (done ++ [marks a r.length]) (a + r.length) (by simp at hl ⊢; omega) (fun x hx => hr x (List.mem_cons_of_mem _ hx)) (by omega) (by omega)
    rw [List.length_append, List.length_singleton] at this
    unfold total
    rw [show a + ((r.length + total rest : Nat) : Int) = a + r.length + total rest by omega, show done ++ marks a r.length :: marksR (a + r.length) rest = (done ++ [marks a r.length]) ++ marksR (a + r.length) rest by rw [List.append_assoc]; rfl]
    exact this

theorem heldRows (rs : List (List Int)) (h : Mod rs) : Ev (fun k => laws_heldInt64SS.f k (marksR 1 rs) 1) (1 + total rs) := by
  have := total_le rs h.2
  have hl := h.1
  exact heldRows_loop rs [] 1 hl h.2 (by decide) (by omega)
def bs (l : List UInt8) : ByteArray := ⟨l.toArray⟩

theorem bs_data (a : ByteArray) : bs a.data.toList = a := by
  obtain ⟨⟨l⟩⟩ := a
  rfl

theorem bs_ex (a : ByteArray) : ∃ l, a = bs l := ⟨a.data.toList, (bs_data a).symm⟩

theorem bs_size (l : List UInt8) : (bs l).size = l.length := by simp [bs, ByteArray.size]

theorem bs_toList (l : List UInt8) : (bs l).toList = l := ByteArray.toList_mk l

theorem bs_app (l m : List UInt8) : bs l ++ bs m = bs (l ++ m) := by
  apply ByteArray.ext
  simp [bs]

theorem bs_extract (l : List UInt8) (a b : Nat) : (bs l).extract a b = bs ((l.take b).drop a) := by
  apply ByteArray.ext
  simp [bs, List.extract_eq_drop_take']

theorem bs_bt {l : List UInt8} {i : Nat} (h : i < l.length) : bt (bs l) (i : Int) = (l[i].toNat : Int) := by
  unfold bt
  rw [dif_pos (by rw [bs_size]; simpa using h)]
  rfl

theorem Ev.uniq {α : Type} {g : Nat → Option α} {r s : α} (h : Ev g r) (k : Ev g s) : r = s := by
  obtain ⟨K, h⟩ := h
  obtain ⟨L, k⟩ := k
  have h1 := h (max K L) (by omega)
  rw [k (max K L) (by omega)] at h1
  exact (Option.some.inj h1).symm

/-- The parts between the bytes c. -/
def splitL (c : UInt8) : List UInt8 → List (List UInt8)
  | [] => [[]]
  | b :: s => if b = c then [] :: splitL c s else
    match splitL c s with
    | [] => [[b]]
    | x :: xs => (b :: x) :: xs

/-- A text put ahead of the first part. -/
def glue (p : List UInt8) : List (List UInt8) → List (List UInt8)
  | [] => [p]
  | x :: xs => (p ++ x) :: xs

theorem splitL_ne (c : UInt8) (s : List UInt8) : splitL c s ≠ [] := by
  cases s with
  | nil => simp [splitL]
  | cons b s =>
    unfold splitL
    split
    · simp
    · split <;> simp

theorem splitL_eq (c : UInt8) (s : List UInt8) : splitL c (c :: s) = [] :: splitL c s := by simp [splitL]

theorem splitL_ne_cons {b c : UInt8} (h : b ≠ c) (s : List UInt8) : splitL c (b :: s) = glue [b] (splitL c s) := by
  rw [splitL, if_neg h]
  cases e : splitL c s with
  | nil => exact absurd e (splitL_ne c s)
  | cons x xs => rfl

theorem glue_glue (p q : List UInt8) (xs : List (List UInt8)) : glue p (glue q xs) = glue (p ++ q) xs := by
  cases xs <;> simp [glue]

theorem glue_nil {xs : List (List UInt8)} (h : xs ≠ []) : glue [] xs = xs := by
  cases xs with
  | nil => exact absurd rfl h
  | cons x xs => rfl

theorem splitL_length (c : UInt8) (s : List UInt8) : (splitL c s).length = s.count c + 1 := by
  induction s with
  | nil => rfl
  | cons b s ih =>
    by_cases h : b = c
    · subst h
      rw [splitL_eq, List.length_cons, ih]
      simp
    · rw [splitL_ne_cons h, List.count_cons_of_ne h, ← ih]
      cases e : splitL c s with
      | nil => exact absurd e (splitL_ne c s)
      | cons x xs => rfl

def joinL (c : UInt8) : List (List UInt8) → List UInt8
  | [] => []
  | [x] => x
  | x :: y :: r => x ++ c :: joinL c (y :: r)

theorem joinL_cons {c : UInt8} (x : List UInt8) {xs : List (List UInt8)} (h : xs ≠ []) : joinL c (x :: xs) = x ++ c :: joinL c xs := by
  cases xs with
  | nil => exact absurd rfl h
  | cons y r => rfl

theorem joinL_glue (c : UInt8) (p : List UInt8) {xs : List (List UInt8)} (h : xs ≠ []) : joinL c (glue p xs) = p ++ joinL c xs := by
  cases xs with
  | nil => exact absurd rfl h
  | cons x xs =>
    cases xs with
    | nil => rfl
    | cons y r => simp [glue, joinL]

theorem joinL_splitL (c : UInt8) (s : List UInt8) : joinL c (splitL c s) = s := by
  induction s with
  | nil => rfl
  | cons b s ih =>
    by_cases h : b = c
    · subst h
      rw [splitL_eq, joinL_cons _ (splitL_ne _ _), ih]
      rfl
    · rw [splitL_ne_cons h, joinL_glue _ _ (splitL_ne _ _), ih]
      rfl

theorem splitL_free {c : UInt8} {x : List UInt8} (h : ∀ b ∈ x, b ≠ c) : splitL c x = [x] := by
  induction x with
  | nil => rfl
  | cons b x ih =>
    rw [splitL_ne_cons (h b (List.mem_cons_self)), ih (fun y hy => h y (List.mem_cons_of_mem _ hy))]
    rfl

theorem splitL_app {c : UInt8} {x : List UInt8} (h : ∀ b ∈ x, b ≠ c) (s : List UInt8) : splitL c (x ++ c :: s) = x :: splitL c s := by
  induction x with
  | nil => exact splitL_eq c s
  | cons b x ih =>
    rw [List.cons_append, splitL_ne_cons (h b (List.mem_cons_self)), ih (fun y hy => h y (List.mem_cons_of_mem _ hy))]
    rfl

theorem splitL_joinL {c : UInt8} (xs : List (List UInt8)) (hne : xs ≠ []) (h : ∀ x ∈ xs, ∀ b ∈ x, b ≠ c) : splitL c (joinL c xs) = xs := by
  induction xs with
  | nil => exact absurd rfl hne
  | cons x xs ih =>
    cases xs with
    | nil => exact splitL_free (h x (List.mem_cons_self))
    | cons y r =>
      rw [joinL_cons _ (by simp), splitL_app (h x (List.mem_cons_self)), ih (by simp) (fun z hz => h z (List.mem_cons_of_mem _ hz))]

theorem join_joinL (c : UInt8) (xs : List (List UInt8)) : Lib.join xs [c] = joinL c xs := by
  induction xs with
  | nil => rfl
  | cons x xs ih =>
    cases xs with
    | nil => exact Lib.join_one x [c]
    | cons y r =>
      rw [joinL_cons _ (by simp), ← ih]
      simp [Lib.join, List.intercalate]

theorem index_spec (c : UInt8) (s : List UInt8) : (Lib.indexByte s c = -1 ∧ ∀ b ∈ s, b ≠ c) ∨ ∃ x y, s = x ++ c :: y ∧ (∀ b ∈ x, b ≠ c) ∧ Lib.indexByte s c = (x.length : Int) := by
  induction s with
  | nil => exact Or.inl ⟨rfl, by simp⟩
  | cons b s ih =>
    unfold Lib.indexByte
    by_cases h : b = c
    · subst h
      exact Or.inr ⟨[], s, rfl, by simp, by simp⟩
    · rw [if_neg (by simpa using h)]
      rcases ih with ⟨h1, h2⟩ | ⟨x, y, h1, h2, h3⟩
      · refine Or.inl ⟨by rw [h1]; rfl, fun a ha => ?_⟩
        rcases List.mem_cons.1 ha with rfl | ha
        · exact h
        · exact h2 a ha
      · refine Or.inr ⟨b :: x, y, by rw [h1]; rfl, fun a ha => ?_, ?_⟩
        · rcases List.mem_cons.1 ha with rfl | ha
          · exact h
          · exact h2 a ha
        · rw [h3, if_neg (by simp)]
          simp

/-- A figure. -/
def dg (n : Int) : UInt8 := UInt8.ofNat (48 + n.toNat)

theorem dg_toNat {n : Int} (h0 : 0 ≤ n) (h1 : n < 10) : ((dg n).toNat : Int) = 48 + n := by
  unfold dg
  rw [UInt8.toNat_ofNat', Nat.mod_eq_of_lt (by omega)]
  omega

theorem dg_ne {n : Int} (h0 : 0 ≤ n) (h1 : n < 10) {c : UInt8} (h : c.toNat < 48 ∨ 57 < c.toNat) : dg n ≠ c := by
  intro e
  have := dg_toNat h0 h1
  rw [e] at this
  omega

theorem dg_of {b : UInt8} (h : 48 ≤ b.toNat) : dg ((b.toNat : Int) - 48) = b := by
  unfold dg
  apply UInt8.toNat_inj.1
  have := b.toNat_lt
  rw [UInt8.toNat_ofNat', Nat.mod_eq_of_lt (by omega)]
  omega

theorem dg_inj {m n : Int} (h0 : 0 ≤ m) (h1 : m < 10) (h2 : 0 ≤ n) (h3 : n < 10) (h : dg m = dg n) : m = n := by
  have := dg_toNat h0 h1
  rw [h, dg_toNat h2 h3] at this
  omega

def word (e : List Int) : List UInt8 := [dg (rd e 0), 45, dg (rd e 1)]

/-- The text of a graph. -/
def txt (n : Int) (l : List (List Int)) : List UInt8 := dg n :: 58 :: joinL 44 (l.map word)

section
variable {n : Int} {l : List (List Int)} (h : isGraph n l = true)
include h

theorem graph_ends {e : List Int} (he : e ∈ l) : ∃ a b : Int, e = [a, b] ∧ rd e 0 = a ∧ rd e 1 = b ∧ 0 ≤ a ∧ a < 8 ∧ 0 ≤ b ∧ b < 8 := by
  obtain ⟨h1, h2, h3, h4⟩ := (isGraph_iff n l).1 h
  obtain ⟨a, b, rfl, ha, ha', hb, hb'⟩ := h4 e he
  exact ⟨a, b, rfl, rfl, rfl, ha, by omega, hb, by omega⟩

theorem word_free {c : UInt8} (hc : (c.toNat < 48 ∨ 57 < c.toNat) ∧ c ≠ 45) : ∀ x ∈ l.map word, ∀ b ∈ x, b ≠ c := by
  intro x hx b hb
  obtain ⟨e, he, rfl⟩ := List.mem_map.1 hx
  obtain ⟨p, q, _, e0, e1, h0, h1, h2, h3⟩ := graph_ends h he
  unfold word at hb
  rw [e0, e1] at hb
  simp only [List.mem_cons, List.not_mem_nil, or_false] at hb
  rcases hb with rfl | rfl | rfl
  · exact dg_ne h0 (by omega) hc.1
  · exact fun e => hc.2 e.symm
  · exact dg_ne h2 (by omega) hc.1

theorem words_split (hl : l ≠ []) : splitL 44 (joinL 44 (l.map word)) = l.map word :=
  splitL_joinL _ (by simpa using hl) (word_free h (c := 44) (by decide))

theorem mem_joinL {c d : UInt8} (hd : (d.toNat < 48 ∨ 57 < d.toNat) ∧ d ≠ 45) (hcd : c ≠ d) : ∀ b ∈ joinL c (l.map word), b ≠ d := by
  have hf := word_free h hd
  clear h
  generalize l.map word = xs at hf
  induction xs with
  | nil => intro b hb; cases hb
  | cons x xs ih =>
    intro b hb
    cases xs with
    | nil => exact hf x (List.mem_cons_self) b hb
    | cons y r =>
      rw [joinL_cons _ (by simp)] at hb
      rcases List.mem_append.1 hb with hb | hb
      · exact hf x (List.mem_cons_self) b hb
      · rcases List.mem_cons.1 hb with rfl | hb
        · exact hcd
        · exact ih (fun z hz => hf z (List.mem_cons_of_mem _ hz)) b hb

theorem txt_split : splitL 58 (txt n l) = [[dg n], joinL 44 (l.map word)] := by
  obtain ⟨h1, h2, h3, h4⟩ := (isGraph_iff n l).1 h
  have e : txt n l = [dg n] ++ 58 :: joinL 44 (l.map word) := rfl
  rw [e, splitL_app (by simp; exact dg_ne (by omega) (by omega) (by decide)), splitL_free (mem_joinL h (by decide) (by decide))]

theorem word_split {e : List Int} (he : e ∈ l) : splitL 45 (word e) = [[dg (rd e 0)], [dg (rd e 1)]] := by
  obtain ⟨p, q, _, e0, e1, h0, h1, h2, h3⟩ := graph_ends h he
  unfold word
  rw [e0, e1]
  have e : [dg p, 45, dg q] = [dg p] ++ 45 :: [dg q] := rfl
  rw [e, splitL_app (by simp; exact dg_ne h0 (by omega) (by decide)), splitL_free (by simp; exact dg_ne h2 (by omega) (by decide))]

end

theorem joinL_word_length (l : List (List Int)) : (joinL 44 (l.map word)).length + 1 ≤ 4 * l.length + 1 := by
  induction l with
  | nil => simp [joinL]
  | cons e l ih =>
    cases l with
    | nil => simp [joinL, word]
    | cons f r =>
      rw [List.map_cons, joinL_cons _ (by simp)]
      simp [word] at ih ⊢
      omega
theorem lit44 : (⟨#[44]⟩ : ByteArray) = bs [44] := rfl
theorem lit45 : (⟨#[45]⟩ : ByteArray) = bs [45] := rfl
theorem lit58 : (⟨#[58]⟩ : ByteArray) = bs [58] := rfl

theorem txt_small (n : Int) (l : List (List Int)) (hl : l.length ≤ 10) (i : Nat) : (dg n :: 58 :: joinL 44 ((l.take i).map word)).length ≤ 50 := by
  have := joinL_word_length (l.take i)
  simp only [List.length_cons, List.length_take] at this ⊢
  omega

theorem specSplit_loop (s : List UInt8) (c : UInt8) (hs : s.length ≤ 1048576) : ∀ (d i j : Nat) (acc : List ByteArray), i + d = s.length → j ≤ i → acc.length ≤ i →
    Ev (fun k => spec_l01Split.l0 k (bs s) (c.toNat : Int) acc (j : Int) (i : Int)) (acc ++ (glue ((s.take i).drop j) (splitL c (s.drop i))).map bs) := by
  intro d
  induction d with
  | zero =>
    intro i j acc hi hj ha
    have e : i = s.length := by omega
    subst e
    refine Ev.succ ?_; simp only [spec_l01Split.l0]
    refine Ev.neg (by rw [bs_size]; omega) ?_
    refine Ev.pos (by omega) ?_
    refine Ev.pos (by rw [bs_size]; omega) ?_
    refine Ev.pos (by omega) ?_
    rw [bs_size, bs_extract, List.drop_length, splitL]
    refine Ev.eq (congrArg some ?_)
    simp [glue]
  | succ d ih =>
    intro i j acc hi hj ha
    have hil : i < s.length := by omega
    refine Ev.succ ?_; simp only [spec_l01Split.l0]
    refine Ev.pos (by rw [bs_size]; omega) ?_
    refine Ev.pos (by omega) ?_
    rw [bs_bt hil, List.drop_eq_getElem_cons hil]
    by_cases h : s[i] = c
    · refine Ev.pos (by rw [h]) ?_
      refine Ev.pos (by omega) ?_
      refine Ev.pos (by omega) ?_
      refine Ev.pos (by rw [bs_size]; omega) ?_
      refine Ev.pos (by omega) ?_
      rw [wrap_succ (by omega), bs_extract, h, splitL_eq]
      have h1 := ih (i + 1) (i + 1) (acc ++ [bs ((s.take i).drop j)]) (by omega) (Nat.le_refl _) (by simp; omega)
      rw [List.drop_eq_nil_of_le (show (s.take (i + 1)).length ≤ i + 1 by rw [List.length_take]; omega), glue_nil (splitL_ne _ _)] at h1
      refine Ev.conv h1 ?_
      simp [glue]
    · refine Ev.neg (fun e => h (UInt8.toNat_inj.1 (by omega))) ?_
      rw [wrap_succ (by omega), splitL_ne_cons h, glue_glue]
      have h1 := ih (i + 1) j acc (by omega) (by omega) (by omega)
      rw [List.take_succ_eq_append_getElem hil, List.drop_append_of_le_length (by simp; omega)] at h1
      exact h1

theorem specSplit (s : List UInt8) (c : UInt8) (hs : s.length ≤ 1048576) : Ev (fun k => spec_l01Split.f k (bs s) (c.toNat : Int)) ((splitL c s).map bs) := by
  unfold spec_l01Split.f
  have h := specSplit_loop s c hs s.length 0 0 [] (by omega) (by omega) (by simp)
  rw [List.drop_zero, List.take_zero, glue_nil (splitL_ne _ _), List.nil_append] at h
  exact h

theorem specNumber_loop (s : List UInt8) (hs : s.length ≤ 9) : ∀ (d i x : Nat), i + d = s.length → 1 ≤ i → 1 ≤ x → (2 ≤ i → 10 ≤ x) → 2 ≤ s.length → x < 10 ^ i →
    ∃ v : Int, Ev (fun k => spec_l01Number.l0 k (bs s) (x : Int) (i : Int)) v ∧ (v = -1 ∨ 10 ≤ v) := by
  intro d
  induction d with
  | zero =>
    intro i x hi h1 hx h2 hl hp
    refine ⟨x, ?_, Or.inr (by have := h2 (by omega); omega)⟩
    refine Ev.succ ?_; simp only [spec_l01Number.l0]
    refine Ev.neg (by rw [bs_size]; omega) ?_
    exact Ev.now _
  | succ d ih =>
    intro i x hi h1 hx h2 hl hp
    have hil : i < s.length := by omega
    have hp9 : (10 : Nat) ^ i ≤ 10 ^ 9 := Nat.pow_le_pow_right (by omega) (by omega)
    by_cases c1 : s[i].toNat < 48
    · refine ⟨-1, ?_, Or.inl rfl⟩
      refine Ev.succ ?_; simp only [spec_l01Number.l0]
      refine Ev.pos (by rw [bs_size]; omega) ?_
      refine Ev.pos (by omega) ?_
      rw [bs_bt hil]
      refine Ev.pos (by omega) ?_
      exact Ev.now _
    by_cases c2 : 57 < s[i].toNat
    · refine ⟨-1, ?_, Or.inl rfl⟩
      refine Ev.succ ?_; simp only [spec_l01Number.l0]
      refine Ev.pos (by rw [bs_size]; omega) ?_
      refine Ev.pos (by omega) ?_
      rw [bs_bt hil]
      refine Ev.neg (by omega) ?_
      refine Ev.pos (by omega) ?_
      exact Ev.now _
    obtain ⟨v, h3, h4⟩ := ih (i + 1) (x * 10 + (s[i].toNat - 48)) (by omega) (by omega) (by omega) (by omega) hl (by rw [Nat.pow_succ]; omega)
    refine ⟨v, ?_, h4⟩
    refine Ev.succ ?_; simp only [spec_l01Number.l0]
    refine Ev.pos (by rw [bs_size]; omega) ?_
    refine Ev.pos (by omega) ?_
    rw [bs_bt hil]
    refine Ev.neg (by omega) ?_
    refine Ev.neg (by omega) ?_
    have e : wrap64 (wrap64 ((x : Int) * 10) + ((s[i].toNat : Int) - 48) % 256) = ((x * 10 + (s[i].toNat - 48) : Nat) : Int) := by
      rw [wrap_id (x := (x : Int) * 10) (by omega) (by omega), wrap_id (by omega) (by omega)]
      omega
    rw [e, wrap_succ (by omega)]
    exact h3

theorem specNumber_one (b : UInt8) : Ev (fun k => spec_l01Number.f k (bs [b])) (if 48 ≤ b.toNat ∧ b.toNat ≤ 57 then (b.toNat : Int) - 48 else -1) := by
  have e0 : bt (bs [b]) 0 = (b.toNat : Int) := bs_bt (l := [b]) (i := 0) (by simp)
  unfold spec_l01Number.f
  refine Ev.neg (by rw [bs_size]; simp) ?_
  refine Ev.neg (by rw [bs_size]; simp) ?_
  refine Ev.neg (by rw [bs_size]; simp) ?_
  refine Ev.succ ?_; simp only [spec_l01Number.j0]
  refine Ev.neg (by decide) ?_
  refine Ev.succ ?_; simp only [spec_l01Number.l0]
  refine Ev.pos (by rw [bs_size]; simp) ?_
  refine Ev.pos (by omega) ?_
  rw [e0]
  by_cases c1 : b.toNat < 48
  · refine Ev.pos (by omega) ?_
    rw [if_neg (by omega)]
    exact Ev.now _
  by_cases c2 : 57 < b.toNat
  · refine Ev.neg (by omega) ?_
    refine Ev.pos (by omega) ?_
    rw [if_neg (by omega)]
    exact Ev.now _
  refine Ev.neg (by omega) ?_
  refine Ev.neg (by omega) ?_
  refine Ev.succ ?_; simp only [spec_l01Number.l0]
  refine Ev.neg (by rw [bs_size, wrap_id (by omega) (by omega)]; simp) ?_
  rw [if_pos (by omega)]
  refine Ev.eq (congrArg some ?_)
  rw [wrap_id (x := (0 : Int) * 10) (by omega) (by omega), wrap_id (by omega) (by omega)]
  omega

theorem specNumber_dg {a : Int} (h0 : 0 ≤ a) (h1 : a < 10) : Ev (fun k => spec_l01Number.f k (bs [dg a])) a := by
  have h := specNumber_one (dg a)
  have := dg_toNat h0 h1
  rw [if_pos (by omega)] at h
  refine Ev.conv h (by omega)

theorem specNumber (s : List UInt8) : ∃ v : Int, Ev (fun k => spec_l01Number.f k (bs s)) v ∧ (0 ≤ v → v < 10 → s = [dg v]) := by
  have fail : ∀ k, spec_l01Number.j0 (k + 1) (bs s) true = some (-1) := fun k => by simp [spec_l01Number.j0]
  by_cases c0 : s.length = 0
  · refine ⟨-1, ?_, by omega⟩
    unfold spec_l01Number.f
    refine Ev.pos (by rw [bs_size]; omega) ?_
    exact Ev.succ ⟨0, fun k _ => fail k⟩
  by_cases c9 : 9 < s.length
  · refine ⟨-1, ?_, by omega⟩
    unfold spec_l01Number.f
    refine Ev.neg (by rw [bs_size]; omega) ?_
    refine Ev.pos (by rw [bs_size]; omega) ?_
    exact Ev.succ ⟨0, fun k _ => fail k⟩
  by_cases c1 : s.length = 1
  · match s, c1 with
    | [b], _ =>
      refine ⟨_, specNumber_one b, fun h0 h1 => ?_⟩
      by_cases c : 48 ≤ b.toNat ∧ b.toNat ≤ 57
      · rw [if_pos c, dg_of c.1]
      · rw [if_neg c] at h0
        omega
  have h0 : 0 < s.length := by omega
  have e0 : bt (bs s) 0 = (s[0].toNat : Int) := bs_bt h0
  by_cases c2 : s[0].toNat = 48
  · refine ⟨-1, ?_, by omega⟩
    unfold spec_l01Number.f
    refine Ev.neg (by rw [bs_size]; omega) ?_
    refine Ev.neg (by rw [bs_size]; omega) ?_
    refine Ev.pos (by rw [bs_size]; omega) ?_
    refine Ev.pos (by rw [bs_size]; omega) ?_
    rw [e0, c2]
    exact Ev.succ ⟨0, fun k _ => fail k⟩
  have e1 : (((s[0].toNat : Nat) : Int) == 48) = false := by
    apply beq_eq_false_iff_ne.2
    omega
  by_cases c3 : s[0].toNat < 48 ∨ 57 < s[0].toNat
  · refine ⟨-1, ?_, by omega⟩
    unfold spec_l01Number.f
    refine Ev.neg (by rw [bs_size]; omega) ?_
    refine Ev.neg (by rw [bs_size]; omega) ?_
    refine Ev.pos (by rw [bs_size]; omega) ?_
    refine Ev.pos (by rw [bs_size]; omega) ?_
    rw [e0, e1]
    refine Ev.succ ?_; simp only [spec_l01Number.j0]
    refine Ev.neg (by decide) ?_
    refine Ev.succ ?_; simp only [spec_l01Number.l0]
    refine Ev.pos (by rw [bs_size]; omega) ?_
    refine Ev.pos (by omega) ?_
    rw [e0]
    by_cases c4 : s[0].toNat < 48
    · refine Ev.pos (by omega) ?_
      exact Ev.now _
    · refine Ev.neg (by omega) ?_
      refine Ev.pos (by omega) ?_
      exact Ev.now _
  · obtain ⟨v, h3, h4⟩ := specNumber_loop s (by omega) (s.length - 1) 1 (s[0].toNat - 48) (by omega) (by omega) (by omega) (by omega) (by omega) (by omega)
    refine ⟨v, ?_, by omega⟩
    unfold spec_l01Number.f
    refine Ev.neg (by rw [bs_size]; omega) ?_
    refine Ev.neg (by rw [bs_size]; omega) ?_
    refine Ev.pos (by rw [bs_size]; omega) ?_
    refine Ev.pos (by rw [bs_size]; omega) ?_
    rw [e0, e1]
    refine Ev.succ ?_; simp only [spec_l01Number.j0]
    refine Ev.neg (by decide) ?_
    refine Ev.succ ?_; simp only [spec_l01Number.l0]
    refine Ev.pos (by rw [bs_size]; omega) ?_
    refine Ev.pos (by omega) ?_
    rw [e0]
    refine Ev.neg (by omega) ?_
    refine Ev.neg (by omega) ?_
    have e : wrap64 (wrap64 ((0 : Int) * 10) + ((s[0].toNat : Int) - 48) % 256) = ((s[0].toNat - 48 : Nat) : Int) := by
      rw [wrap_id (x := (0 : Int) * 10) (by omega) (by omega), wrap_id (by omega) (by omega)]
      omega
    rw [e, show wrap64 ((0 : Int) + 1) = ((1 : Nat) : Int) from wrap_id (by omega) (by omega)]
    exact h3
theorem rdOf_map {xs : List (List UInt8)} {i : Nat} (h : i < xs.length) : rdOf ByteArray.empty (xs.map bs) (i : Int) = bs xs[i] := by
  simp [rdOf, List.getD_eq_getElem?_getD, h]

theorem specRead_loop (ps : List (List UInt8)) (hps : ps.length ≤ 1048576) (hpl : ∀ p ∈ ps, p.length ≤ 1048576) (n : Int) : ∀ (d i : Nat) (E : List (List Int)), i + d = ps.length → E.length = i → (∀ r ∈ E, r.length = 2) →
    ∃ r, Ev (fun k => spec_l01Read.l0 k (ps.map bs) (i : Int) n E) r ∧
      ((r = (0, [], false) ∧ ∀ l, isGraph n (E ++ l) = true → ps.drop i ≠ l.map word) ∨
       ∃ l, r = (n, E ++ l, true) ∧ isGraph n (E ++ l) = true ∧ ps.drop i = l.map word) := by
  intro d
  induction d with
  | zero =>
    intro i E hi hE hr
    have hm : Mod E := ⟨by omega, fun r h => by rw [hr r h]; omega⟩
    have e : ps.drop i = [] := List.drop_eq_nil_of_le (by omega)
    by_cases g : isGraph n E = true
    · refine ⟨(n, E, true), ?_, Or.inr ⟨[], by rw [List.append_nil], by rw [List.append_nil]; exact g, e⟩⟩
      refine Ev.succ ?_; simp only [spec_l01Read.l0]
      refine Ev.neg (by rw [List.length_map]; omega) ?_
      refine Ev.bind (specIs n E hm) ?_
      rw [g]
      repeat (first | with_reducible exact Ev.now _ | dsimp only | refine Ev.pos (by first | omega | rfl | assumption | decide) ?_ | refine Ev.neg (by first | omega | assumption | exact Bool.false_ne_true | exact fun e => absurd e (by decide)) ?_ | simp only [bne_self_eq_false, Bool.not_true, Bool.not_false, List.length_cons, List.length_nil] | rw [wrap_id (by omega) (by omega)] | ((with_reducible refine Ev.eq (congrArg some ?_)); rfl))
    · refine ⟨(0, [], false), ?_, Or.inl ⟨rfl, fun l hg hl => ?_⟩⟩
      · refine Ev.succ ?_; simp only [spec_l01Read.l0]
        refine Ev.neg (by rw [List.length_map]; omega) ?_
        refine Ev.bind (specIs n E hm) ?_
        rw [Bool.eq_false_iff.2 g]
        repeat (first | with_reducible exact Ev.now _ | dsimp only | refine Ev.pos (by first | omega | rfl | assumption | decide) ?_ | refine Ev.neg (by first | omega | assumption | exact Bool.false_ne_true | exact fun e => absurd e (by decide)) ?_ | simp only [bne_self_eq_false, Bool.not_true, Bool.not_false, List.length_cons, List.length_nil] | rw [wrap_id (by omega) (by omega)] | ((with_reducible refine Ev.eq (congrArg some ?_)); rfl))
      · rw [e] at hl
        have : l = [] := by simpa using hl.symm
        rw [this, List.append_nil] at hg
        exact g hg
  | succ d ih =>
    intro i E hi hE hr
    have hil : i < ps.length := by omega
    have hp := hpl ps[i] (List.getElem_mem hil)
    have hsp := specSplit ps[i] 45 hp
    have e45 : (((45 : UInt8).toNat : Nat) : Int) = 45 := rfl
    rw [e45] at hsp
    have hd : ps.drop i = ps[i] :: ps.drop (i + 1) := List.drop_eq_getElem_cons hil
    by_cases h2 : (splitL 45 ps[i]).length = 2
    · obtain ⟨u, v, huv⟩ := len_two h2
      obtain ⟨a, ha, ha'⟩ := specNumber u
      obtain ⟨b, hb, hb'⟩ := specNumber v
      obtain ⟨r, h3, h4⟩ := ih (i + 1) (E ++ [[a, b]]) (by omega) (by simp [hE]) (fun r h => by
        rcases List.mem_append.1 h with h | h
        · exact hr r h
        · rw [List.mem_singleton.1 h]; rfl)
      have hj : ps[i] = u ++ 45 :: v := by rw [← joinL_splitL 45 ps[i], huv]; rfl
      refine ⟨r, ?_, ?_⟩
      · refine Ev.succ ?_; simp only [spec_l01Read.l0]
        refine Ev.pos (by rw [List.length_map]; omega) ?_
        refine Ev.pos (by omega) ?_
        rw [rdOf_map hil]
        refine Ev.bind hsp ?_
        rw [huv]
        refine Ev.pos (by simp) ?_
        refine Ev.pos (by simp) ?_
        refine Ev.bind (f := fun k t => _) (show Ev (fun k => spec_l01Number.f k (rdOf ByteArray.empty (List.map bs [u, v]) 0)) a from ha) ?_
        refine Ev.pos (by simp) ?_
        refine Ev.bind (f := fun k t => _) (show Ev (fun k => spec_l01Number.f k (rdOf ByteArray.empty (List.map bs [u, v]) 1)) b from hb) ?_
        refine Ev.pos (by omega) ?_
        rw [wrap_succ (by omega)]
        exact h3
      · rcases h4 with ⟨rfl, h4⟩ | ⟨l, rfl, h5, h6⟩
        · refine Or.inl ⟨rfl, fun l hg hl => ?_⟩
          cases l with
          | nil => rw [hd] at hl; cases hl
          | cons e l =>
            rw [hd, List.map_cons] at hl
            injection hl with hl1 hl2
            have hw := word_split hg (e := e) (by simp)
            rw [← hl1, huv] at hw
            injection hw with hw1 hw2
            injection hw2 with hw2 _
            obtain ⟨x, y, rfl, ex, ey, x0, x1, y0, y1⟩ := graph_ends hg (e := e) (by simp)
            rw [ex] at hw1
            rw [ey] at hw2
            subst hw1 hw2
            have ea := Ev.uniq ha (specNumber_dg x0 (by omega))
            have eb := Ev.uniq hb (specNumber_dg y0 (by omega))
            subst ea eb
            exact h4 l (by rw [List.append_assoc]; exact hg) hl2
        · have hg : isGraph n (E ++ ([a, b] :: l)) = true := by rw [List.append_assoc] at h5; exact h5
          refine Or.inr ⟨[a, b] :: l, by rw [List.append_assoc]; rfl, hg, ?_⟩
          obtain ⟨x, y, e, ex, ey, x0, x1, y0, y1⟩ := graph_ends hg (e := [a, b]) (by simp)
          injection e with e1 e2
          injection e2 with e2 _
          subst e1 e2
          rw [hd, List.map_cons, h6, hj, ha' x0 (by omega), hb' y0 (by omega)]
          rfl
    · refine ⟨(0, [], false), ?_, Or.inl ⟨rfl, fun l hg hl => ?_⟩⟩
      · refine Ev.succ ?_; simp only [spec_l01Read.l0]
        refine Ev.pos (by rw [List.length_map]; omega) ?_
        refine Ev.pos (by omega) ?_
        rw [rdOf_map hil]
        refine Ev.bind hsp ?_
        refine Ev.neg (by rw [List.length_map]; omega) ?_
        exact Ev.now _
      · cases l with
        | nil => rw [hd] at hl; cases hl
        | cons e l =>
          rw [hd, List.map_cons] at hl
          injection hl with hl1 hl2
          have hw := word_split hg (e := e) (by simp)
          rw [← hl1] at hw
          rw [hw] at h2
          exact h2 rfl

theorem count_le_len (c : UInt8) (s : List UInt8) : (splitL c s).length ≤ s.length + 1 := by
  rw [splitL_length]
  have := List.count_le_length (a := c) (l := s)
  omega

theorem mem_splitL {c : UInt8} {s p : List UInt8} (h : p ∈ splitL c s) : p.length ≤ s.length := by
  induction s generalizing p with
  | nil => simp [splitL] at h; simp [h]
  | cons b s ih =>
    by_cases e : b = c
    · subst e
      rw [splitL_eq] at h
      rcases List.mem_cons.1 h with rfl | h
      · simp
      · have := ih h; simp; omega
    · rw [splitL_ne_cons e] at h
      cases hs : splitL c s with
      | nil => exact absurd hs (splitL_ne c s)
      | cons x xs =>
        rw [hs] at h ih
        rcases List.mem_cons.1 h with rfl | h
        · have := ih (List.mem_cons_self)
          simp at this ⊢
          omega
        · have := ih (List.mem_cons_of_mem _ h)
          simp; omega

theorem specRead (s : List UInt8) (hs : s.length ≤ 1048576) : ∃ r, Ev (fun k => spec_l01Read.f k (bs s)) r ∧
    ((r = (0, [], false) ∧ ∀ n l, isGraph n l = true → s ≠ txt n l) ∨ ∃ n l, r = (n, l, true) ∧ isGraph n l = true ∧ s = txt n l) := by
  have hsp := specSplit s 58 hs
  have e58 : (((58 : UInt8).toNat : Nat) : Int) = 58 := rfl
  rw [e58] at hsp
  by_cases h2 : (splitL 58 s).length = 2
  · obtain ⟨u, v, huv⟩ := len_two h2
    have hj : s = u ++ 58 :: v := by rw [← joinL_splitL 58 s, huv]; rfl
    have hv : v.length + 1 ≤ s.length := by rw [hj, List.length_append, List.length_cons]; omega
    obtain ⟨n, hn, hn'⟩ := specNumber u
    have hsv := specSplit v 44 (by omega)
    have e44 : (((44 : UInt8).toNat : Nat) : Int) = 44 := rfl
    rw [e44] at hsv
    have hc := count_le_len 44 v
    obtain ⟨ps, hpe, hps, hpl, hem⟩ : ∃ ps : List (List UInt8), ps = (if v = [] then [] else splitL 44 v) ∧ ps.length ≤ 1048576 ∧ (∀ p ∈ ps, p.length ≤ 1048576) ∧ joinL 44 ps = v := by
      refine ⟨_, rfl, ?_, ?_, ?_⟩
      · split
        · simp
        · omega
      · intro p hp
        split at hp
        · cases hp
        · have := mem_splitL hp; omega
      · split
        · next h => rw [h]; rfl
        · exact joinL_splitL 44 v
    obtain ⟨r, h3, h4⟩ := specRead_loop ps hps hpl n ps.length 0 [] (by omega) rfl (by simp)
    refine ⟨r, ?_, ?_⟩
    · unfold spec_l01Read.f
      refine Ev.bind hsp ?_
      rw [huv]
      refine Ev.pos (by simp) ?_
      refine Ev.pos (by simp) ?_
      refine Ev.bind (f := fun k t => _) (show Ev (fun k => spec_l01Number.f k (rdOf ByteArray.empty (List.map bs [u, v]) 0)) n from hn) ?_
      refine Ev.bind (Ev.now _) ?_
      refine Ev.pos (by simp) ?_
      refine Ev.bind (f := fun k t => _) (show Ev (fun k => spec_l01Split.f k (rdOf ByteArray.empty (List.map bs [u, v]) 1) 44) _ from hsv) ?_
      have ev : (rdOf ByteArray.empty (List.map bs [u, v]) 1).toList = v := bs_toList v
      rw [ev]
      by_cases hv0 : v = []
      · refine Ev.pos hv0 ?_
        rw [if_pos hv0] at hpe
        refine Ev.succ ?_; simp only [spec_l01Read.j0]
        rw [hpe] at h3
        exact h3
      · refine Ev.neg hv0 ?_
        rw [if_neg hv0] at hpe
        refine Ev.succ ?_; simp only [spec_l01Read.j0]
        rw [hpe] at h3
        exact h3
    · rw [List.drop_zero] at h4
      rcases h4 with ⟨rfl, h4⟩ | ⟨l, rfl, h5, h6⟩
      · refine Or.inl ⟨rfl, fun n' l hg hs' => ?_⟩
        have hts := txt_split hg
        rw [← hs', huv] at hts
        injection hts with t1 t2
        injection t2 with t2 _
        subst t1
        obtain ⟨g1, g2, g3⟩ := graph_small hg
        have en := Ev.uniq hn (specNumber_dg (a := n') (by omega) (by omega))
        subst en
        refine h4 l hg ?_
        rw [hpe]
        cases l with
        | nil =>
          rw [if_pos (by rw [t2]; rfl)]
          rfl
        | cons e l =>
          rw [if_neg, t2, words_split hg (by simp)]
          rw [t2]
          cases l <;> simp [joinL, word]
      · rw [List.nil_append] at h5
        refine Or.inr ⟨n, l, rfl, h5, ?_⟩
        obtain ⟨g1, g2, g3⟩ := graph_small h5
        rw [hj, hn' (by omega) (by omega), ← hem, h6]
        rfl
  · refine ⟨(0, [], false), ?_, Or.inl ⟨rfl, fun n l hg hs' => ?_⟩⟩
    · unfold spec_l01Read.f
      refine Ev.bind hsp ?_
      refine Ev.neg (by rw [List.length_map]; omega) ?_
      exact Ev.now _
    · rw [hs', txt_split hg] at h2
      exact h2 rfl
theorem implDecimal {n : Int} (h0 : 0 ≤ n) (h1 : n < 10) : impl_decimal.f n = some (bs [dg n]) := by
  unfold impl_decimal.f strconv_FormatInt_46.f strconv_FormatInt_54.f
  rw [if_pos rfl, if_pos h0, if_pos h1]
  rfl

theorem map_data (xs : List (List UInt8)) : (xs.map bs).map (fun x => x.data.toList) = xs := by
  induction xs with
  | nil => rfl
  | cons x xs ih => rw [List.map_cons, List.map_cons, ih]; rfl

theorem implJoin (xs : List (List UInt8)) (h : xs.length ≤ 1000) (h2 : (joinL 44 xs).length ≤ 1000) : strings_Join.f (xs.map bs) (⟨#[44]⟩ : ByteArray) = some (bs (joinL 44 xs)) := by
  have e : Lib.join ((xs.map bs).map (fun x => x.data.toList)) ((⟨#[44]⟩ : ByteArray).data.toList) = joinL 44 xs := by
    rw [map_data]
    exact join_joinL 44 xs
  unfold strings_Join.f
  rw [if_pos (by rw [List.length_map]; omega), e, if_pos (by omega)]
  rfl

theorem implText {n : Int} {l : List (List Int)} (h : isGraph n l = true) : Ev (fun k => impl_graphText.f k n l) (bs (txt n l)) := by
  obtain ⟨g1, g2, g3⟩ := graph_small h
  have loop : ∀ (d i : Nat), i + d = l.length → Ev (fun k => impl_graphText.l0 k (((l.take i).map word).map bs) l (l.length : Int) (i : Int) n l) (bs (txt n l)) := by
    intro d
    induction d with
    | zero =>
      intro i hi
      have e : i = l.length := by omega
      subst e
      have hj := joinL_word_length l
      refine Ev.succ ?_; simp only [impl_graphText.l0]
      refine Ev.neg (by omega) ?_
      refine Ev.bind (Ev.eq (implDecimal (n := n) (by omega) (by omega))) ?_
      refine Ev.pos (by rw [bs_size]; simp) ?_
      rw [List.take_length]
      refine Ev.bind (Ev.eq (implJoin _ (by rw [List.length_map]; omega) (by omega))) ?_
      rw [lit58, bs_app]
      refine Ev.pos (by rw [bs_size, bs_size]; simp only [List.length_append, List.length_cons, List.length_nil]; omega) ?_
      rw [bs_app]
      exact Ev.now _
    | succ d ih =>
      intro i hi
      have hil : i < l.length := by omega
      have ih1 := ih (i + 1) (by omega)
      obtain ⟨a, b, he, e0, e1, a0, a1, b0, b1⟩ := graph_ends h (List.getElem_mem hil)
      have hlen : l[i].length = 2 := by rw [he]; rfl
      have hw : word l[i] = [dg a, 45, dg b] := by unfold word; rw [e0, e1]
      rw [List.take_succ_eq_append_getElem hil, List.map_append, List.map_cons, List.map_nil, List.map_append, List.map_cons, List.map_nil, hw] at ih1
      refine Ev.succ ?_; simp only [impl_graphText.l0]
      refine Ev.pos (by omega) ?_
      refine Ev.pos (by omega) ?_
      refine Ev.pos (by omega) ?_
      rw [rl_lt hil]
      refine Ev.pos (by omega) ?_
      rw [e0]
      refine Ev.bind (Ev.eq (implDecimal a0 (by omega))) ?_
      refine Ev.pos (by rw [bs_size]; simp) ?_
      refine Ev.pos (by omega) ?_
      rw [e1]
      refine Ev.bind (Ev.eq (implDecimal b0 (by omega))) ?_
      rw [lit45, bs_app]
      refine Ev.pos (by rw [bs_size, bs_size]; simp) ?_
      refine Ev.pos (by rw [List.length_map, List.length_map, List.length_take]; omega) ?_
      rw [bs_app, wrap_succ (by omega)]
      exact ih1
  unfold impl_graphText.f
  exact loop l.length 0 (by omega)

theorem implIndex (s : List UInt8) (c : UInt8) : stringslite_Index.f (bs s) (bs [c]) = some (Lib.indexByte s c) := rfl

theorem implCut (s : List UInt8) (hs : s.length ≤ 1048576) : (strings_Cut.f (bs s) (⟨#[58]⟩ : ByteArray) = some (bs s, ByteArray.empty, false) ∧ ∀ b ∈ s, b ≠ 58) ∨
    ∃ x y, s = x ++ 58 :: y ∧ (∀ b ∈ x, b ≠ 58) ∧ strings_Cut.f (bs s) (⟨#[58]⟩ : ByteArray) = some (bs x, bs y, true) := by
  rw [lit58]
  unfold strings_Cut.f stringslite_Cut.f
  rw [implIndex, bs_size, bs_size]
  simp only [Option.bind_some]
  rcases index_spec 58 s with ⟨h1, h2⟩ | ⟨x, y, h1, h2, h3⟩
  · refine Or.inl ⟨?_, h2⟩
    rw [h1, if_neg (by omega)]
    rfl
  · refine Or.inr ⟨x, y, h1, h2, ?_⟩
    have hl : s.length = x.length + 1 + y.length := by rw [h1]; simp; omega
    have e1 : ([58] : List UInt8).length = 1 := rfl
    rw [h3, e1, if_pos (by omega), if_pos (by omega), if_pos (by omega), wrap_id (by omega) (by omega), if_pos (by omega), if_pos (by omega), bs_extract, bs_extract]
    have t1 : ((s.take ((x.length : Int)).toNat).drop 0) = x := by rw [h1]; simp
    have t2 : ((s.take s.length).drop ((x.length : Int) + ((1 : Nat) : Int)).toNat) = y := by
      rw [List.take_length, h1, show ((x.length : Int) + ((1 : Nat) : Int)).toNat = x.length + 1 by omega]
      simp
    rw [t1, t2]
    rfl

theorem implSplit_loop (c : UInt8) (N : Nat) (hN : N ≤ 1048577) : ∀ (d : Nat) (ps : List (List UInt8)) (t : List UInt8) (a : List ByteArray), (splitL c t).length = d + 1 → ps.length + (d + 1) = N → a.length = N → a.take ps.length = ps.map bs → t.length ≤ 1048576 →
    Ev (fun k => strings_genSplit.l0 k (bs t) (bs [c]) 0 ((N : Int) - 1) a (ps.length : Int)) ((ps ++ splitL c t).map bs) := by
  intro d
  induction d with
  | zero =>
    intro ps t a hd hp ha ht htl
    have hf : splitL c t = [t] := by
      rcases index_spec c t with ⟨_, h2⟩ | ⟨x, y, h1, h2, _⟩
      · exact splitL_free h2
      · rw [h1, splitL_app h2, List.length_cons] at hd
        have := List.length_pos_iff.2 (splitL_ne c y)
        omega
    refine Ev.succ ?_; simp only [strings_genSplit.l0]
    refine Ev.neg (by omega) ?_
    refine Ev.pos (by omega) ?_
    refine Ev.pos (by omega) ?_
    rw [wrap_succ (by omega)]
    refine Ev.pos (by omega) ?_
    refine Ev.pos (by omega) ?_
    refine Ev.eq (congrArg some ?_)
    rw [Int.toNat_natCast, Int.toNat_natCast, hf, List.map_append, ← ht, List.take_succ_eq_append_getElem (by rw [List.length_set]; omega), List.take_set_of_le (Nat.le_refl _)]
    simp
  | succ d ih =>
    intro ps t a hd hp ha ht htl
    rcases index_spec c t with ⟨_, h2⟩ | ⟨x, y, h1, h2, h3⟩
    · rw [splitL_free h2] at hd
      simp at hd
    · have hs : splitL c t = x :: splitL c y := by rw [h1, splitL_app h2]
      have hl : t.length = x.length + 1 + y.length := by rw [h1]; simp; omega
      have hd' : (splitL c y).length = d + 1 := by rw [hs] at hd; simpa using hd
      have h4 := ih (ps ++ [x]) y (a.set ps.length (bs x)) hd' (by simp; omega) (by simpa using ha) (by
        rw [List.length_append, List.length_singleton, List.take_succ_eq_append_getElem (by rw [List.length_set]; omega), List.take_set_of_le (Nat.le_refl _), ht]
        simp) (by omega)
      have e1 : ([c] : List UInt8).length = 1 := rfl
      refine Ev.succ ?_; simp only [strings_genSplit.l0]
      refine Ev.pos (by omega) ?_
      unfold strings_Index.f
      rw [implIndex, h3, bs_size, bs_size, e1]
      refine Ev.bind (Ev.eq rfl) ?_
      refine Ev.neg (by omega) ?_
      rw [wrap_id (x := (x.length : Int) + 0) (by omega) (by omega), wrap_id (x := (x.length : Int) + ((1 : Nat) : Int)) (by omega) (by omega)]
      refine Ev.pos (by omega) ?_
      refine Ev.pos (by omega) ?_
      refine Ev.pos (by omega) ?_
      refine Ev.pos (by omega) ?_
      refine Ev.pos (by omega) ?_
      refine Ev.pos (by omega) ?_
      rw [bs_extract, bs_extract, wrap_succ (by omega)]
      have t1 : ((t.take ((x.length : Int) + 0).toNat).drop 0) = x := by rw [h1]; simp
      have t2 : ((t.take t.length).drop ((x.length : Int) + ((1 : Nat) : Int)).toNat) = y := by
        rw [List.take_length, h1, show ((x.length : Int) + ((1 : Nat) : Int)).toNat = x.length + 1 by omega]
        simp
      rw [t1, t2, Int.toNat_natCast, hs]
      have e2 : ps ++ x :: splitL c y = (ps ++ [x]) ++ splitL c y := by simp
      rw [e2]
      have e3 : (((ps ++ [x]).length : Nat) : Int) = ((ps.length + 1 : Nat) : Int) := by simp
      rw [e3] at h4
      exact h4

theorem implSplit (c : UInt8) (s : List UInt8) (hs : s.length ≤ 1048576) : Ev (fun k => strings_Split.f k (bs s) (bs [c])) ((splitL c s).map bs) := by
  have hc := splitL_length c s
  have hl := count_le_len c s
  have e1 : ([c] : List UInt8).length = 1 := rfl
  unfold strings_Split.f strings_genSplit.f
  refine Ev.bind ?_ (Ev.now _)
  refine Ev.neg (by omega) ?_
  refine Ev.neg (by rw [bs_toList]; simp) ?_
  refine Ev.pos (by omega) ?_
  refine Ev.bind (Ev.eq (show strings_Count.f (bs s) (bs [c]) = some ((s.count c : Nat) : Int) from rfl)) ?_
  rw [wrap_succ (by omega), ← hc]
  refine Ev.succ ?_; simp only [strings_genSplit.j0]
  have em : mn (((splitL c s).length : Nat) : Int) (wrap64 (((bs s).size : Int) + 1)) = (((splitL c s).length : Nat) : Int) := by
    rw [bs_size, wrap_succ (by omega)]
    unfold mn
    rw [if_neg (by omega)]
  rw [em]
  refine Ev.pos (by omega) ?_
  refine Ev.pos (by omega) ?_
  rw [wrap_id (by omega) (by omega), Int.toNat_natCast]
  have h := implSplit_loop c (splitL c s).length (by omega) (splitL c s).length.pred [] s (List.replicate (splitL c s).length (⟨#[]⟩ : ByteArray)) (by have := List.length_pos_iff.2 (splitL_ne c s); rw [Nat.pred_eq_sub_one]; omega) (by have := List.length_pos_iff.2 (splitL_ne c s); rw [Nat.pred_eq_sub_one]; simp; omega) (by simp) (by simp) hs
  exact h
theorem parse_end (s : List UInt8) (n : Int) (E : List (List Int)) (hm : Mod E) : ∃ r, Ev (fun k => impl_ParseGraph.j2 k (bs s) n E) r ∧
    ((r = (0, [], 6) ∧ (isGraph n E = true → txt n E ≠ s)) ∨ (r = (n, E, 0) ∧ isGraph n E = true ∧ txt n E = s)) := by
  by_cases g : isGraph n E = true
  · by_cases e : txt n E = s
    · refine ⟨(n, E, 0), ?_, Or.inr ⟨rfl, g, e⟩⟩
      refine Ev.succ ?_; simp only [impl_ParseGraph.j2]
      refine Ev.bind (implIsGraph n E hm) ?_
      rw [g]
      refine Ev.pos rfl ?_
      refine Ev.bind (implText g) ?_
      refine Ev.pos (by rw [bs_toList, bs_toList]; exact e) ?_
      exact Ev.now _
    · refine ⟨(0, [], 6), ?_, Or.inl ⟨rfl, fun _ => e⟩⟩
      refine Ev.succ ?_; simp only [impl_ParseGraph.j2]
      refine Ev.bind (implIsGraph n E hm) ?_
      rw [g]
      refine Ev.pos rfl ?_
      refine Ev.bind (implText g) ?_
      refine Ev.neg (by rw [bs_toList, bs_toList]; exact e) ?_
      exact Ev.now _
  · refine ⟨(0, [], 6), ?_, Or.inl ⟨rfl, fun h => absurd h g⟩⟩
    refine Ev.succ ?_; simp only [impl_ParseGraph.j2]
    refine Ev.bind (implIsGraph n E hm) ?_
    rw [Bool.eq_false_iff.2 g]
    refine Ev.neg (by decide) ?_
    exact Ev.now _

theorem len_three {α : Type} {e : List α} (h : e.length = 3) : ∃ a b c, e = [a, b, c] := by
  match e, h with
  | [a, b, c], _ => exact ⟨a, b, c, rfl⟩

theorem parse_loop (s v : List UInt8) (hv : v ≠ []) (ws : List (List UInt8)) (hws : ws.length ≤ 1048576) (n : Int) : ∀ (d i : Nat) (E : List (List Int)), i + d = ws.length → E.length = i → (∀ r ∈ E, r.length = 2) →
    ∃ r, Ev (fun k => impl_ParseGraph.l0 k (bs s) (bs v) (ws.map bs) (ws.length : Int) (i : Int) n E) r ∧
      ((r = (0, [], 6) ∧ ∀ l, isGraph n (E ++ l) = true → txt n (E ++ l) = s → ws.drop i ≠ l.map word) ∨ ∃ l, r = (n, E ++ l, 0) ∧ isGraph n (E ++ l) = true ∧ txt n (E ++ l) = s) := by
  intro d
  induction d with
  | zero =>
    intro i E hi hE hr
    have hm : Mod E := ⟨by omega, fun r h => by rw [hr r h]; omega⟩
    obtain ⟨r, h1, h2⟩ := parse_end s n E hm
    refine ⟨r, ?_, ?_⟩
    · refine Ev.succ ?_; simp only [impl_ParseGraph.l0]
      refine Ev.neg (by omega) ?_
      exact h1
    · rcases h2 with ⟨rfl, h2⟩ | ⟨rfl, h2, h3⟩
      · refine Or.inl ⟨rfl, fun l hg ht hl => ?_⟩
        rw [List.drop_eq_nil_of_le (by omega)] at hl
        have : l = [] := by simpa using hl.symm
        rw [this, List.append_nil] at hg ht
        exact h2 hg ht
      · exact Or.inr ⟨[], by rw [List.append_nil], by rw [List.append_nil]; exact h2, by rw [List.append_nil]; exact h3⟩
  | succ d ih =>
    intro i E hi hE hr
    have hil : i < ws.length := by omega
    have hd : ws.drop i = ws[i] :: ws.drop (i + 1) := List.drop_eq_getElem_cons hil
    by_cases h3 : ws[i].length = 3
    · obtain ⟨x, y, z, hxyz⟩ := len_three h3
      obtain ⟨r, h4, h5⟩ := ih (i + 1) (E ++ [[(x.toNat : Int) - 48, (z.toNat : Int) - 48]]) (by omega) (by simp [hE]) (fun r h => by
        rcases List.mem_append.1 h with h | h
        · exact hr r h
        · rw [List.mem_singleton.1 h]; rfl)
      have hx := x.toNat_lt
      have hz := z.toNat_lt
      refine ⟨r, ?_, ?_⟩
      · refine Ev.succ ?_; simp only [impl_ParseGraph.l0]
        refine Ev.pos (by omega) ?_
        refine Ev.pos (by omega) ?_
        refine Ev.pos (by rw [List.length_map]; omega) ?_
        refine Ev.neg (by rw [bs_toList]; exact hv) ?_
        rw [rdOf_map hil, hxyz]
        refine Ev.pos (by rw [bs_size]; simp) ?_
        refine Ev.pos (by rw [bs_size]; simp) ?_
        refine Ev.pos (by rw [bs_size]; simp) ?_
        refine Ev.pos (by omega) ?_
        have ex : bt (bs [x, y, z]) 0 = (x.toNat : Int) := bs_bt (l := [x, y, z]) (i := 0) (by simp)
        have ez : bt (bs [x, y, z]) 2 = (z.toNat : Int) := bs_bt (l := [x, y, z]) (i := 2) (by simp)
        rw [ex, ez, wrap_id (x := (x.toNat : Int)) (by omega) (by omega), wrap_id (x := (z.toNat : Int)) (by omega) (by omega), wrap_id (x := (x.toNat : Int) - 48) (by omega) (by omega), wrap_id (x := (z.toNat : Int) - 48) (by omega) (by omega), wrap_succ (by omega)]
        exact h4
      · rcases h5 with ⟨rfl, h5⟩ | ⟨l, rfl, h6, h7⟩
        · refine Or.inl ⟨rfl, fun l hg ht hl => ?_⟩
          cases l with
          | nil => rw [hd] at hl; cases hl
          | cons e l =>
            rw [hd, List.map_cons, hxyz] at hl
            injection hl with hl1 hl2
            obtain ⟨p, q, rfl, ep, eq, p0, p1, q0, q1⟩ := graph_ends hg (e := e) (by simp)
            unfold word at hl1
            rw [ep, eq] at hl1
            simp only [List.cons.injEq, and_true] at hl1
            obtain ⟨rfl, rfl, rfl⟩ := hl1
            have e1 : ((dg p).toNat : Int) - 48 = p := by rw [dg_toNat p0 (by omega)]; omega
            have e2 : ((dg q).toNat : Int) - 48 = q := by rw [dg_toNat q0 (by omega)]; omega
            rw [e1, e2] at h5
            exact h5 l (by rw [List.append_assoc]; exact hg) (by rw [List.append_assoc]; exact ht) hl2
        · rw [List.append_assoc] at h6 h7
          exact Or.inr ⟨_, by rw [List.append_assoc], h6, h7⟩
    · refine ⟨(0, [], 6), ?_, Or.inl ⟨rfl, fun l hg ht hl => ?_⟩⟩
      · refine Ev.succ ?_; simp only [impl_ParseGraph.l0]
        refine Ev.pos (by omega) ?_
        refine Ev.pos (by omega) ?_
        refine Ev.pos (by rw [List.length_map]; omega) ?_
        refine Ev.neg (by rw [bs_toList]; exact hv) ?_
        rw [rdOf_map hil]
        refine Ev.neg (by rw [bs_size]; omega) ?_
        exact Ev.now _
      · cases l with
        | nil => rw [hd] at hl; cases hl
        | cons e l =>
          rw [hd, List.map_cons] at hl
          injection hl with hl1 hl2
          rw [hl1] at h3
          exact h3 rfl

theorem txt_cut {x y : List UInt8} {n : Int} {l : List (List Int)} (h : isGraph n l = true) (hx : ∀ b ∈ x, b ≠ 58) (e : txt n l = x ++ 58 :: y) : x = [dg n] ∧ y = joinL 44 (l.map word) := by
  have h1 := txt_split h
  rw [e, splitL_app hx] at h1
  injection h1 with h1 h2
  have h3 : splitL 58 y = [y] := by
    rcases index_spec 58 y with ⟨_, h4⟩ | ⟨p, q, h4, h5, _⟩
    · exact splitL_free h4
    · rw [h4, splitL_app h5] at h2
      injection h2 with _ h2
      exact absurd h2 (splitL_ne _ _)
  rw [h3] at h2
  injection h2 with h2 _
  exact ⟨h1, h2⟩

theorem implParse (s : List UInt8) (hs : s.length ≤ 1048576) : ∃ r, Ev (fun k => impl_ParseGraph.f k (bs s)) r ∧
    ((r = (0, [], 6) ∧ ∀ n l, isGraph n l = true → s ≠ txt n l) ∨ ∃ n l, r = (n, l, 0) ∧ isGraph n l = true ∧ s = txt n l) := by
  have fail : ∀ (x y : List UInt8), Ev (fun k => impl_ParseGraph.j0 k (bs s) (bs x) (bs y) true) (0, [], 6) := fun x y => by
    refine Ev.succ ?_; simp only [impl_ParseGraph.j0]
    refine Ev.pos trivial ?_
    exact Ev.now _
  rcases implCut s hs with ⟨hc, hf⟩ | ⟨x, y, hxy, hx, hc⟩
  · refine ⟨(0, [], 6), ?_, Or.inl ⟨rfl, fun n l hg h => ?_⟩⟩
    · unfold impl_ParseGraph.f
      refine Ev.bind (Ev.eq hc) ?_
      have e0 : ByteArray.empty = bs [] := rfl
      rw [e0]
      by_cases h1 : s.length = 1
      · refine Ev.pos (by rw [bs_size]; omega) ?_
        match s, h1 with
        | [b], _ =>
          have ed : decide (((bs []).size : Int) > 40) = false := by rw [bs_size]; rfl
          simp only [ed]
          have hb : bt (bs [b]) 0 = (b.toNat : Int) := bs_bt (l := [b]) (i := 0) (by simp)
          have hb' := b.toNat_lt
          have hsp := implSplit 44 [] (by simp)
          rw [← lit44, show splitL 44 [] = [[]] from rfl] at hsp
          refine Ev.succ ?_; simp only [impl_ParseGraph.j0]
          refine Ev.neg (by decide) ?_
          refine Ev.pos (by rw [bs_size]; simp) ?_
          refine Ev.bind hsp ?_
          refine Ev.succ ?_; simp only [impl_ParseGraph.l0]
          refine Ev.pos (by simp) ?_
          refine Ev.pos (by omega) ?_
          refine Ev.pos (by simp) ?_
          refine Ev.pos (by rw [bs_toList]) ?_
          rw [hb, wrap_id (x := (b.toNat : Int)) (by omega) (by omega), wrap_id (by omega) (by omega)]
          obtain ⟨r, h1, h2⟩ := parse_end [b] ((b.toNat : Int) - 48) [] ⟨by simp, by simp⟩
          rcases h2 with ⟨rfl, _⟩ | ⟨_, h2, h3⟩
          · exact h1
          · exact absurd (show (58 : UInt8) ∈ [b] by rw [← h3]; simp [txt]) (fun h => hf 58 h rfl)
      · refine Ev.neg (by rw [bs_size]; omega) ?_
        exact fail s []
    · exact hf 58 (by rw [h]; simp [txt]) rfl
  · have hyl : s.length = x.length + 1 + y.length := by rw [hxy]; simp; omega
    by_cases h1 : x.length = 1
    · by_cases h40 : 40 < y.length
      · refine ⟨(0, [], 6), ?_, Or.inl ⟨rfl, fun n l hg h => ?_⟩⟩
        · unfold impl_ParseGraph.f
          refine Ev.bind (Ev.eq hc) ?_
          refine Ev.pos (by rw [bs_size]; omega) ?_
          have ed : decide (((bs y).size : Int) > 40) = true := decide_eq_true (by rw [bs_size]; omega)
          simp only [ed]
          exact fail x y
        · obtain ⟨_, h2⟩ := txt_cut hg hx (by rw [← h, hxy])
          obtain ⟨g1, g2, g3⟩ := graph_small hg
          have := joinL_word_length l
          rw [← h2] at this
          omega
      · have ed : decide (((bs y).size : Int) > 40) = false := decide_eq_false (by rw [bs_size]; omega)
        match x, h1, hx, hxy, hc with
        | [b], h1, hx, hxy, hc =>
          have hb : bt (bs [b]) 0 = (b.toNat : Int) := bs_bt (l := [b]) (i := 0) (by simp)
          have hb' := b.toNat_lt
          have hsp := implSplit 44 y (by omega)
          rw [← lit44] at hsp
          have hcl := count_le_len 44 y
          have key : ∃ r, Ev (fun k => impl_ParseGraph.l0 k (bs s) (bs y) ((splitL 44 y).map bs) ((splitL 44 y).length : Int) ((0 : Nat) : Int) ((b.toNat : Int) - 48) []) r ∧
              ((r = (0, [], 6) ∧ ∀ n l, isGraph n l = true → s ≠ txt n l) ∨ ∃ n l, r = (n, l, 0) ∧ isGraph n l = true ∧ s = txt n l) := by
            by_cases hy : y = []
            · obtain ⟨r, h3, h4⟩ := parse_end s ((b.toNat : Int) - 48) [] ⟨by simp, by simp⟩
              refine ⟨r, ?_, ?_⟩
              · refine Ev.succ ?_; simp only [impl_ParseGraph.l0]
                subst hy
                refine Ev.pos (by simp [splitL]) ?_
                refine Ev.pos (by omega) ?_
                refine Ev.pos (by simp [splitL]) ?_
                refine Ev.pos (by rw [bs_toList]) ?_
                exact h3
              · rcases h4 with ⟨rfl, h4⟩ | ⟨rfl, h4, h5⟩
                · refine Or.inl ⟨rfl, fun n l hg h => ?_⟩
                  obtain ⟨t1, t2⟩ := txt_cut hg hx (by rw [← h, hxy])
                  obtain ⟨g1, g2, g3⟩ := graph_small hg
                  injection t1 with t1 _
                  have en : (b.toNat : Int) - 48 = n := by rw [t1, dg_toNat (by omega) (by omega)]; omega
                  rw [en] at h4
                  cases l with
                  | nil => exact h4 hg h.symm
                  | cons e l =>
                    rw [hy] at t2
                    cases l <;> simp [joinL, word] at t2
                · exact Or.inr ⟨_, _, rfl, h4, h5.symm⟩
            · obtain ⟨r, h3, h4⟩ := parse_loop s y hy (splitL 44 y) (by omega) ((b.toNat : Int) - 48) (splitL 44 y).length 0 [] (by omega) rfl (by simp)
              refine ⟨r, h3, ?_⟩
              simp only [List.nil_append, List.drop_zero] at h4
              rcases h4 with ⟨rfl, h4⟩ | ⟨l, rfl, h4, h5⟩
              · refine Or.inl ⟨rfl, fun n l hg h => ?_⟩
                obtain ⟨t1, t2⟩ := txt_cut hg hx (by rw [← h, hxy])
                obtain ⟨g1, g2, g3⟩ := graph_small hg
                injection t1 with t1 _
                have en : (b.toNat : Int) - 48 = n := by rw [t1, dg_toNat (by omega) (by omega)]; omega
                rw [en] at h4
                refine h4 l hg h.symm ?_
                rw [t2]
                refine words_split hg ?_
                rintro rfl
                exact hy t2
              · exact Or.inr ⟨_, _, rfl, h4, h5.symm⟩
          obtain ⟨r, h3, h4⟩ := key
          refine ⟨r, ?_, h4⟩
          unfold impl_ParseGraph.f
          refine Ev.bind (Ev.eq hc) ?_
          refine Ev.pos (by rw [bs_size]; simp) ?_
          simp only [ed]
          refine Ev.succ ?_; simp only [impl_ParseGraph.j0]
          refine Ev.neg (by decide) ?_
          refine Ev.pos (by rw [bs_size]; simp) ?_
          refine Ev.bind hsp ?_
          rw [hb, wrap_id (x := (b.toNat : Int)) (by omega) (by omega), wrap_id (by omega) (by omega), List.length_map]
          exact h3
    · refine ⟨(0, [], 6), ?_, Or.inl ⟨rfl, fun n l hg h => ?_⟩⟩
      · unfold impl_ParseGraph.f
        refine Ev.bind (Ev.eq hc) ?_
        refine Ev.neg (by rw [bs_size]; omega) ?_
        exact fail x y
      · obtain ⟨h2, _⟩ := txt_cut hg hx (by rw [← h, hxy])
        rw [h2] at h1
        exact h1 rfl

/-- Both readings of a text. -/
theorem parse_both (s : List UInt8) (hs : s.length ≤ 1048576) :
    (∃ n l, isGraph n l = true ∧ s = txt n l ∧ Ev (fun k => spec_l01Read.f k (bs s)) (n, l, true) ∧ Ev (fun k => impl_ParseGraph.f k (bs s)) (n, l, 0)) ∨
    ((∀ n l, isGraph n l = true → s ≠ txt n l) ∧ Ev (fun k => spec_l01Read.f k (bs s)) (0, [], false) ∧ Ev (fun k => impl_ParseGraph.f k (bs s)) (0, [], 6)) := by
  obtain ⟨r, h1, h2⟩ := specRead s hs
  obtain ⟨q, h3, h4⟩ := implParse s hs
  rcases h2 with ⟨rfl, h2⟩ | ⟨n, l, rfl, h5, h6⟩
  · rcases h4 with ⟨rfl, h4⟩ | ⟨n, l, rfl, h5, h6⟩
    · exact Or.inr ⟨h2, h1, h3⟩
    · exact absurd h6 (h2 n l h5)
  · rcases h4 with ⟨rfl, h4⟩ | ⟨m, p, rfl, h7, h8⟩
    · exact absurd h6 (h4 n l h5)
    · refine Or.inl ⟨n, l, h5, h6, h1, ?_⟩
      have e : txt n l = txt m p := by rw [← h6, ← h8]
      obtain ⟨g1, g2, g3⟩ := graph_small h5
      obtain ⟨k1, k2, k3⟩ := graph_small h7
      have en : n = m := dg_inj (by omega) (by omega) (by omega) (by omega) (List.cons.inj e).1
      subst en
      have ej : joinL 44 (l.map word) = joinL 44 (p.map word) := (List.cons.inj (List.cons.inj e).2).2
      have el : l.map word = p.map word := by
        cases l with
        | nil =>
          cases p with
          | nil => rfl
          | cons f p => cases p <;> simp [joinL, word] at ej
        | cons f l =>
          cases p with
          | nil => cases l <;> simp [joinL, word] at ej
          | cons f' p => rw [← words_split h5 (by simp), ej, words_split h7 (by simp)]
      have ll : l = p := by
        clear ej e h6 h8 h1 h3 hs
        have key : ∀ (l p : List (List Int)), (∀ e ∈ l, ∃ a b : Int, e = [a, b] ∧ 0 ≤ a ∧ a < 8 ∧ 0 ≤ b ∧ b < 8) → (∀ e ∈ p, ∃ a b : Int, e = [a, b] ∧ 0 ≤ a ∧ a < 8 ∧ 0 ≤ b ∧ b < 8) → l.map word = p.map word → l = p := by
          intro l
          induction l with
          | nil => intro p _ _ h; cases p with
            | nil => rfl
            | cons f p => cases h
          | cons e l ih =>
            intro p hl hp h
            cases p with
            | nil => cases h
            | cons f p =>
              rw [List.map_cons, List.map_cons] at h
              injection h with h1 h2
              obtain ⟨a, b, rfl, a0, a1, b0, b1⟩ := hl e (List.mem_cons_self)
              obtain ⟨c, d, rfl, c0, c1, d0, d1⟩ := hp f (List.mem_cons_self)
              have h3 : [dg a, 45, dg b] = [dg c, 45, dg d] := h1
              simp only [List.cons.injEq, and_true, true_and] at h3
              rw [dg_inj a0 (by omega) c0 (by omega) h3.1, dg_inj b0 (by omega) d0 (by omega) h3.2, ih p (fun e he => hl e (List.mem_cons_of_mem _ he)) (fun e he => hp e (List.mem_cons_of_mem _ he)) h2]
        refine key l p (fun e he => ?_) (fun e he => ?_) el
        · obtain ⟨a, b, e1, _, _, r⟩ := graph_ends h5 he
          exact ⟨a, b, e1, r⟩
        · obtain ⟨a, b, e1, _, _, r⟩ := graph_ends h7 he
          exact ⟨a, b, e1, r⟩
      rw [ll]
      exact h3
theorem graph_mod {n : Int} {l : List (List Int)} (h : isGraph n l = true) : Mod l := by
  obtain ⟨h1, h2, h3, h4⟩ := (isGraph_iff n l).1 h
  refine ⟨by omega, fun r hr => ?_⟩
  obtain ⟨a, b, rfl, _⟩ := h4 r hr
  simp

theorem heldGraph_eval (n : Int) (l : List (List Int)) (hm : Mod l) : Ev (fun k => laws_heldGraph.f k n (marksR 1 l) 1) (1 + total l) := by
  unfold laws_heldGraph.f
  refine Ev.bind (heldRows l hm) ?_
  refine Ev.neg (by omega) ?_
  exact Ev.now _
/-- The name at i. -/
def nm (i : Nat) : List UInt8 := (impl_names.l.getD i ByteArray.empty).data.toList

theorem nm_rd (i : Nat) : (rdOf ByteArray.empty impl_names.l (i : Int)).toList = nm i := ByteArray.toList_eq _

theorem named_hit (s : List UInt8) (r : Int × List (List Int) × Int) (i : Nat) (hi : i < 14) (hs : nm i = s) (h : Ev (fun k => impl_ParseGraph.f k (impl_names.t.getD i ByteArray.empty)) r) : ∀ (d j : Nat), j + d = i → (∀ q, j ≤ q → q < i → nm q ≠ s) →
    Ev (fun k => impl_NamedGraph.l0 k (bs s) (j : Int)) r := by
  intro d
  induction d with
  | zero =>
    intro j hj hn
    have e : j = i := by omega
    subst e
    refine Ev.succ ?_; simp only [impl_NamedGraph.l0]
    refine Ev.pos (by omega) ?_
    refine Ev.pos (by omega) ?_
    refine Ev.pos (by rw [nm_rd, bs_toList]; exact hs) ?_
    exact h
  | succ d ih =>
    intro j hj hn
    refine Ev.succ ?_; simp only [impl_NamedGraph.l0]
    refine Ev.pos (by omega) ?_
    refine Ev.pos (by omega) ?_
    refine Ev.neg (by rw [nm_rd, bs_toList]; exact hn j (Nat.le_refl _) (by omega)) ?_
    rw [wrap_succ (by omega)]
    exact ih (j + 1) (by omega) (fun q hq => hn q (by omega))

theorem named_miss (s : List UInt8) (hs : ∀ i, i < 14 → nm i ≠ s) : ∀ (d j : Nat), j + d = 14 → Ev (fun k => impl_NamedGraph.l0 k (bs s) (j : Int)) (0, [], 4) := by
  intro d
  induction d with
  | zero =>
    intro j hj
    refine Ev.succ ?_; simp only [impl_NamedGraph.l0]
    refine Ev.neg (by omega) ?_
    exact Ev.now _
  | succ d ih =>
    intro j hj
    refine Ev.succ ?_; simp only [impl_NamedGraph.l0]
    refine Ev.pos (by omega) ?_
    refine Ev.pos (by omega) ?_
    refine Ev.neg (by rw [nm_rd, bs_toList]; exact hs j (by omega)) ?_
    rw [wrap_succ (by omega)]
    exact ih (j + 1) (by omega)

def Both (s : List UInt8) : Prop := ∃ (n : Int) (l : List (List Int)) (c : Int), Mod l ∧ Ev (fun k => spec_NamedGraph.f k (bs s)) (n, l, c) ∧ Ev (fun k => impl_NamedGraph.f k (bs s)) (n, l, c)

theorem named_case (i : Nat) (hi : i < 14) (t : List UInt8) (n : Int) (l : List (List Int)) (hg : isGraph n l = true) (ht : txt n l = t) (hk : spec_l01Known.f (bs (nm i)) = some (bs t)) (hti : impl_names.t.getD i ByteArray.empty = bs t) (hd : ∀ q, q < i → nm q ≠ nm i) : Both (nm i) := by
  have hl := txt_small n l (graph_small hg).2.2 l.length
  rw [List.take_length] at hl
  have hl' : t.length ≤ 1048576 := by rw [← ht]; exact Nat.le_trans hl (by decide)
  rcases parse_both t hl' with ⟨m, p, hg', _, h1, h2⟩ | ⟨h, _⟩
  · refine ⟨m, p, 0, graph_mod hg', ?_, ?_⟩
    · unfold spec_NamedGraph.f spec_l01Named.f
      refine Ev.bind (a := (m, p, true)) ?_ (Ev.now _)
      refine Ev.bind (Ev.eq hk) ?_
      refine Ev.bind h1 ?_
      exact Ev.now _
    · unfold impl_NamedGraph.f
      exact named_hit (nm i) _ i hi rfl (by rw [hti]; exact h2) i 0 (by omega) (fun q _ => hd q)
  · exact absurd ht.symm (h n l hg)

theorem known_miss (s : List UInt8) (hs : ∀ i, i < 14 → nm i ≠ s) : spec_l01Known.f (bs s) = some (bs []) := by
  unfold spec_l01Known.f
  rw [bs_toList]
  rw [if_neg (fun e => hs 0 (by decide) e.symm)]
  rw [if_neg (fun e => hs 1 (by decide) e.symm)]
  rw [if_neg (fun e => hs 2 (by decide) e.symm)]
  rw [if_neg (fun e => hs 3 (by decide) e.symm)]
  rw [if_neg (fun e => hs 4 (by decide) e.symm)]
  rw [if_neg (fun e => hs 5 (by decide) e.symm)]
  rw [if_neg (fun e => hs 6 (by decide) e.symm)]
  rw [if_neg (fun e => hs 7 (by decide) e.symm)]
  rw [if_neg (fun e => hs 8 (by decide) e.symm)]
  rw [if_neg (fun e => hs 9 (by decide) e.symm)]
  rw [if_neg (fun e => hs 10 (by decide) e.symm)]
  rw [if_neg (fun e => hs 11 (by decide) e.symm)]
  rw [if_neg (fun e => hs 12 (by decide) e.symm)]
  rw [if_neg (fun e => hs 13 (by decide) e.symm)]
  rfl

theorem named_both (s : List UInt8) : Both s := by
  by_cases h : ∃ i, i < 14 ∧ nm i = s
  · obtain ⟨i, hi, rfl⟩ := h
    match i, hi with
    | 0, _ => exact named_case 0 (by decide) [49, 58] 1 [] (by decide +kernel) (by kernel_rfl) (by unfold spec_l01Known.f; rw [bs_toList]; kernel_rfl) rfl (by decide +kernel)
    | 1, _ => exact named_case 1 (by decide) [50, 58, 48, 45, 49] 2 [[0, 1]] (by decide +kernel) (by kernel_rfl) (by unfold spec_l01Known.f; rw [bs_toList]; kernel_rfl) rfl (by decide +kernel)
    | 2, _ => exact named_case 2 (by decide) [49, 58, 48, 45, 48] 1 [[0, 0]] (by decide +kernel) (by kernel_rfl) (by unfold spec_l01Known.f; rw [bs_toList]; kernel_rfl) rfl (by decide +kernel)
    | 3, _ => exact named_case 3 (by decide) [49, 58, 48, 45, 48, 44, 48, 45, 48] 1 [[0, 0], [0, 0]] (by decide +kernel) (by kernel_rfl) (by unfold spec_l01Known.f; rw [bs_toList]; kernel_rfl) rfl (by decide +kernel)
    | 4, _ => exact named_case 4 (by decide) [50, 58, 48, 45, 49, 44, 48, 45, 49, 44, 48, 45, 49] 2 [[0, 1], [0, 1], [0, 1]] (by decide +kernel) (by kernel_rfl) (by unfold spec_l01Known.f; rw [bs_toList]; kernel_rfl) rfl (by decide +kernel)
    | 5, _ => exact named_case 5 (by decide) [50, 58, 48, 45, 48, 44, 48, 45, 49, 44, 49, 45, 49] 2 [[0, 0], [0, 1], [1, 1]] (by decide +kernel) (by kernel_rfl) (by unfold spec_l01Known.f; rw [bs_toList]; kernel_rfl) rfl (by decide +kernel)
    | 6, _ => exact named_case 6 (by decide) [51, 58, 48, 45, 49, 44, 49, 45, 50, 44, 50, 45, 48] 3 [[0, 1], [1, 2], [2, 0]] (by decide +kernel) (by kernel_rfl) (by unfold spec_l01Known.f; rw [bs_toList]; kernel_rfl) rfl (by decide +kernel)
    | 7, _ => exact named_case 7 (by decide) [52, 58, 48, 45, 49, 44, 49, 45, 50, 44, 50, 45, 51, 44, 51, 45, 48] 4 [[0, 1], [1, 2], [2, 3], [3, 0]] (by decide +kernel) (by kernel_rfl) (by unfold spec_l01Known.f; rw [bs_toList]; kernel_rfl) rfl (by decide +kernel)
    | 8, _ => exact named_case 8 (by decide) [53, 58, 48, 45, 49, 44, 49, 45, 50, 44, 50, 45, 51, 44, 51, 45, 52, 44, 52, 45, 48] 5 [[0, 1], [1, 2], [2, 3], [3, 4], [4, 0]] (by decide +kernel) (by kernel_rfl) (by unfold spec_l01Known.f; rw [bs_toList]; kernel_rfl) rfl (by decide +kernel)
    | 9, _ => exact named_case 9 (by decide) [52, 58, 48, 45, 49, 44, 48, 45, 50, 44, 48, 45, 51] 4 [[0, 1], [0, 2], [0, 3]] (by decide +kernel) (by kernel_rfl) (by unfold spec_l01Known.f; rw [bs_toList]; kernel_rfl) rfl (by decide +kernel)
    | 10, _ => exact named_case 10 (by decide) [52, 58, 48, 45, 49, 44, 49, 45, 50, 44, 50, 45, 51, 44, 51, 45, 48, 44, 48, 45, 50] 4 [[0, 1], [1, 2], [2, 3], [3, 0], [0, 2]] (by decide +kernel) (by kernel_rfl) (by unfold spec_l01Known.f; rw [bs_toList]; kernel_rfl) rfl (by decide +kernel)
    | 11, _ => exact named_case 11 (by decide) [52, 58, 48, 45, 49, 44, 48, 45, 50, 44, 48, 45, 51, 44, 49, 45, 50, 44, 49, 45, 51, 44, 50, 45, 51] 4 [[0, 1], [0, 2], [0, 3], [1, 2], [1, 3], [2, 3]] (by decide +kernel) (by kernel_rfl) (by unfold spec_l01Known.f; rw [bs_toList]; kernel_rfl) rfl (by decide +kernel)
    | 12, _ => exact named_case 12 (by decide) [54, 58, 48, 45, 49, 44, 49, 45, 50, 44, 50, 45, 48, 44, 51, 45, 52, 44, 52, 45, 53, 44, 53, 45, 51, 44, 48, 45, 51, 44, 49, 45, 52, 44, 50, 45, 53] 6 [[0, 1], [1, 2], [2, 0], [3, 4], [4, 5], [5, 3], [0, 3], [1, 4], [2, 5]] (by decide +kernel) (by kernel_rfl) (by unfold spec_l01Known.f; rw [bs_toList]; kernel_rfl) rfl (by decide +kernel)
    | 13, _ => exact named_case 13 (by decide) [54, 58, 48, 45, 51, 44, 48, 45, 52, 44, 48, 45, 53, 44, 49, 45, 51, 44, 49, 45, 52, 44, 49, 45, 53, 44, 50, 45, 51, 44, 50, 45, 52, 44, 50, 45, 53] 6 [[0, 3], [0, 4], [0, 5], [1, 3], [1, 4], [1, 5], [2, 3], [2, 4], [2, 5]] (by decide +kernel) (by kernel_rfl) (by unfold spec_l01Known.f; rw [bs_toList]; kernel_rfl) rfl (by decide +kernel)
  · have hs : ∀ i, i < 14 → nm i ≠ s := fun i hi e => h ⟨i, hi, e⟩
    refine ⟨0, [], 4, ⟨by simp, by simp⟩, ?_, ?_⟩
    · unfold spec_NamedGraph.f spec_l01Named.f
      refine Ev.bind (a := (0, [], false)) ?_ (Ev.now _)
      refine Ev.bind (Ev.eq (known_miss s hs)) ?_
      rcases parse_both [] (by simp) with ⟨n, l, _, h1, _⟩ | ⟨_, h1, _⟩
      · cases h1
      · refine Ev.bind h1 ?_
        exact Ev.now _
    · unfold impl_NamedGraph.f
      exact named_miss s hs 14 0 (by omega)

theorem FnExactNamedGraph : laws_FnExactNamedGraph.Pure := by
  intro a0 h0
  apply Ev.rounds
  unfold laws_FnExactNamedGraph.f
  by_cases hs : (a0.size : Int) > 1048576
  · refine Ev.pos hs ?_
    exact Ev.now _
  refine Ev.neg hs ?_
  obtain ⟨s, rfl⟩ := bs_ex a0
  obtain ⟨n, l, c, hm, h1, h2⟩ := named_both s
  refine Ev.bind h1 ?_
  refine Ev.bind h2 ?_
  dsimp only
  refine Ev.bind (eqGraph_self n l hm) ?_
  refine Ev.pos rfl ?_
  refine Ev.pos rfl ?_
  refine Ev.bind (show Ev (fun k => laws_markGraph.f k n l 1) (1 + total l, marksR 1 l) from markRows l hm) ?_
  dsimp only
  refine Ev.bind (heldGraph_eval n l hm) ?_
  refine Ev.neg (by omega) ?_
  refine Ev.pos rfl ?_
  refine Ev.bind h2 ?_
  dsimp only
  refine Ev.bind (eqGraph_self n l hm) ?_
  refine Ev.pos rfl ?_
  refine Ev.pos rfl ?_
  refine Ev.bind (heldGraph_eval n l hm) ?_
  refine Ev.neg (by omega) ?_
  refine Ev.pos rfl ?_
  exact Ev.now _
end Go.Proofs.YtipigagbgpoecaaDoor.Pure
