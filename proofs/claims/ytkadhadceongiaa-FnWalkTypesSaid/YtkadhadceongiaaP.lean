/- The plain proofs for this law. -/
import Derived.Test.YtkadhadceongiaaC5
import Derived.Test.YtkadhadceongiaaAux
namespace Go.Proofs.Ytkadhadceongiaa.Pure
open Go.RowKit Go.Proofs.Ytkadhadceongiaa.G Go.Proofs.YtkadhadceongiaaW.PrintWords Go.Proofs.YtkadhadceongiaaW.PrintLast Go.Proofs.YtkadhadceongiaaW.PrintMore Go.Proofs.Ytkadhadceongiaa.Aux
set_option linter.unusedVariables false
set_option linter.unusedSimpArgs false

theorem rl_lt {xs : List (List Int)} {i : Nat} (h : i < xs.length) : rd_L2 xs (i : Int) = xs[i] := by
  simp [rd_L2, List.getD_eq_getElem?_getD, h]

/-- Rows of which each, and their number, is of a moderate size. -/
def Mod (l : List (List Int)) : Prop := l.length ≤ 1048576 ∧ ∀ r ∈ l, r.length ≤ 1048576

theorem Mod.row {l : List (List Int)} (h : Mod l) {i : Nat} (hi : i < l.length) : l[i].length ≤ 1048576 := h.2 _ (List.getElem_mem hi)
theorem specIn (a b c : Int) : spec_l01In.f a b c = some (decide (b ≤ a ∧ a ≤ c)) := by
  unfold spec_l01In.f
  by_cases h : b ≤ a
  · rw [if_pos h]; simp [h]
  · rw [if_neg h]; simp [h]

theorem implWithin (a b c : Int) : impl_within.f a b c = some (decide (b ≤ a ∧ a ≤ c)) := by
  unfold impl_within.f
  by_cases h : b ≤ a
  · rw [if_pos h]; simp [h]
  · rw [if_neg h]; simp [h]

/-- One edge's test. -/
def okEdge (n : Int) (e : List Int) : Bool := decide (e.length = 2) && (decide (0 ≤ rd e 0 ∧ rd e 0 ≤ wrap64 (n - 1)) && decide (0 ≤ rd e 1 ∧ rd e 1 ≤ wrap64 (n - 1)))

def isGraph (n : Int) (l : List (List Int)) : Bool := l.all (okEdge n) && (decide (1 ≤ n ∧ n ≤ 8) && decide ((l.length : Int) ≤ 10))

theorem specIs_loop (n : Int) (l : List (List Int)) (hl : Mod l) : ∀ (d i : Nat), i + d = l.length →
    Ev (fun k => spec_l01Is.l0 k (i : Int) n l) ((l.drop i).all (okEdge n)) := by
  have hl1 := hl.1
  intro d
  induction d with
  | zero =>
    intro i hi
    refine Ev.succ ?_; simp only [spec_l01Is.l0]
    rw [List.drop_eq_nil_of_le (by omega)]
    repeat (first | with_reducible exact Ev.now _ | dsimp only | refine Ev.pos_ ?_ | refine Ev.neg_ ?_ | simp only [bne_self_eq_false, Bool.not_true, Bool.not_false, List.length_cons, List.length_nil] | rw [wrap_id (by omega) (by omega)] | ((with_reducible refine Ev.eq (congrArg some ?_)); rfl))
  | succ d ih =>
    intro i hi
    refine Ev.succ ?_; simp only [spec_l01Is.l0]
    rw [List.drop_eq_getElem_cons (by omega : i < l.length), List.all_cons, rl_lt (by omega), wrap_succ (by omega)]
    generalize l[i] = e
    have := ih (i + 1) (by omega)
    unfold okEdge
    by_cases h2 : (e.length : Int) = 2
    · rw [decide_eq_true (show e.length = 2 by omega), Bool.true_and]
      by_cases ha : 0 ≤ rd e 0 ∧ rd e 0 ≤ wrap64 (n - 1)
      · by_cases hb : 0 ≤ rd e 1 ∧ rd e 1 ≤ wrap64 (n - 1)
        · rw [decide_eq_true ha, decide_eq_true hb, Bool.true_and, Bool.true_and]
          repeat (first | with_reducible exact Ev.now _ | dsimp only | with_reducible refine Ev.bind (Ev.eq ((specIn _ _ _).trans (congrArg some (decide_eq_true ha)))) ?_ | with_reducible refine Ev.bind (Ev.eq ((specIn _ _ _).trans (congrArg some (decide_eq_true hb)))) ?_ | refine Ev.pos_ ?_ | refine Ev.neg_ ?_ | simp only [bne_self_eq_false, Bool.not_true, Bool.not_false, List.length_cons, List.length_nil] | rw [wrap_id (by omega) (by omega)] | with_reducible exact (Ev.eq ((specIn _ _ _).trans (congrArg some (decide_eq_true ha)))) | with_reducible exact (Ev.eq ((specIn _ _ _).trans (congrArg some (decide_eq_true hb)))) | ((with_reducible refine Ev.eq (congrArg some ?_)); rfl))
          exact this
        · rw [decide_eq_false hb, Bool.and_false, Bool.false_and]
          repeat (first | with_reducible exact Ev.now _ | dsimp only | with_reducible refine Ev.bind (Ev.eq ((specIn _ _ _).trans (congrArg some (decide_eq_true ha)))) ?_ | with_reducible refine Ev.bind (Ev.eq ((specIn _ _ _).trans (congrArg some (decide_eq_false hb)))) ?_ | refine Ev.pos_ ?_ | refine Ev.neg_ ?_ | simp only [bne_self_eq_false, Bool.not_true, Bool.not_false, List.length_cons, List.length_nil] | rw [wrap_id (by omega) (by omega)] | with_reducible exact (Ev.eq ((specIn _ _ _).trans (congrArg some (decide_eq_true ha)))) | with_reducible exact (Ev.eq ((specIn _ _ _).trans (congrArg some (decide_eq_false hb)))) | ((with_reducible refine Ev.eq (congrArg some ?_)); rfl))
      · rw [decide_eq_false ha, Bool.false_and, Bool.false_and]
        repeat (first | with_reducible exact Ev.now _ | dsimp only | with_reducible refine Ev.bind (Ev.eq ((specIn _ _ _).trans (congrArg some (decide_eq_false ha)))) ?_ | refine Ev.pos_ ?_ | refine Ev.neg_ ?_ | simp only [bne_self_eq_false, Bool.not_true, Bool.not_false, List.length_cons, List.length_nil] | rw [wrap_id (by omega) (by omega)] | with_reducible exact (Ev.eq ((specIn _ _ _).trans (congrArg some (decide_eq_false ha)))) | ((with_reducible refine Ev.eq (congrArg some ?_)); rfl))
    · rw [decide_eq_false (show ¬ e.length = 2 by omega), Bool.false_and, Bool.false_and]
      repeat (first | with_reducible exact Ev.now _ | dsimp only | refine Ev.pos_ ?_ | refine Ev.neg_ ?_ | simp only [bne_self_eq_false, Bool.not_true, Bool.not_false, List.length_cons, List.length_nil] | rw [wrap_id (by omega) (by omega)] | ((with_reducible refine Ev.eq (congrArg some ?_)); rfl))

theorem specIs (n : Int) (l : List (List Int)) (hl : Mod l) : Ev (fun k => spec_l01Is.f k n l) (isGraph n l) := by
  unfold spec_l01Is.f isGraph
  by_cases h1 : 1 ≤ n ∧ n ≤ 8
  · rw [decide_eq_true h1, Bool.true_and]
    repeat (first | with_reducible exact Ev.now _ | dsimp only | with_reducible refine Ev.bind (Ev.eq ((specIn n 1 8).trans (congrArg some (decide_eq_true h1)))) ?_ | refine Ev.pos_ ?_ | refine Ev.neg_ ?_ | simp only [bne_self_eq_false, Bool.not_true, Bool.not_false, List.length_cons, List.length_nil] | rw [wrap_id (by omega) (by omega)] | with_reducible exact (Ev.eq ((specIn n 1 8).trans (congrArg some (decide_eq_true h1)))) | ((with_reducible refine Ev.eq (congrArg some ?_)); rfl))
    refine Ev.succ ?_
    simp only [spec_l01Is.j0]
    by_cases h2 : (l.length : Int) ≤ 10
    · rw [decide_eq_true h2, decide_eq_false (show ¬ (l.length : Int) > 10 by omega), Bool.and_true]
      repeat (first | with_reducible exact Ev.now _ | dsimp only | refine Ev.pos_ ?_ | refine Ev.neg_ ?_ | simp only [bne_self_eq_false, Bool.not_true, Bool.not_false, List.length_cons, List.length_nil] | rw [wrap_id (by omega) (by omega)] | ((with_reducible refine Ev.eq (congrArg some ?_)); rfl))
      exact specIs_loop n l hl l.length 0 (by omega)
    · rw [decide_eq_false h2, decide_eq_true (show (l.length : Int) > 10 by omega), Bool.and_false]
      repeat (first | with_reducible exact Ev.now _ | dsimp only | refine Ev.pos_ ?_ | refine Ev.neg_ ?_ | simp only [bne_self_eq_false, Bool.not_true, Bool.not_false, List.length_cons, List.length_nil] | rw [wrap_id (by omega) (by omega)] | ((with_reducible refine Ev.eq (congrArg some ?_)); rfl))
  · rw [decide_eq_false h1, Bool.false_and, Bool.and_false]
    repeat (first | with_reducible exact Ev.now _ | dsimp only | with_reducible refine Ev.bind (Ev.eq ((specIn n 1 8).trans (congrArg some (decide_eq_false h1)))) ?_ | refine Ev.pos_ ?_ | refine Ev.neg_ ?_ | simp only [bne_self_eq_false, Bool.not_true, Bool.not_false, List.length_cons, List.length_nil] | rw [wrap_id (by omega) (by omega)] | with_reducible exact (Ev.eq ((specIn n 1 8).trans (congrArg some (decide_eq_false h1)))) | ((with_reducible refine Ev.eq (congrArg some ?_)); rfl))
    refine Ev.succ ?_
    simp only [spec_l01Is.j0]
    repeat (first | with_reducible exact Ev.now _ | dsimp only | refine Ev.pos_ ?_ | refine Ev.neg_ ?_ | simp only [bne_self_eq_false, Bool.not_true, Bool.not_false, List.length_cons, List.length_nil] | rw [wrap_id (by omega) (by omega)] | ((with_reducible refine Ev.eq (congrArg some ?_)); rfl))

theorem implIs_loop (n : Int) (l : List (List Int)) (hl : Mod l) : ∀ (d i : Nat), i + d = l.length →
    Ev (fun k => impl_IsGraph.l0 k l (l.length : Int) (i : Int) n l) ((l.drop i).all (okEdge n) && (decide (1 ≤ n ∧ n ≤ 8) && decide ((l.length : Int) ≤ 10))) := by
  have hl1 := hl.1
  intro d
  induction d with
  | zero =>
    intro i hi
    refine Ev.succ ?_; simp only [impl_IsGraph.l0]
    rw [List.drop_eq_nil_of_le (by omega), List.all_nil, Bool.true_and]
    by_cases h1 : 1 ≤ n ∧ n ≤ 8
    · rw [decide_eq_true h1, Bool.true_and]
      repeat (first | with_reducible exact Ev.now _ | dsimp only | with_reducible refine Ev.bind (Ev.eq ((implWithin n 1 8).trans (congrArg some (decide_eq_true h1)))) ?_ | refine Ev.pos_ ?_ | refine Ev.neg_ ?_ | simp only [bne_self_eq_false, Bool.not_true, Bool.not_false, List.length_cons, List.length_nil] | rw [wrap_id (by omega) (by omega)] | with_reducible exact (Ev.eq ((implWithin n 1 8).trans (congrArg some (decide_eq_true h1)))) | ((with_reducible refine Ev.eq (congrArg some ?_)); rfl))
    · rw [decide_eq_false h1, Bool.false_and]
      repeat (first | with_reducible exact Ev.now _ | dsimp only | with_reducible refine Ev.bind (Ev.eq ((implWithin n 1 8).trans (congrArg some (decide_eq_false h1)))) ?_ | refine Ev.pos_ ?_ | refine Ev.neg_ ?_ | simp only [bne_self_eq_false, Bool.not_true, Bool.not_false, List.length_cons, List.length_nil] | rw [wrap_id (by omega) (by omega)] | with_reducible exact (Ev.eq ((implWithin n 1 8).trans (congrArg some (decide_eq_false h1)))) | ((with_reducible refine Ev.eq (congrArg some ?_)); rfl))
  | succ d ih =>
    intro i hi
    refine Ev.succ ?_; simp only [impl_IsGraph.l0]
    rw [List.drop_eq_getElem_cons (by omega : i < l.length), List.all_cons, rl_lt (by omega), wrap_succ (by omega)]
    generalize l[i] = e
    have := ih (i + 1) (by omega)
    unfold okEdge at this ⊢
    by_cases h2 : (e.length : Int) = 2
    · rw [decide_eq_true (show e.length = 2 by omega), Bool.true_and]
      by_cases ha : 0 ≤ rd e 0 ∧ rd e 0 ≤ wrap64 (n - 1)
      · by_cases hb : 0 ≤ rd e 1 ∧ rd e 1 ≤ wrap64 (n - 1)
        · rw [decide_eq_true ha, decide_eq_true hb, Bool.true_and, Bool.true_and]
          repeat (first | with_reducible exact Ev.now _ | dsimp only | with_reducible refine Ev.bind (Ev.eq ((implWithin _ _ _).trans (congrArg some (decide_eq_true ha)))) ?_ | with_reducible refine Ev.bind (Ev.eq ((implWithin _ _ _).trans (congrArg some (decide_eq_true hb)))) ?_ | refine Ev.pos_ ?_ | refine Ev.neg_ ?_ | simp only [bne_self_eq_false, Bool.not_true, Bool.not_false, List.length_cons, List.length_nil] | rw [wrap_id (by omega) (by omega)] | with_reducible exact (Ev.eq ((implWithin _ _ _).trans (congrArg some (decide_eq_true ha)))) | with_reducible exact (Ev.eq ((implWithin _ _ _).trans (congrArg some (decide_eq_true hb)))) | ((with_reducible refine Ev.eq (congrArg some ?_)); rfl))
          exact this
        · rw [decide_eq_false hb, Bool.and_false, Bool.false_and, Bool.false_and]
          repeat (first | with_reducible exact Ev.now _ | dsimp only | with_reducible refine Ev.bind (Ev.eq ((implWithin _ _ _).trans (congrArg some (decide_eq_true ha)))) ?_ | with_reducible refine Ev.bind (Ev.eq ((implWithin _ _ _).trans (congrArg some (decide_eq_false hb)))) ?_ | refine Ev.pos_ ?_ | refine Ev.neg_ ?_ | simp only [bne_self_eq_false, Bool.not_true, Bool.not_false, List.length_cons, List.length_nil] | rw [wrap_id (by omega) (by omega)] | with_reducible exact (Ev.eq ((implWithin _ _ _).trans (congrArg some (decide_eq_true ha)))) | with_reducible exact (Ev.eq ((implWithin _ _ _).trans (congrArg some (decide_eq_false hb)))) | ((with_reducible refine Ev.eq (congrArg some ?_)); rfl))
      · rw [decide_eq_false ha, Bool.false_and, Bool.false_and, Bool.false_and]
        repeat (first | with_reducible exact Ev.now _ | dsimp only | with_reducible refine Ev.bind (Ev.eq ((implWithin _ _ _).trans (congrArg some (decide_eq_false ha)))) ?_ | refine Ev.pos_ ?_ | refine Ev.neg_ ?_ | simp only [bne_self_eq_false, Bool.not_true, Bool.not_false, List.length_cons, List.length_nil] | rw [wrap_id (by omega) (by omega)] | with_reducible exact (Ev.eq ((implWithin _ _ _).trans (congrArg some (decide_eq_false ha)))) | ((with_reducible refine Ev.eq (congrArg some ?_)); rfl))
    · rw [decide_eq_false (show ¬ e.length = 2 by omega), Bool.false_and, Bool.false_and, Bool.false_and]
      repeat (first | with_reducible exact Ev.now _ | dsimp only | refine Ev.pos_ ?_ | refine Ev.neg_ ?_ | simp only [bne_self_eq_false, Bool.not_true, Bool.not_false, List.length_cons, List.length_nil] | rw [wrap_id (by omega) (by omega)] | ((with_reducible refine Ev.eq (congrArg some ?_)); rfl))

theorem implIsGraph (n : Int) (l : List (List Int)) (hl : Mod l) : Ev (fun k => impl_IsGraph.f k n l) (isGraph n l) := by
  unfold impl_IsGraph.f
  exact implIs_loop n l hl l.length 0 (by omega)

theorem len_two {α : Type} {e : List α} (h : e.length = 2) : ∃ a b, e = [a, b] := by
  match e, h with
  | [a, b], _ => exact ⟨a, b, rfl⟩

theorem isGraph_iff (n : Int) (l : List (List Int)) : isGraph n l = true ↔ 1 ≤ n ∧ n ≤ 8 ∧ l.length ≤ 10 ∧ ∀ e ∈ l, ∃ a b : Int, e = [a, b] ∧ 0 ≤ a ∧ a < n ∧ 0 ≤ b ∧ b < n := by
  unfold isGraph
  rw [Bool.and_eq_true, Bool.and_eq_true, decide_eq_true_iff, decide_eq_true_iff, List.all_eq_true]
  constructor
  · rintro ⟨h, ⟨h1, h2⟩, h3⟩
    refine ⟨h1, h2, by omega, fun e he => ?_⟩
    have := h e he
    unfold okEdge at this
    rw [Bool.and_eq_true, Bool.and_eq_true, decide_eq_true_iff, decide_eq_true_iff, decide_eq_true_iff, wrap_id (by omega) (by omega)] at this
    obtain ⟨he2, ha, hb⟩ := this
    obtain ⟨a, b, rfl⟩ := len_two he2
    simp only [show rd [a, b] 0 = a from rfl, show rd [a, b] 1 = b from rfl] at ha hb
    exact ⟨a, b, rfl, by omega, by omega, by omega, by omega⟩
  · rintro ⟨h1, h2, h3, h⟩
    refine ⟨fun e he => ?_, ⟨h1, h2⟩, by omega⟩
    obtain ⟨a, b, rfl, h4, h5, h6, h7⟩ := h e he
    unfold okEdge
    rw [Bool.and_eq_true, Bool.and_eq_true, decide_eq_true_iff, decide_eq_true_iff, decide_eq_true_iff, wrap_id (by omega) (by omega)]
    simp only [show rd [a, b] 0 = a from rfl, show rd [a, b] 1 = b from rfl]
    exact ⟨rfl, by omega, by omega⟩
theorem graph_edge {n : Int} {l : List (List Int)} (h : isGraph n l = true) {i : Nat} (hi : i < l.length) :
    (rd_L2 l (i : Int)).length = 2 ∧ ∃ a b : Nat, rd (rd_L2 l (i : Int)) 0 = a ∧ rd (rd_L2 l (i : Int)) 1 = b ∧ (a : Int) < n ∧ (b : Int) < n := by
  rw [rl_lt hi]
  obtain ⟨h1, h2, h3, h4⟩ := (isGraph_iff n l).1 h
  obtain ⟨a, b, e, ha, ha', hb, hb'⟩ := h4 _ (List.getElem_mem hi)
  rw [e]
  refine ⟨rfl, a.toNat, b.toNat, ?_, ?_, by omega, by omega⟩
  · show a = _
    omega
  · show b = _
    omega

theorem graph_small {n : Int} {l : List (List Int)} (h : isGraph n l = true) : 1 ≤ n ∧ n ≤ 8 ∧ l.length ≤ 10 := by
  obtain ⟨h1, h2, h3, h4⟩ := (isGraph_iff n l).1 h
  exact ⟨h1, h2, h3⟩
/-- The directed edge's start, its end, and its reverse. -/
def tl (l : List (List Int)) (p : Nat) : Int := if p % 2 = 1 then rd (rd_L2 l ((p / 2 : Nat) : Int)) 1 else rd (rd_L2 l ((p / 2 : Nat) : Int)) 0
def hd (l : List (List Int)) (p : Nat) : Int := if p % 2 = 1 then rd (rd_L2 l ((p / 2 : Nat) : Int)) 0 else rd (rd_L2 l ((p / 2 : Nat) : Int)) 1
def inv (p : Nat) : Nat := if p % 2 = 0 then p + 1 else p - 1
def next (l : List (List Int)) (p q : Nat) : Bool := decide (hd l p = tl l q) && decide (q ≠ inv p)

theorem half (p : Nat) (h : p < 1000) : wrap64 (Int.tdiv (p : Int) 2) = ((p / 2 : Nat) : Int) := by
  rw [Int.tdiv_eq_ediv_of_nonneg (by omega), wrap_id (by omega) (by omega)]
  omega

theorem rest2 (p : Nat) : Int.tmod (p : Int) 2 = ((p % 2 : Nat) : Int) := by
  rw [Int.tmod_eq_emod_of_nonneg (by omega)]
  omega

section
variable {n : Int} {l : List (List Int)} (h : isGraph n l = true)
include h

theorem specEnds {p : Nat} (hp : p < 2 * l.length) : spec_l01Ends.f n l (p : Int) = some (tl l p, hd l p) := by
  obtain ⟨g1, g2, g3⟩ := graph_small h
  obtain ⟨e2, a, b, ea, eb, ha, hb⟩ := graph_edge h (show p / 2 < l.length by omega)
  unfold spec_l01Ends.f tl hd
  rw [half p (by omega), rest2, if_pos (by omega), if_pos (by omega)]
  by_cases c : p % 2 = 1
  · rw [if_pos (show ((p % 2 : Nat) : Int) = 1 by omega), if_pos (by omega), if_pos (by omega), if_pos c, if_pos c]
  · rw [if_neg (show ¬ ((p % 2 : Nat) : Int) = 1 by omega), if_pos (by omega), if_pos (by omega), if_neg c, if_neg c]

theorem implEnds {p : Nat} (hp : p < 2 * l.length) : impl_Graph_ends.f n l (p : Int) = some (tl l p, hd l p) := by
  obtain ⟨g1, g2, g3⟩ := graph_small h
  obtain ⟨e2, a, b, ea, eb, ha, hb⟩ := graph_edge h (show p / 2 < l.length by omega)
  unfold impl_Graph_ends.f tl hd
  rw [half p (by omega), rest2, wrap_id (x := 1 - ((p % 2 : Nat) : Int)) (by omega) (by omega), if_pos (by omega), if_pos (by omega), if_pos (by omega), if_pos (by omega), if_pos (by omega), if_pos (by omega)]
  by_cases c : p % 2 = 1
  · rw [if_pos c, if_pos c, c]
    rfl
  · rw [if_neg c, if_neg c, show p % 2 = 0 by omega]
    rfl

end
def dirs (l : List (List Int)) (w : List Int) : Bool := w.all (fun x => decide (0 ≤ x ∧ x ≤ 2 * (l.length : Int) - 1))

theorem dirs_at {l : List (List Int)} {w : List Int} (h : dirs l w = true) {i : Nat} (hi : i < w.length) : rd w (i : Int) = (((rd w (i : Int)).toNat : Nat) : Int) ∧ (rd w (i : Int)).toNat < 2 * l.length := by
  unfold dirs at h
  rw [List.all_eq_true] at h
  have := of_decide_eq_true (h _ (rd_mem hi))
  omega

section
variable {n : Int} {l : List (List Int)} (h : isGraph n l = true) {w : List Int}
include h

theorem implDirs_loop (hw : w.length ≤ 1048576) : ∀ (d i : Nat), i + d = w.length →
    ∃ r : Int, Ev (fun k => slices_IndexFunc_int64_int64_231_at_Graph_areDirected_1.l0 k w (w.length : Int) (i : Int) n l) r ∧ (decide (r ≥ 0)) = !(w.drop i).all (fun x => decide (0 ≤ x ∧ x ≤ 2 * (l.length : Int) - 1)) := by
  obtain ⟨g1, g2, g3⟩ := graph_small h
  intro d
  induction d with
  | zero =>
    intro i hi
    refine ⟨-1, ?_, ?_⟩
    · refine Ev.succ ?_; simp only [slices_IndexFunc_int64_int64_231_at_Graph_areDirected_1.l0]
      repeat (first | with_reducible exact Ev.now _ | dsimp only | refine Ev.pos_ ?_ | refine Ev.neg_ ?_ | simp only [bne_self_eq_false, Bool.not_true, Bool.not_false, List.length_cons, List.length_nil] | rw [wrap_id (by omega) (by omega)] | ((with_reducible refine Ev.eq (congrArg some ?_)); rfl))
    · rw [List.drop_eq_nil_of_le (by omega)]
      rfl
  | succ d ih =>
    intro i hi
    have hc : impl_Graph_areDirected_1.f w[i] n l = some (!decide (0 ≤ w[i] ∧ w[i] ≤ 2 * (l.length : Int) - 1)) := by
      unfold impl_Graph_areDirected_1.f impl_Graph_size.f
      rw [Option.bind_some, wrap_id (x := 2 * (l.length : Int)) (by omega) (by omega), wrap_id (x := 2 * (l.length : Int) - 1) (by omega) (by omega), implWithin]
      rfl
    by_cases c : 0 ≤ w[i] ∧ w[i] ≤ 2 * (l.length : Int) - 1
    · rw [decide_eq_true c] at hc
      obtain ⟨r, h1, h2⟩ := ih (i + 1) (by omega)
      refine ⟨r, ?_, ?_⟩
      · refine Ev.succ ?_; simp only [slices_IndexFunc_int64_int64_231_at_Graph_areDirected_1.l0]
        rw [wrap_succ (by omega), rd_lt (by omega)]
        repeat (first | with_reducible exact Ev.now _ | dsimp only | with_reducible refine Ev.bind (Ev.eq hc) ?_ | refine Ev.pos_ ?_ | refine Ev.neg_ ?_ | simp only [bne_self_eq_false, Bool.not_true, Bool.not_false, List.length_cons, List.length_nil] | rw [wrap_id (by omega) (by omega)] | with_reducible exact (Ev.eq hc) | ((with_reducible refine Ev.eq (congrArg some ?_)); rfl))
        exact h1
      · rw [List.drop_eq_getElem_cons (by omega : i < w.length), List.all_cons, decide_eq_true c, Bool.true_and]
        exact h2
    · rw [decide_eq_false c] at hc
      refine ⟨(i : Int), ?_, ?_⟩
      · refine Ev.succ ?_; simp only [slices_IndexFunc_int64_int64_231_at_Graph_areDirected_1.l0]
        rw [wrap_succ (by omega), rd_lt (by omega)]
        repeat (first | with_reducible exact Ev.now _ | dsimp only | with_reducible refine Ev.bind (Ev.eq hc) ?_ | refine Ev.pos_ ?_ | refine Ev.neg_ ?_ | simp only [bne_self_eq_false, Bool.not_true, Bool.not_false, List.length_cons, List.length_nil] | rw [wrap_id (by omega) (by omega)] | with_reducible exact (Ev.eq hc) | ((with_reducible refine Ev.eq (congrArg some ?_)); rfl))
      · rw [List.drop_eq_getElem_cons (by omega : i < w.length), List.all_cons, decide_eq_false c, Bool.false_and]
        simp

theorem implDirs (hw : w.length ≤ 1048576) : Ev (fun k => impl_Graph_areDirected.f k n l w) (dirs l w) := by
  obtain ⟨r, h1, h2⟩ := implDirs_loop h hw w.length 0 (by omega)
  have h1' : Ev (fun k => slices_IndexFunc_int64_int64_231_at_Graph_areDirected_1.f k w n l) r := h1
  unfold impl_Graph_areDirected.f slices_ContainsFunc_int64_int64_176_at_Graph_areDirected_1.f
  rw [List.drop_zero] at h2
  have : dirs l w = !decide (r ≥ 0) := by rw [h2, Bool.not_not]; rfl
  rw [this]
  exact Ev.bind (Ev.bind h1' (Ev.now _)) (Ev.now _)

end
theorem mod_next (i n : Nat) (h : i < 1048576) : Int.tmod (wrap64 ((i : Int) + 1)) (n : Int) = (((i + 1) % n : Nat) : Int) := by
  rw [wrap_succ (by omega), Int.tmod_eq_emod_of_nonneg (by omega)]
  rfl

def cycA (l : List (List Int)) (w : List Int) : Nat → Nat → Bool
  | 0, _ => true
  | d + 1, i => decide (hd l (rd w (i : Int)).toNat = tl l (rd w (((i + 1) % w.length : Nat) : Int)).toNat) && cycA l w d (i + 1)

section
variable {n : Int} {l : List (List Int)} (h : isGraph n l = true) {w : List Int}
include h

theorem specDirected_loop (hw : w.length ≤ 1048576) : ∀ (d i : Nat), i + d = w.length → Ev (fun k => spec_l02Directed.l0 k w (i : Int) n l) ((w.drop i).all (fun x => decide (0 ≤ x ∧ x ≤ 2 * (l.length : Int) - 1)) && decide ((w.length : Int) ≤ 20)) := by
  obtain ⟨g1, g2, g3⟩ := graph_small h
  intro d
  induction d with
  | zero =>
    intro i hi
    refine Ev.succ ?_; simp only [spec_l02Directed.l0]
    rw [List.drop_eq_nil_of_le (by omega), List.all_nil, Bool.true_and]
    repeat (first | with_reducible exact Ev.now _ | dsimp only | refine Ev.pos_ ?_ | refine Ev.neg_ ?_ | simp only [bne_self_eq_false, Bool.not_true, Bool.not_false, List.length_cons, List.length_nil] | rw [wrap_id (by omega) (by omega)] | ((with_reducible refine Ev.eq (congrArg some ?_)); rfl))
  | succ d ih =>
    intro i hi
    have := ih (i + 1) (by omega)
    refine Ev.succ ?_; simp only [spec_l02Directed.l0]
    rw [wrap_succ (by omega), wrap_id (x := 2 * (l.length : Int)) (by omega) (by omega), wrap_id (x := 2 * (l.length : Int) - 1) (by omega) (by omega), specIn, rd_lt (by omega), List.drop_eq_getElem_cons (by omega : i < w.length), List.all_cons]
    by_cases c : 0 ≤ w[i] ∧ w[i] ≤ 2 * (l.length : Int) - 1
    · rw [decide_eq_true c, Bool.true_and]
      repeat (first | with_reducible exact Ev.now _ | dsimp only | with_reducible refine Ev.bind (Ev.now _) ?_ | refine Ev.pos_ ?_ | refine Ev.neg_ ?_ | simp only [bne_self_eq_false, Bool.not_true, Bool.not_false, List.length_cons, List.length_nil] | rw [wrap_id (by omega) (by omega)] | with_reducible exact (Ev.now _) | ((with_reducible refine Ev.eq (congrArg some ?_)); rfl))
      exact this
    · rw [decide_eq_false c, Bool.false_and, Bool.false_and]
      repeat (first | with_reducible exact Ev.now _ | dsimp only | with_reducible refine Ev.bind (Ev.now _) ?_ | refine Ev.pos_ ?_ | refine Ev.neg_ ?_ | simp only [bne_self_eq_false, Bool.not_true, Bool.not_false, List.length_cons, List.length_nil] | rw [wrap_id (by omega) (by omega)] | with_reducible exact (Ev.now _) | ((with_reducible refine Ev.eq (congrArg some ?_)); rfl))

theorem specDirected (hw : w.length ≤ 1048576) : Ev (fun k => spec_l02Directed.f k n l w) (dirs l w && decide ((w.length : Int) ≤ 20)) := by
  unfold spec_l02Directed.f
  exact specDirected_loop h hw w.length 0 (by omega)

theorem specClosed_loop (hd : dirs l w = true) (hw : w.length ≤ 1048576) : ∀ (d i : Nat), i + d = w.length → Ev (fun k => spec_l02Closed.l0 k w (i : Int) n l) (cycA l w d i && decide ((w.length : Int) > 0)) := by
  obtain ⟨g1, g2, g3⟩ := graph_small h
  intro d
  induction d with
  | zero =>
    intro i hi
    refine Ev.succ ?_; simp only [spec_l02Closed.l0]
    unfold cycA
    rw [Bool.true_and]
    repeat (first | with_reducible exact Ev.now _ | dsimp only | refine Ev.pos_ ?_ | refine Ev.neg_ ?_ | simp only [bne_self_eq_false, Bool.not_true, Bool.not_false, List.length_cons, List.length_nil] | rw [wrap_id (by omega) (by omega)] | ((with_reducible refine Ev.eq (congrArg some ?_)); rfl))
  | succ d ih =>
    intro i hi
    have hm : (i + 1) % w.length < w.length := Nat.mod_lt _ (by omega)
    obtain ⟨e1, r1⟩ := dirs_at hd (show i < w.length by omega)
    obtain ⟨e2, r2⟩ := dirs_at hd hm
    have := ih (i + 1) (by omega)
    have ha := specEnds h r1
    have hb := specEnds h r2
    rw [← e1] at ha
    rw [← e2] at hb
    refine Ev.succ ?_; simp only [spec_l02Closed.l0]
    unfold cycA
    rw [mod_next i w.length (by omega), wrap_succ (by omega)]
    by_cases c1 : Pure.hd l (rd w (i : Int)).toNat = tl l (rd w (((i + 1) % w.length : Nat) : Int)).toNat
    · rw [decide_eq_true c1, Bool.true_and]
      repeat (first | with_reducible exact Ev.now _ | dsimp only | with_reducible refine Ev.bind (Ev.eq ha) ?_ | with_reducible refine Ev.bind (Ev.eq hb) ?_ | refine Ev.pos_ ?_ | refine Ev.neg_ ?_ | simp only [bne_self_eq_false, Bool.not_true, Bool.not_false, List.length_cons, List.length_nil] | rw [wrap_id (by omega) (by omega)] | with_reducible exact (Ev.eq ha) | with_reducible exact (Ev.eq hb) | ((with_reducible refine Ev.eq (congrArg some ?_)); rfl))
      exact this
    · rw [decide_eq_false c1, Bool.false_and, Bool.false_and]
      repeat (first | with_reducible exact Ev.now _ | dsimp only | with_reducible refine Ev.bind (Ev.eq ha) ?_ | with_reducible refine Ev.bind (Ev.eq hb) ?_ | refine Ev.pos_ ?_ | refine Ev.neg_ ?_ | simp only [bne_self_eq_false, Bool.not_true, Bool.not_false, List.length_cons, List.length_nil] | rw [wrap_id (by omega) (by omega)] | with_reducible exact (Ev.eq ha) | with_reducible exact (Ev.eq hb) | ((with_reducible refine Ev.eq (congrArg some ?_)); rfl))

end
def cl (x : Int) : Nat := if x = 0 then 0 else if x = 1 then 1 else if x = 2 then 2 else if x = 3 then 3 else 4

theorem cl_lt (x : Int) (n : Nat) (hn : n ≤ 4) : (cl x < n) ↔ (0 ≤ x ∧ x ≤ (n : Int) - 1) := by
  unfold cl
  split
  · omega
  · split
    · omega
    · split
      · omega
      · split <;> omega

theorem cl_eq (x : Int) (j : Nat) (hj : j < 4) : cl x = j ↔ x = (j : Int) := by
  unfold cl
  split
  · omega
  · split
    · omega
    · split
      · omega
      · split <;> omega

theorem cl_le (x : Int) : cl x < 5 := by
  unfold cl
  split
  · omega
  · split
    · omega
    · split
      · omega
      · split <;> omega

/-- The reference's loop over what is left, with what has been met. -/
def spn (n : Nat) : List Nat → Bool → Bool → Bool → Bool → Bool
  | [], _, _, _, _ => true
  | x :: xs, m0, m1, m2, m3 => if x < n then (if x = 0 then (if m0 = true then false else spn n xs true m1 m2 m3) else (if x = 1 then (if m1 = true then false else spn n xs m0 true m2 m3) else (if x = 2 then (if m2 = true then false else spn n xs m0 m1 true m3) else (if m3 = true then false else spn n xs m0 m1 m2 true)))) else false

/-- Each number less than n lies in the list, and there are n of them. -/
def perm (n : Nat) (r : List Int) : Bool := decide (r.length = n) && (List.range n).all (fun x => r.contains (x : Int))

theorem contains_cl (r : List Int) (x : Nat) (hx : x < 4) : (r.map cl).contains x = r.contains (x : Int) := by
  induction r with
  | nil => rfl
  | cons y ys ih =>
    rw [List.map_cons, List.contains_cons, List.contains_cons, ih]
    congr 1
    by_cases c : cl y = x
    · rw [show (x == cl y) = true from beq_iff_eq.2 c.symm, show ((x : Int) == y) = true from beq_iff_eq.2 ((cl_eq y x hx).1 c).symm]
    · rw [show (x == cl y) = false from beq_eq_false_iff_ne.2 (fun e => c e.symm), show ((x : Int) == y) = false from beq_eq_false_iff_ne.2 (fun e => c ((cl_eq y x hx).2 e.symm))]

theorem spn_perm (n : Nat) (h1 : 1 ≤ n) (h4 : n ≤ 4) (r : List Int) (hr : r.length = n) : spn n (r.map cl) false false false false = perm n r := by
  have e : perm n r = (List.range n).all (fun x => (r.map cl).contains x) := by
    unfold perm
    rw [decide_eq_true hr, Bool.true_and]
    have : ∀ l : List Nat, (∀ x ∈ l, x < 4) → l.all (fun x => r.contains (x : Int)) = l.all (fun x => (r.map cl).contains x) := by
      intro l
      induction l with
      | nil => intro _; rfl
      | cons x xs ih =>
        intro hl
        rw [List.all_cons, List.all_cons, ih (fun y hy => hl y (List.mem_cons_of_mem _ hy)), contains_cl r x (hl x List.mem_cons_self)]
    exact this _ (fun x hx => by have := List.mem_range.1 hx; omega)
  rw [e]
  have d1 : ∀ a : Fin 5, spn 1 [a.val] false false false false = (List.range 1).all (fun x => [a.val].contains x) := by decide +kernel
  have d2 : ∀ a b : Fin 5, spn 2 [a.val, b.val] false false false false = (List.range 2).all (fun x => [a.val, b.val].contains x) := by decide +kernel
  have d3 : ∀ a b c : Fin 5, spn 3 [a.val, b.val, c.val] false false false false = (List.range 3).all (fun x => [a.val, b.val, c.val].contains x) := by decide +kernel
  have d4 : ∀ a b c d : Fin 5, spn 4 [a.val, b.val, c.val, d.val] false false false false = (List.range 4).all (fun x => [a.val, b.val, c.val, d.val].contains x) := by decide +kernel
  match r, hr with
  | [], hr => simp at hr; omega
  | [a], hr =>
    obtain rfl : n = 1 := by simpa using hr.symm
    exact d1 ⟨cl a, cl_le a⟩
  | [a, b], hr =>
    obtain rfl : n = 2 := by simpa using hr.symm
    exact d2 ⟨cl a, cl_le a⟩ ⟨cl b, cl_le b⟩
  | [a, b, c], hr =>
    obtain rfl : n = 3 := by simpa using hr.symm
    exact d3 ⟨cl a, cl_le a⟩ ⟨cl b, cl_le b⟩ ⟨cl c, cl_le c⟩
  | [a, b, c, d], hr =>
    obtain rfl : n = 4 := by simpa using hr.symm
    exact d4 ⟨cl a, cl_le a⟩ ⟨cl b, cl_le b⟩ ⟨cl c, cl_le c⟩ ⟨cl d, cl_le d⟩
  | a :: b :: c :: d :: e :: f, hr => simp at hr; omega

theorem specIn2 (a b c : Int) : spec_l01In.f a b c = some (decide (b ≤ a ∧ a ≤ c)) := by
  unfold spec_l01In.f
  by_cases h : b ≤ a
  · rw [if_pos h]; simp [h]
  · rw [if_neg h]; simp [h]

theorem implWithin2 (a b c : Int) : impl_within.f a b c = some (decide (b ≤ a ∧ a ≤ c)) := by
  unfold impl_within.f
  by_cases h : b ≤ a
  · rw [if_pos h]; simp [h]
  · rw [if_neg h]; simp [h]

theorem specPerm_loop (n : Nat) (h1 : 1 ≤ n) (h4 : n ≤ 4) (r : List Int) (hr : r.length = n) : ∀ (d i : Nat) (m0 m1 m2 m3 : Bool), i + d = n →
    Ev (fun k => spec_l04Permutation.l0 k r (n : Int) m0 m1 m2 m3 (i : Int)) (spn n ((r.map cl).drop i) m0 m1 m2 m3) := by
  intro d
  induction d with
  | zero =>
    intro i m0 m1 m2 m3 hi
    rw [List.drop_eq_nil_of_le (by simp; omega)]
    refine Ev.succ ?_; simp only [spec_l04Permutation.l0]
    exact Ev.neg (by omega) (Ev.now _)
  | succ d ih =>
    intro i m0 m1 m2 m3 hi
    have hi' : i < (r.map cl).length := by simp; omega
    have hx : (r.map cl)[i] = cl (rd r (i : Int)) := by rw [List.getElem_map, rd_lt (by omega)]
    rw [List.drop_eq_getElem_cons hi', hx]
    refine Ev.succ ?_; simp only [spec_l04Permutation.l0]
    rw [wrap_id (x := (n : Int) - 1) (by omega) (by omega), specIn2, wrap_succ (i := i) (by omega)]
    refine Ev.pos (by omega) (Ev.pos (by omega) (Ev.bind (Ev.now _) ?_))
    have hn := cl_lt (rd r (i : Int)) n h4
    have e0 := cl_eq (rd r (i : Int)) 0 (by omega)
    have e1 := cl_eq (rd r (i : Int)) 1 (by omega)
    have e2 := cl_eq (rd r (i : Int)) 2 (by omega)
    have e3 := cl_eq (rd r (i : Int)) 3 (by omega)
    unfold spn
    by_cases c : cl (rd r (i : Int)) < n
    · rw [if_pos c, decide_eq_true (hn.1 c)]
      refine Ev.pos rfl ?_
      by_cases c0 : cl (rd r (i : Int)) = 0
      · rw [if_pos c0]
        refine Ev.pos (e0.1 c0) ?_
        cases m0 with
        | true => exact Ev.pos rfl (Ev.now _)
        | false => exact Ev.neg (by decide) (ih (i + 1) _ _ _ _ (by omega))
      · rw [if_neg c0]
        refine Ev.neg (fun z => c0 (e0.2 z)) ?_
        by_cases c1 : cl (rd r (i : Int)) = 1
        · rw [if_pos c1]
          refine Ev.pos (e1.1 c1) ?_
          cases m1 with
          | true => exact Ev.pos rfl (Ev.now _)
          | false => exact Ev.neg (by decide) (ih (i + 1) _ _ _ _ (by omega))
        · rw [if_neg c1]
          refine Ev.neg (fun z => c1 (e1.2 z)) ?_
          by_cases c2 : cl (rd r (i : Int)) = 2
          · rw [if_pos c2]
            refine Ev.pos (e2.1 c2) ?_
            cases m2 with
            | true => exact Ev.pos rfl (Ev.now _)
            | false => exact Ev.neg (by decide) (ih (i + 1) _ _ _ _ (by omega))
          · rw [if_neg c2]
            refine Ev.neg (fun z => c2 (e2.2 z)) ?_
            have c3 : cl (rd r (i : Int)) = 3 := by omega
            refine Ev.pos (e3.1 c3) ?_
            cases m3 with
            | true => exact Ev.pos rfl (Ev.now _)
            | false => exact Ev.neg (by decide) (ih (i + 1) _ _ _ _ (by omega))
    · rw [if_neg c, decide_eq_false (fun z => c (hn.2 z))]
      exact Ev.neg (by decide) (Ev.now _)

theorem specPerm (n : Nat) (h1 : 1 ≤ n) (h4 : n ≤ 4) (r : List Int) (hl : r.length ≤ 1048576) : Ev (fun k => spec_l04Permutation.f k r (n : Int)) (perm n r) := by
  unfold spec_l04Permutation.f
  by_cases hr : r.length = n
  · have := specPerm_loop n h1 h4 r hr n 0 false false false false (by omega)
    rw [List.drop_zero, spn_perm n h1 h4 r hr] at this
    exact Ev.pos (by omega) this
  · unfold perm
    rw [decide_eq_false hr, Bool.false_and]
    exact Ev.neg (by omega) (Ev.now _)

theorem libContains (r : List Int) (x : Int) (hl : r.length ≤ 1048576) : Ev (fun k => slices_Contains_int64_int64.f k r x) (r.contains x) := by
  have loop : ∀ (d i : Nat), i + d = r.length → ∃ z : Int, Ev (fun k => slices_Index_int64_int64.l0 k r x (r.length : Int) (i : Int)) z ∧ decide (z ≥ 0) = (r.drop i).contains x := by
    intro d
    induction d with
    | zero =>
      intro i hi
      refine ⟨-1, ?_, by rw [List.drop_eq_nil_of_le (by omega)]; rfl⟩
      refine Ev.succ ?_; simp only [slices_Index_int64_int64.l0]
      exact Ev.neg (by omega) (Ev.now _)
    | succ d ih =>
      intro i hi
      obtain ⟨z, h1, h2⟩ := ih (i + 1) (by omega)
      have hi' : i < r.length := by omega
      rw [List.drop_eq_getElem_cons hi', List.contains_cons, ← rd_lt hi']
      by_cases c : rd r (i : Int) = x
      · refine ⟨(i : Int), ?_, by rw [show (x == rd r (i : Int)) = true from beq_iff_eq.2 c.symm, Bool.true_or]; simp⟩
        refine Ev.succ ?_; simp only [slices_Index_int64_int64.l0]
        repeat (first | with_reducible exact Ev.now _ | dsimp only | refine Ev.pos_ ?_ | refine Ev.neg_ ?_ | simp only [bne_self_eq_false, Bool.not_true, Bool.not_false, List.length_cons, List.length_nil] | rw [wrap_id (by omega) (by omega)] | ((with_reducible refine Ev.eq (congrArg some ?_)); rfl))
      · refine ⟨z, ?_, by rw [show (x == rd r (i : Int)) = false from beq_eq_false_iff_ne.2 (fun e => c e.symm), Bool.false_or]; exact h2⟩
        refine Ev.succ ?_; simp only [slices_Index_int64_int64.l0]
        rw [wrap_succ (i := i) (by omega)]
        repeat (first | with_reducible exact Ev.now _ | dsimp only | refine Ev.pos_ ?_ | refine Ev.neg_ ?_ | simp only [bne_self_eq_false, Bool.not_true, Bool.not_false, List.length_cons, List.length_nil] | rw [wrap_id (by omega) (by omega)] | ((with_reducible refine Ev.eq (congrArg some ?_)); rfl))
        exact h1
  obtain ⟨z, h1, h2⟩ := loop r.length 0 (by omega)
  unfold slices_Contains_int64_int64.f slices_Index_int64_int64.f
  refine Ev.bind h1 ?_
  rw [h2, List.drop_zero]
  exact Ev.now _

theorem implOrder (n : Nat) (h4 : n ≤ 4) (r : List Int) (hl : r.length ≤ 1048576) : Ev (fun k => impl_isOrder.f k r (n : Int)) (perm n r) := by
  have loop : ∀ (d i : Nat), i + d = n → Ev (fun k => impl_isOrder.l0 k r (n : Int) (n : Int) (i : Int)) (((List.range n).drop i).all (fun x => r.contains (x : Int)) && decide (r.length = n)) := by
    intro d
    induction d with
    | zero =>
      intro i hi
      rw [List.drop_eq_nil_of_le (by simp; omega), List.all_nil, Bool.true_and]
      refine Ev.succ ?_; simp only [impl_isOrder.l0]
      refine Ev.neg (by omega) ?_
      rw [show decide (r.length = n) = ((r.length : Int) == (n : Int)) by
        by_cases c : r.length = n
        · rw [decide_eq_true c, c]; exact (beq_iff_eq.2 rfl).symm
        · rw [decide_eq_false c]; exact (beq_eq_false_iff_ne.2 (fun e => c (by omega))).symm]
      exact Ev.now _
    | succ d ih =>
      intro i hi
      have h1 := ih (i + 1) (by omega)
      have hi' : i < (List.range n).length := by simp; omega
      rw [List.drop_eq_getElem_cons hi', List.all_cons, List.getElem_range]
      have hc := libContains r (i : Int) hl
      refine Ev.succ ?_; simp only [impl_isOrder.l0]
      rw [wrap_succ (i := i) (by omega)]
      cases c : r.contains (i : Int) with
      | true =>
        rw [c] at hc
        rw [Bool.true_and]
        exact Ev.pos (by omega) (Ev.bind hc (Ev.pos rfl h1))
      | false =>
        rw [c] at hc
        rw [Bool.false_and, Bool.false_and]
        exact Ev.pos (by omega) (Ev.bind hc (Ev.neg (by decide) (Ev.now _)))
  have h0 := loop n 0 (by omega)
  unfold impl_isOrder.f perm
  rw [List.drop_zero, Bool.and_comm] at h0
  exact h0

def isCover (n : Int) (l : List (List Int)) (s : Int) (t : List (List Int)) : Bool :=
  isGraph n l && (decide (1 ≤ s ∧ s ≤ 4) && (decide (t.length = l.length) && t.all (perm s.toNat)))

theorem specIsCover (n : Int) (l : List (List Int)) (s : Int) (t : List (List Int)) (hl : Mod l) (ht : Mod t) : Ev (fun k => spec_l04Is.f k n l s t) (isCover n l s t) := by
  have h1 := specIs n l hl
  have hl1 := hl.1
  have ht1 := ht.1
  have bad : ∀ n l s t, Ev (fun k => spec_l04Is.j0 k true n l s t) false := fun n l s t => by
    refine Ev.succ ?_; simp only [spec_l04Is.j0]
    exact Ev.pos trivial (Ev.now _)
  unfold spec_l04Is.f isCover
  cases hg : isGraph n l with
  | false =>
    rw [hg] at h1
    rw [Bool.false_and]
    exact Ev.bind h1 (Ev.neg (by decide) (bad _ _ _ _))
  | true =>
    rw [hg] at h1
    rw [Bool.true_and, specIn2]
    refine Ev.bind h1 (Ev.pos rfl ?_)
    by_cases c : 1 ≤ s ∧ s ≤ 4
    · rw [decide_eq_true c, Bool.true_and]
      refine Ev.bind (Ev.now _) (Ev.pos rfl ?_)
      by_cases c2 : t.length = l.length
      · rw [decide_eq_true c2, Bool.true_and, c2, bne_self_eq_false]
        refine Ev.succ ?_; simp only [spec_l04Is.j0]
        refine Ev.neg (by decide) ?_
        obtain ⟨q, rfl⟩ := Int.eq_ofNat_of_zero_le (show 0 ≤ s by omega)
        have loop : ∀ (d i : Nat), i + d = t.length → Ev (fun k => spec_l04Is.l0 k (i : Int) n l (q : Int) t) ((t.drop i).all (perm q)) := by
          intro d
          induction d with
          | zero =>
            intro i hi
            rw [List.drop_eq_nil_of_le (by omega), List.all_nil]
            refine Ev.succ ?_; simp only [spec_l04Is.l0]
            exact Ev.neg (by omega) (Ev.now _)
          | succ d ih =>
            intro i hi
            have hi' : i < t.length := by omega
            have h2 := ih (i + 1) (by omega)
            have hp := specPerm q (by omega) (by omega) t[i] (ht.row hi')
            rw [← rl_lt hi'] at hp
            rw [List.drop_eq_getElem_cons hi', List.all_cons, ← rl_lt hi']
            refine Ev.succ ?_; simp only [spec_l04Is.l0]
            rw [wrap_succ (i := i) (by omega)]
            cases c3 : perm q (rd_L2 t (i : Int)) with
            | true =>
              rw [c3] at hp
              rw [Bool.true_and]
              exact Ev.pos (by omega) (Ev.pos (by omega) (Ev.bind hp (Ev.pos rfl h2)))
            | false =>
              rw [c3] at hp
              rw [Bool.false_and]
              exact Ev.pos (by omega) (Ev.pos (by omega) (Ev.bind hp (Ev.neg (by decide) (Ev.now _))))
        exact loop t.length 0 (by omega)
      · rw [decide_eq_false c2, Bool.false_and, show ((t.length : Int) != (l.length : Int)) = true from bne_iff_ne.2 (by omega)]
        exact bad _ _ _ _
    · rw [decide_eq_false c, Bool.false_and]
      exact Ev.bind (Ev.now _) (Ev.neg (by decide) (bad _ _ _ _))

theorem implIsCover (n : Int) (l : List (List Int)) (s : Int) (t : List (List Int)) (hl : Mod l) (ht : Mod t) : Ev (fun k => impl_IsCover.f k n l s t) (isCover n l s t) := by
  have h1 := implIsGraph n l hl
  have hl1 := hl.1
  have ht1 := ht.1
  unfold impl_IsCover.f isCover impl_Graph_size.f
  cases hg : isGraph n l with
  | false =>
    rw [hg] at h1
    rw [Bool.false_and]
    exact Ev.bind h1 (Ev.neg (by decide) (Ev.now _))
  | true =>
    rw [hg] at h1
    rw [Bool.true_and, implWithin2]
    refine Ev.bind h1 (Ev.pos rfl ?_)
    by_cases c : 1 ≤ s ∧ s ≤ 4
    · rw [decide_eq_true c, Bool.true_and]
      refine Ev.bind (Ev.now _) (Ev.pos rfl (Ev.bind (Ev.now _) ?_))
      by_cases c2 : t.length = l.length
      · rw [decide_eq_true c2, Bool.true_and]
        refine Ev.pos (by omega) ?_
        obtain ⟨q, rfl⟩ := Int.eq_ofNat_of_zero_le (show 0 ≤ s by omega)
        have loop : ∀ (d i : Nat), i + d = t.length → ∃ z : Int, Ev (fun k => slices_IndexFunc_int64_int64_239_at_IsCover_1.l0 k t (t.length : Int) (i : Int) n l (q : Int) t) z ∧ decide (z ≥ 0) = !(t.drop i).all (perm q) := by
          intro d
          induction d with
          | zero =>
            intro i hi
            refine ⟨-1, ?_, by rw [List.drop_eq_nil_of_le (by omega)]; rfl⟩
            refine Ev.succ ?_; simp only [slices_IndexFunc_int64_int64_239_at_IsCover_1.l0]
            exact Ev.neg (by omega) (Ev.now _)
          | succ d ih =>
            intro i hi
            obtain ⟨z, h2, h3⟩ := ih (i + 1) (by omega)
            have hi' : i < t.length := by omega
            have hp := implOrder q (by omega) t[i] (ht.row hi')
            rw [← rl_lt hi'] at hp
            have hp1 : Ev (fun k => impl_IsCover_1.f k (rd_L2 t (i : Int)) n l (q : Int) t) (!perm q (rd_L2 t (i : Int))) := by
              unfold impl_IsCover_1.f
              exact Ev.bind hp (Ev.now _)
            cases c3 : perm q (rd_L2 t (i : Int)) with
            | true =>
              rw [c3] at hp1
              refine ⟨z, ?_, by rw [List.drop_eq_getElem_cons hi', List.all_cons, ← rl_lt hi', c3, Bool.true_and]; exact h3⟩
              refine Ev.succ ?_; simp only [slices_IndexFunc_int64_int64_239_at_IsCover_1.l0]
              rw [wrap_succ (i := i) (by omega)]
              exact Ev.pos (by omega) (Ev.pos (by omega) (Ev.pos (by omega) (Ev.bind hp1 (Ev.neg (by decide) h2))))
            | false =>
              rw [c3] at hp1
              refine ⟨(i : Int), ?_, by rw [List.drop_eq_getElem_cons hi', List.all_cons, ← rl_lt hi', c3, Bool.false_and]; simp⟩
              refine Ev.succ ?_; simp only [slices_IndexFunc_int64_int64_239_at_IsCover_1.l0]
              exact Ev.pos (by omega) (Ev.pos (by omega) (Ev.pos (by omega) (Ev.bind hp1 (Ev.pos rfl (Ev.now _)))))
        obtain ⟨z, h2, h3⟩ := loop t.length 0 (by omega)
        rw [List.drop_zero] at h3
        unfold slices_ContainsFunc_int64_int64_205_at_IsCover_1.f slices_IndexFunc_int64_int64_239_at_IsCover_1.f
        refine Ev.bind (Ev.bind h2 (Ev.now _)) ?_
        rw [h3, Bool.not_not]
        exact Ev.now _
      · rw [decide_eq_false c2, Bool.false_and]
        exact Ev.neg (by omega) (Ev.now _)
    · rw [decide_eq_false c, Bool.false_and]
      exact Ev.bind (Ev.now _) (Ev.neg (by decide) (Ev.now _))
/-- The first place from i on, of d places, where x stands. -/
def ix (r : List Int) (x : Int) : Nat → Nat → Nat
  | 0, i => i
  | d + 1, i => if rd r (i : Int) = x then i else ix r x d (i + 1)

theorem ix_spec (r : List Int) (x : Int) : ∀ (d i : Nat), i + d = r.length → (∃ j, i ≤ j ∧ j < r.length ∧ rd r (j : Int) = x) → i ≤ ix r x d i ∧ ix r x d i < r.length := by
  intro d
  induction d with
  | zero => intro i hi ⟨j, h1, h2, _⟩; omega
  | succ d ih =>
    intro i hi ⟨j, h1, h2, h3⟩
    unfold ix
    by_cases c : rd r (i : Int) = x
    · rw [if_pos c]; omega
    · rw [if_neg c]
      have := ih (i + 1) (by omega) ⟨j, by
        apply Classical.byContradiction
        intro z
        exact c (by rw [show i = j by omega]; exact h3), h2, h3⟩
      omega

theorem perm_spec {q : Nat} {r : List Int} (h : perm q r = true) (h1 : 1 ≤ q) (h4 : q ≤ 4) : r.length = q ∧ (∀ i : Nat, i < q → 0 ≤ rd r (i : Int) ∧ rd r (i : Int) < q) ∧ (∀ x : Nat, x < q → ∃ j, j < r.length ∧ rd r (j : Int) = x) := by
  have hl : r.length = q := by
    unfold perm at h
    rw [Bool.and_eq_true, decide_eq_true_iff] at h
    exact h.1
  refine ⟨hl, fun i hi => ?_, fun x hx => ?_⟩
  · rw [← spn_perm q h1 h4 r hl] at h
    have : ∀ (l : List Nat) (m0 m1 m2 m3 : Bool), spn q l m0 m1 m2 m3 = true → ∀ y ∈ l, y < q := by
      intro l
      induction l with
      | nil => intro _ _ _ _ _ y hy; simp at hy
      | cons z zs ih =>
        intro m0 m1 m2 m3 hs y hy
        unfold spn at hs
        by_cases c : z < q
        · rcases List.mem_cons.1 hy with e | e
          · rw [e]; exact c
          · rw [if_pos c] at hs
            split at hs
            · split at hs
              · cases hs
              · exact ih _ _ _ _ hs y e
            · split at hs
              · split at hs
                · cases hs
                · exact ih _ _ _ _ hs y e
              · split at hs
                · split at hs
                  · cases hs
                  · exact ih _ _ _ _ hs y e
                · split at hs
                  · cases hs
                  · exact ih _ _ _ _ hs y e
        · rw [if_neg c] at hs
          cases hs
    have := this _ _ _ _ _ h (cl (rd r (i : Int))) (List.mem_map_of_mem (rd_mem (by omega)))
    have := (cl_lt (rd r (i : Int)) q h4).1 this
    omega
  · unfold perm at h
    rw [Bool.and_eq_true] at h
    have := List.all_eq_true.1 h.2 x (List.mem_range.2 hx)
    rw [List.contains_iff_mem] at this
    obtain ⟨j, hj, e⟩ := List.getElem_of_mem this
    exact ⟨j, hj, by rw [rd_lt hj, e]⟩

/-- One edge's step from a sheet. -/
def st (t : List (List Int)) (e : Nat) (x : Int) : Int := if e % 2 = 0 then rd (rd_L2 t ((e / 2 : Nat) : Int)) x else ((ix (rd_L2 t ((e / 2 : Nat) : Int)) x (rd_L2 t ((e / 2 : Nat) : Int)).length 0 : Nat) : Int)

def stp (t : List (List Int)) (w : List Int) : Nat → Nat → Int → Int
  | 0, _, x => x
  | d + 1, i, x => stp t w d (i + 1) (st t (rd w (i : Int)).toNat x)

theorem cover_parts {n : Int} {l : List (List Int)} {s : Int} {t : List (List Int)} (h : isCover n l s t = true) : isGraph n l = true ∧ ∃ q : Nat, s = (q : Int) ∧ 1 ≤ q ∧ q ≤ 4 ∧ t.length = l.length ∧ ∀ i : Nat, i < t.length → perm q (rd_L2 t (i : Int)) = true := by
  unfold isCover at h
  rw [Bool.and_eq_true, Bool.and_eq_true, Bool.and_eq_true, decide_eq_true_iff, decide_eq_true_iff] at h
  obtain ⟨h1, ⟨h2, h3⟩, h4, h5⟩ := h
  refine ⟨h1, s.toNat, by omega, by omega, by omega, h4, fun i hi => ?_⟩
  rw [rl_lt hi]
  exact List.all_eq_true.1 h5 _ (List.getElem_mem hi)

section
variable {n : Int} {l : List (List Int)} {q : Nat} {t : List (List Int)} (hg : isGraph n l = true) (hq1 : 1 ≤ q) (hq4 : q ≤ 4) (htl : t.length = l.length) (htp : ∀ i : Nat, i < t.length → perm q (rd_L2 t (i : Int)) = true) {w : List Int} (hd : dirs l w = true) (hw : w.length ≤ 20)
include hg hq1 hq4 htl htp hd hw

omit hg hw in
theorem st_range (i : Nat) (hi : i < w.length) (x : Nat) (hx : x < q) : ∃ y : Nat, st t (rd w (i : Int)).toNat (x : Int) = (y : Int) ∧ y < q := by
  obtain ⟨e1, r1⟩ := dirs_at hd hi
  obtain ⟨p1, p2, p3⟩ := perm_spec (htp ((rd w (i : Int)).toNat / 2) (by omega)) hq1 hq4
  unfold st
  split
  · have := p2 x hx
    exact ⟨(rd (rd_L2 t (((rd w (i : Int)).toNat / 2 : Nat) : Int)) (x : Int)).toNat, by omega, by omega⟩
  · obtain ⟨j, hj, e⟩ := p3 x hx
    have := ix_spec (rd_L2 t (((rd w (i : Int)).toNat / 2 : Nat) : Int)) (x : Int) _ 0 (Nat.zero_add _) ⟨j, by omega, hj, e⟩
    exact ⟨_, rfl, by omega⟩

omit hg hw in
theorem stp_range : ∀ (d i x : Nat), i + d = w.length → x < q → ∃ y : Nat, stp t w d i (x : Int) = (y : Int) ∧ y < q := by
  intro d
  induction d with
  | zero => intro i x _ hx; exact ⟨x, rfl, hx⟩
  | succ d ih =>
    intro i x hi hx
    obtain ⟨y, hy, hyq⟩ := st_range hq1 hq4 htl htp hd i (by omega) x hx
    unfold stp
    rw [hy]
    exact ih (i + 1) y (by omega) hyq

omit hq1 hq4 htp hw in
theorem half' (i : Nat) (hi : i < w.length) : wrap64 (Int.tdiv (rd w (i : Int)) 2) = (((rd w (i : Int)).toNat / 2 : Nat) : Int) ∧ Int.tmod (rd w (i : Int)) 2 = (((rd w (i : Int)).toNat % 2 : Nat) : Int) ∧ (rd w (i : Int)).toNat / 2 < t.length := by
  obtain ⟨g1, g2, g3⟩ := graph_small hg
  obtain ⟨e1, r1⟩ := dirs_at hd hi
  have h1 := half (rd w (i : Int)).toNat (by omega)
  have h2 := rest2 (rd w (i : Int)).toNat
  rw [← e1] at h1 h2
  exact ⟨h1, h2, by omega⟩

omit hg hq1 hq4 htl htp hd in
theorem specSearch (x6 : List Int) (x7 : Int) (i : Nat) (hi : i < w.length) (r : List Int) (hr : r.length ≤ 100) (x : Int) (res : List Int × Int) : ∀ (d j : Nat), j + d = r.length → (∃ p, j ≤ p ∧ p < r.length ∧ rd r (p : Int) = x) →
    Ev (fun k => spec_l04Walk.l1 k w x6 x7 ((ix r x d j : Nat) : Int) ((i + 1 : Nat) : Int) n l (q : Int) t) res → Ev (fun k => spec_l04Walk.l2 k w x6 x7 x (i : Int) r (j : Int) n l (q : Int) t) res := by
  intro d
  induction d with
  | zero => intro j hj ⟨p, h1, h2, _⟩; omega
  | succ d ih =>
    intro j hj ⟨p, h1, h2, h3⟩ hres
    unfold ix at hres
    refine Ev.succ ?_; simp only [spec_l04Walk.l2]
    rw [wrap_succ (i := i) (by omega), wrap_succ (i := j) (by omega)]
    by_cases c : rd r (j : Int) = x
    · rw [if_pos c] at hres
      exact Ev.pos (by omega) (Ev.pos (by omega) (Ev.pos c hres))
    · rw [if_neg c] at hres
      refine Ev.pos (by omega) (Ev.pos (by omega) (Ev.neg c (ih (j + 1) (by omega) ⟨p, ?_, h2, h3⟩ hres)))
      apply Classical.byContradiction
      intro z
      exact c (by rw [show j = p by omega]; exact h3)

theorem specPSteps (x6 : List Int) (h6 : x6.length ≤ 100) (sh : Nat) (hsh : sh < 4) (res : List Int × Int) : ∀ (d i : Nat) (x : Nat), i + d = w.length → x < q →
    (Ev (fun k => spec_l04Walk.l0 k w (x6 ++ [stp t w d i (x : Int)]) ((sh + 1 : Nat) : Int) n l (q : Int) t) res) → Ev (fun k => spec_l04Walk.l1 k w x6 (sh : Int) (x : Int) (i : Int) n l (q : Int) t) res := by
  intro d
  induction d with
  | zero =>
    intro i x hi hx hres
    refine Ev.succ ?_; simp only [spec_l04Walk.l1]
    rw [wrap_succ (i := sh) (by omega)]
    exact Ev.neg (by omega) (Ev.pos (by omega) hres)
  | succ d ih =>
    intro i x hi hx hres
    obtain ⟨a1, a2, a3⟩ := half' hg htl hd i (by omega)
    obtain ⟨p1, p2, p3⟩ := perm_spec (htp ((rd w (i : Int)).toNat / 2) a3) hq1 hq4
    obtain ⟨y, hy, hyq⟩ := st_range hq1 hq4 htl htp hd i (by omega) x hx
    have hres' : Ev (fun k => spec_l04Walk.l0 k w (x6 ++ [stp t w d (i + 1) (y : Int)]) ((sh + 1 : Nat) : Int) n l (q : Int) t) res := by
      rw [← hy]; exact hres
    have h1 := ih (i + 1) y (by omega) hyq hres'
    refine Ev.succ ?_; simp only [spec_l04Walk.l1]
    rw [a1, a2, wrap_succ (i := i) (by omega)]
    refine Ev.pos (by omega) (Ev.pos (by omega) (Ev.pos (by omega) (Ev.pos (by omega) ?_)))
    unfold st at hy
    by_cases c : (rd w (i : Int)).toNat % 2 = 0
    · rw [if_pos c] at hy
      rw [hy]
      exact Ev.pos (by omega) (Ev.pos (by omega) (Ev.pos (by omega) h1))
    · rw [if_neg c] at hy
      obtain ⟨j, hj, e⟩ := p3 x hx
      rw [← hy] at h1
      exact Ev.neg (by omega) (specSearch hw x6 (sh : Int) i (by omega) _ (by omega) (x : Int) res _ 0 (Nat.zero_add _) ⟨j, by omega, hj, e⟩ h1)

theorem specSheets : ∀ (d sh : Nat), sh + d = q → Ev (fun k => spec_l04Walk.l0 k w ((List.range sh).map (fun x : Nat => stp t w w.length 0 (x : Int))) (sh : Int) n l (q : Int) t) ((List.range q).map (fun x : Nat => stp t w w.length 0 (x : Int)), 0) := by
  intro d
  induction d with
  | zero =>
    intro sh hsh
    obtain rfl : sh = q := by omega
    refine Ev.succ ?_; simp only [spec_l04Walk.l0]
    exact Ev.neg (by omega) (Ev.now _)
  | succ d ih =>
    intro sh hsh
    have h1 := ih (sh + 1) (by omega)
    rw [map_range_succ] at h1
    have h2 := specPSteps hg hq1 hq4 htl htp hd hw _ (by simp; omega) sh (by omega) _ w.length 0 sh (by omega) (by omega) h1
    refine Ev.succ ?_; simp only [spec_l04Walk.l0]
    exact Ev.pos (by omega) h2

omit hg hq1 hq4 htl htp hd hw in
theorem libIndexIx (r : List Int) (hr : r.length ≤ 100) (x : Int) : ∀ (d j : Nat), j + d = r.length → (∃ p, j ≤ p ∧ p < r.length ∧ rd r (p : Int) = x) → Ev (fun k => slices_Index_int64_int64.l0 k r x (r.length : Int) (j : Int)) ((ix r x d j : Nat) : Int) := by
  intro d
  induction d with
  | zero => intro j hj ⟨p, h1, h2, _⟩; omega
  | succ d ih =>
    intro j hj ⟨p, h1, h2, h3⟩
    unfold ix
    refine Ev.succ ?_; simp only [slices_Index_int64_int64.l0]
    rw [wrap_succ (i := j) (by omega)]
    by_cases c : rd r (j : Int) = x
    · rw [if_pos c]
      repeat (first | with_reducible exact Ev.now _ | dsimp only | refine Ev.pos_ ?_ | refine Ev.neg_ ?_ | simp only [bne_self_eq_false, Bool.not_true, Bool.not_false, List.length_cons, List.length_nil] | rw [wrap_id (by omega) (by omega)] | ((with_reducible refine Ev.eq (congrArg some ?_)); rfl))
    · rw [if_neg c]
      have := ih (j + 1) (by omega) ⟨p, by
        apply Classical.byContradiction
        intro z
        exact c (by rw [show j = p by omega]; exact h3), h2, h3⟩
      repeat (first | with_reducible exact Ev.now _ | dsimp only | refine Ev.pos_ ?_ | refine Ev.neg_ ?_ | simp only [bne_self_eq_false, Bool.not_true, Bool.not_false, List.length_cons, List.length_nil] | rw [wrap_id (by omega) (by omega)] | ((with_reducible refine Ev.eq (congrArg some ?_)); rfl))
      exact this

theorem implPSteps (x12 : List Int) (h6 : x12.length ≤ 100) (sh : Nat) (hsh : sh < 4) (res : List Int × Int) : ∀ (d i : Nat) (x : Nat), i + d = w.length → x < q →
    (Ev (fun k => impl_PermutationOfWalk.l1 k w (x12 ++ [stp t w d i (x : Int)]) (q : Int) ((sh + 1 : Nat) : Int) n l (q : Int) t) res) → Ev (fun k => impl_PermutationOfWalk.l2 k w x12 (x : Int) (q : Int) (sh : Int) w (w.length : Int) (i : Int) n l (q : Int) t) res := by
  intro d
  induction d with
  | zero =>
    intro i x hi hx hres
    refine Ev.succ ?_; simp only [impl_PermutationOfWalk.l2]
    rw [wrap_succ (i := sh) (by omega)]
    exact Ev.neg (by omega) (Ev.pos (by omega) hres)
  | succ d ih =>
    intro i x hi hx hres
    obtain ⟨a1, a2, a3⟩ := half' hg htl hd i (by omega)
    obtain ⟨p1, p2, p3⟩ := perm_spec (htp ((rd w (i : Int)).toNat / 2) a3) hq1 hq4
    obtain ⟨y, hy, hyq⟩ := st_range hq1 hq4 htl htp hd i (by omega) x hx
    have hres' : Ev (fun k => impl_PermutationOfWalk.l1 k w (x12 ++ [stp t w d (i + 1) (y : Int)]) (q : Int) ((sh + 1 : Nat) : Int) n l (q : Int) t) res := by
      rw [← hy]; exact hres
    have h1 := ih (i + 1) y (by omega) hyq hres'
    refine Ev.succ ?_; simp only [impl_PermutationOfWalk.l2]
    rw [a1, a2, wrap_succ (i := i) (by omega)]
    refine Ev.pos (by omega) (Ev.pos (by omega) (Ev.pos (by omega) (Ev.pos (by omega) (Ev.pos (by omega) ?_))))
    unfold st at hy
    by_cases c : (rd w (i : Int)).toNat % 2 = 0
    · rw [if_pos c] at hy
      rw [hy]
      exact Ev.pos (by omega) (Ev.pos (by omega) (Ev.pos (by omega) h1))
    · rw [if_neg c] at hy
      obtain ⟨j, hj, e⟩ := p3 x hx
      rw [← hy] at h1
      have h2 := libIndexIx (rd_L2 t (((rd w (i : Int)).toNat / 2 : Nat) : Int)) (by omega) (x : Int) _ 0 (Nat.zero_add _) ⟨j, by omega, hj, e⟩
      refine Ev.neg (by omega) (Ev.bind ?_ h1)
      unfold slices_Index_int64_int64.f
      exact h2

theorem implSheets : ∀ (d sh : Nat), sh + d = q → Ev (fun k => impl_PermutationOfWalk.l1 k w ((List.range sh).map (fun x : Nat => stp t w w.length 0 (x : Int))) (q : Int) (sh : Int) n l (q : Int) t) ((List.range q).map (fun x : Nat => stp t w w.length 0 (x : Int)), 0) := by
  intro d
  induction d with
  | zero =>
    intro sh hsh
    obtain rfl : sh = q := by omega
    refine Ev.succ ?_; simp only [impl_PermutationOfWalk.l1]
    exact Ev.neg (by omega) (Ev.now _)
  | succ d ih =>
    intro sh hsh
    have h1 := ih (sh + 1) (by omega)
    rw [map_range_succ] at h1
    have h2 := implPSteps hg hq1 hq4 htl htp hd hw _ (by simp; omega) sh (by omega) _ w.length 0 sh (by omega) (by omega) h1
    refine Ev.succ ?_; simp only [impl_PermutationOfWalk.l1]
    exact Ev.pos (by omega) h2

theorem implMeet (hw0 : 0 < w.length) : ∀ (d i : Nat), i + d = w.length → Ev (fun k => impl_PermutationOfWalk.l0 k w w (w.length : Int) (i : Int) n l (q : Int) t) (if cycA l w d i = true then ((List.range q).map (fun x : Nat => stp t w w.length 0 (x : Int)), 0) else ([], 5)) := by
  obtain ⟨g1, g2, g3⟩ := graph_small hg
  intro d
  induction d with
  | zero =>
    intro i hi
    unfold cycA
    rw [if_pos rfl]
    refine Ev.succ ?_; simp only [impl_PermutationOfWalk.l0]
    exact Ev.neg (by omega) (implSheets hg hq1 hq4 htl htp hd hw q 0 (by omega))
  | succ d ih =>
    intro i hi
    have hm : (i + 1) % w.length < w.length := Nat.mod_lt _ (by omega)
    obtain ⟨e1, r1⟩ := dirs_at hd (show i < w.length by omega)
    obtain ⟨e2, r2⟩ := dirs_at hd hm
    have h1 := ih (i + 1) (by omega)
    have ha := implEnds hg r1
    have hb := implEnds hg r2
    rw [← e1] at ha
    rw [← e2] at hb
    refine Ev.succ ?_; simp only [impl_PermutationOfWalk.l0]
    unfold cycA
    rw [mod_next i w.length (by omega), wrap_succ (by omega)]
    by_cases c1 : Pure.hd l (rd w (i : Int)).toNat = tl l (rd w (((i + 1) % w.length : Nat) : Int)).toNat
    · rw [decide_eq_true c1, Bool.true_and]
      repeat (first | with_reducible exact Ev.now _ | dsimp only | with_reducible refine Ev.bind (Ev.eq ha) ?_ | with_reducible refine Ev.bind (Ev.eq hb) ?_ | refine Ev.pos_ ?_ | refine Ev.neg_ ?_ | simp only [bne_self_eq_false, Bool.not_true, Bool.not_false, List.length_cons, List.length_nil] | rw [wrap_id (by omega) (by omega)] | with_reducible exact (Ev.eq ha) | with_reducible exact (Ev.eq hb) | ((with_reducible refine Ev.eq (congrArg some ?_)); rfl))
      exact h1
    · rw [decide_eq_false c1, Bool.false_and, if_neg (by decide)]
      repeat (first | with_reducible exact Ev.now _ | dsimp only | with_reducible refine Ev.bind (Ev.eq ha) ?_ | with_reducible refine Ev.bind (Ev.eq hb) ?_ | refine Ev.pos_ ?_ | refine Ev.neg_ ?_ | simp only [bne_self_eq_false, Bool.not_true, Bool.not_false, List.length_cons, List.length_nil] | rw [wrap_id (by omega) (by omega)] | with_reducible exact (Ev.eq ha) | with_reducible exact (Ev.eq hb) | ((with_reducible refine Ev.eq (congrArg some ?_)); rfl))

end

/-- Without an error: as many numbers as sheets, each a sheet. -/
def goodw (s : Int) (r : List Int × Int) : Prop := r.2 = 0 → (r.1.length : Int) = s ∧ r.1.length ≤ 4 ∧ ∀ i : Nat, i < r.1.length → 0 ≤ rd r.1 (i : Int) ∧ rd r.1 (i : Int) < s

/-- The answer. -/
def permR (n : Int) (l : List (List Int)) (s : Int) (t : List (List Int)) (w : List Int) : List Int × Int := if isCover n l s t = true then (if w.length = 0 then ([], 2) else if w.length ≤ 20 then (if dirs l w = true then (if cycA l w w.length 0 = true then ((List.range s.toNat).map (fun x : Nat => stp t w w.length 0 (x : Int)), 0) else ([], 5)) else ([], 2)) else ([], 2)) else ([], 1)

theorem permw_is (n : Int) (l : List (List Int)) (s : Int) (t : List (List Int)) (w : List Int) (hl : Mod l) (ht : Mod t) (hw : w.length ≤ 1048576) : (permR n l s t w).1.length ≤ 1048576 ∧ goodw s (permR n l s t w) ∧ Ev (fun k => spec_l04Walk.f k n l s t w) (permR n l s t w) ∧ Ev (fun k => impl_PermutationOfWalk.f k n l s t w) (permR n l s t w) := by
  unfold impl_PermutationOfWalk.f spec_l04Walk.f
  have h1 := specIsCover n l s t hl ht
  have h2 := implIsCover n l s t hl ht
  cases hc : isCover n l s t with
  | false =>
    rw [hc] at h1 h2
    rw [show permR n l s t w = ([], 1) by unfold permR; rw [hc, if_neg (by decide)]]
    exact ⟨by simp, fun h => absurd h (by decide), Ev.bind h1 (Ev.neg (by decide) (Ev.now _)), Ev.bind h2 (Ev.neg (by decide) (Ev.now _))⟩
  | true =>
    rw [hc] at h1 h2
    have e0 : permR n l s t w = if w.length = 0 then ([], 2) else if w.length ≤ 20 then (if dirs l w = true then (if cycA l w w.length 0 = true then ((List.range s.toNat).map (fun x : Nat => stp t w w.length 0 (x : Int)), 0) else ([], 5)) else ([], 2)) else ([], 2) := if_pos hc
    obtain ⟨hg, q, rfl, hq1, hq4, htl, htp⟩ := cover_parts hc
    have bad : Ev (fun k => spec_l04Walk.j0 k w true n l (q : Int) t) (([] : List Int), (2 : Int)) := by
      refine Ev.succ ?_; simp only [spec_l04Walk.j0]
      exact Ev.pos trivial (Ev.now _)
    rw [implWithin2]
    have hdi := implDirs hg hw
    have hds := specDirected hg hw
    by_cases c0 : w.length = 0
    · rw [e0, if_pos c0]
      refine ⟨by simp, fun h => absurd h (by decide), Ev.bind h1 (Ev.pos rfl (Ev.pos (by omega) bad)), Ev.bind h2 (Ev.pos rfl ?_)⟩
      rw [decide_eq_false (by omega)]
      exact Ev.bind (Ev.now _) (Ev.neg (by decide) (Ev.now _))
    by_cases c20 : w.length ≤ 20
    · cases hd : dirs l w with
      | false =>
        rw [hd] at hdi hds
        rw [Bool.false_and] at hds
        rw [e0, if_neg c0, if_pos c20, if_neg (by rw [hd]; decide)]
        refine ⟨by simp, fun h => absurd h (by decide), Ev.bind h1 (Ev.pos rfl (Ev.neg (by omega) (Ev.bind hds bad))), Ev.bind h2 (Ev.pos rfl ?_)⟩
        rw [decide_eq_true (by omega)]
        exact Ev.bind (Ev.now _) (Ev.pos rfl (Ev.bind hdi (Ev.neg (by decide) (Ev.now _))))
      | true =>
        rw [hd] at hdi hds
        rw [Bool.true_and, decide_eq_true (show (w.length : Int) ≤ 20 by omega)] at hds
        have hm := implMeet hg hq1 hq4 htl htp hd c20 (by omega) w.length 0 (by omega)
        have hs := specClosed_loop hg hd hw w.length 0 (by omega)
        rw [decide_eq_true (show (w.length : Int) > 0 by omega), Bool.and_true] at hs
        have hs2 := specSheets hg hq1 hq4 htl htp hd c20 q 0 (by omega)
        obtain ⟨R, hR⟩ : ∃ R : List Int × Int, R = (if cycA l w w.length 0 = true then ((List.range q).map (fun x : Nat => stp t w w.length 0 (x : Int)), 0) else ([], 5)) := ⟨_, rfl⟩
        have hlen : R.1.length ≤ 1048576 := by
          rw [hR]
          split
          · simp; omega
          · simp
        have hgood : goodw (q : Int) R := by
          rw [hR]
          split
          · intro _
            refine ⟨by simp, by simp; omega, fun i hi => ?_⟩
            simp only [List.length_map, List.length_range] at hi
            obtain ⟨y, hy, hyq⟩ := stp_range hq1 hq4 htl htp hd w.length 0 i (by omega) hi
            rw [rd_map_range (fun x : Nat => stp t w w.length 0 (x : Int)) hi, hy]
            omega
          · exact fun h => absurd h (by decide)
        have h3 : Ev (fun k => spec_l04Walk.j0 k w false n l (q : Int) t) R := by
          refine Ev.succ ?_; simp only [spec_l04Walk.j0]
          refine Ev.neg (by decide) (Ev.bind (a := cycA l w w.length 0) ?_ ?_)
          · unfold spec_l02Closed.f
            exact hs
          · rw [hR]
            cases cycA l w w.length 0 with
            | true => exact Ev.pos rfl hs2
            | false => exact Ev.neg (by decide) (Ev.now _)
        rw [← hR] at hm
        rw [show permR n l (q : Int) t w = R by rw [e0, if_neg c0, if_pos c20, if_pos hd, hR, Int.toNat_natCast]]
        refine ⟨hlen, hgood, Ev.bind h1 (Ev.pos rfl (Ev.neg (by omega) (Ev.bind hds h3))), Ev.bind h2 (Ev.pos rfl ?_)⟩
        rw [decide_eq_true (by omega)]
        exact Ev.bind (Ev.now _) (Ev.pos rfl (Ev.bind hdi (Ev.pos rfl hm)))
    · rw [decide_eq_false (show ¬ (w.length : Int) ≤ 20 by omega), Bool.and_false] at hds
      rw [e0, if_neg c0, if_neg c20]
      refine ⟨by simp, fun h => absurd h (by decide), Ev.bind h1 (Ev.pos rfl (Ev.neg (by omega) (Ev.bind hds bad))), Ev.bind h2 (Ev.pos rfl ?_)⟩
      rw [decide_eq_false (by omega)]
      exact Ev.bind (Ev.now _) (Ev.neg (by decide) (Ev.now _))

theorem permw_same (n : Int) (l : List (List Int)) (s : Int) (t : List (List Int)) (w : List Int) (hl : Mod l) (ht : Mod t) (hw : w.length ≤ 1048576) : ∃ r : List Int × Int, r.1.length ≤ 1048576 ∧ goodw s r ∧ Ev (fun k => spec_l04Walk.f k n l s t w) r ∧ Ev (fun k => impl_PermutationOfWalk.f k n l s t w) r := ⟨_, permw_is n l s t w hl ht hw⟩
theorem spec_tow_free (n : Int) (l : List (List Int)) (q : Int) (t : List (List Int)) : ∀ k, (∀ x6 x8 x9 x10, spec_TypeOfWalk.l0 k x6 x8 x9 x10 n l q t = spec_TypeOfWalk.l0 k x6 x8 x9 x10 0 [] q []) ∧ (∀ x6 x8 x9 x10 x11 x12, spec_TypeOfWalk.l1 k x6 x8 x9 x10 x11 x12 n l q t = spec_TypeOfWalk.l1 k x6 x8 x9 x10 x11 x12 0 [] q []) ∧ (∀ x6 x8 x9 x10 x11 x13, spec_TypeOfWalk.l2 k x6 x8 x9 x10 x11 x13 n l q t = spec_TypeOfWalk.l2 k x6 x8 x9 x10 x11 x13 0 [] q []) := by
  intro k
  induction k with
  | zero => exact ⟨fun _ _ _ _ => rfl, fun _ _ _ _ _ _ => rfl, fun _ _ _ _ _ _ => rfl⟩
  | succ k ih =>
    obtain ⟨h0, h1, h2⟩ := ih
    refine ⟨fun _ _ _ _ => ?_, fun _ _ _ _ _ _ => ?_, fun _ _ _ _ _ _ => ?_⟩
    · simp only [spec_TypeOfWalk.l0, h0, h1, h2]
    · simp only [spec_TypeOfWalk.l1, h0, h1, h2]
    · simp only [spec_TypeOfWalk.l2, h0, h1, h2]

/-- All rows of m numbers below q. -/
def rowsOf (q : Nat) : Nat → List (List Int)
  | 0 => [[]]
  | m + 1 => (List.range q).flatMap (fun x : Nat => (rowsOf q m).map (fun r => (x : Int) :: r))

theorem rowsOf_mem (q : Nat) : ∀ (m : Nat) (r : List Int), r.length = m → (∀ y ∈ r, 0 ≤ y ∧ y < q) → r ∈ rowsOf q m := by
  intro m
  induction m with
  | zero =>
    intro r hr _
    rw [List.eq_nil_of_length_eq_zero hr]
    exact List.mem_singleton.2 rfl
  | succ m ih =>
    intro r hr h
    cases r with
    | nil => simp at hr
    | cons y r =>
      unfold rowsOf
      have hy := h y List.mem_cons_self
      refine List.mem_flatMap.2 ⟨y.toNat, List.mem_range.2 (by omega), List.mem_map.2 ⟨r, ih r (by simpa using hr) (fun z hz => h z (List.mem_cons_of_mem _ hz)), ?_⟩⟩
      rw [show ((y.toNat : Nat) : Int) = y by omega]

/-- Both loops, run at one row. -/
def runsAlike (r : List Int) : Bool :=
  match spec_TypeOfWalk.l0 60 r (List.replicate 4 false) [] 0 0 [] (r.length : Int) [], impl_TypeOfWalk.l0 60 r [] (List.replicate r.length false) (r.length : Int) 0 with
  | some a, some b => decide (a = b ∧ a.1.length ≤ 1000)
  | _, _ => false

theorem runs_all : ∀ q : Fin 5, ∀ r ∈ rowsOf q.val q.val, runsAlike r = true := by decide +kernel

theorem Ev.of_mono {α : Type} {f : Nat → Option α} {r : α} (hm : ∀ k, LeO (f k) (f (k + 1))) (k0 : Nat) (h : f k0 = some r) : Ev f r := by
  refine ⟨k0, fun k hk => ?_⟩
  obtain ⟨d, rfl⟩ : ∃ d, k = k0 + d := ⟨k - k0, by omega⟩
  induction d with
  | zero => exact h
  | succ d ih => exact hm _ _ (ih (by omega))

theorem tow_runs (n : Int) (l : List (List Int)) (t : List (List Int)) (r : List Int) (h4 : r.length ≤ 4) (hr : ∀ i : Nat, i < r.length → 0 ≤ rd r (i : Int) ∧ rd r (i : Int) < (r.length : Int)) : ∃ z : List Int × Int, z.1.length ≤ 1048576 ∧ Ev (fun k => spec_TypeOfWalk.l0 k r (List.replicate 4 false) [] 0 n l (r.length : Int) t) z ∧ Ev (fun k => impl_TypeOfWalk.l0 k r [] (List.replicate r.length false) (r.length : Int) 0) z := by
  have h := runs_all ⟨r.length, by omega⟩ r (rowsOf_mem r.length r.length r rfl (fun y hy => by
    obtain ⟨i, hi, rfl⟩ := List.getElem_of_mem hy
    rw [← rd_lt hi]
    exact hr i hi))
  unfold runsAlike at h
  split at h
  · next a b ha hb =>
    obtain ⟨e, h1⟩ := of_decide_eq_true h
    subst e
    refine ⟨a, by omega, ?_, ?_⟩
    · refine Ev.congr (fun k => (spec_tow_free n l (r.length : Int) t k).1 _ _ _ _) ?_
      exact Ev.of_mono (fun k => (spec_TypeOfWalk.mono_l k).1 _ _ _ _ _ _ _ _) 60 ha
    · exact Ev.of_mono (fun k => (impl_TypeOfWalk.mono_l k).1 _ _ _ _ _) 60 hb
  · cases h

theorem tow_same (n : Int) (l : List (List Int)) (s : Int) (t : List (List Int)) (w : List Int) (hl : Mod l) (ht : Mod t) (hw : w.length ≤ 1048576) : ∃ r : List Int × Int, r.1.length ≤ 1048576 ∧ Ev (fun k => spec_TypeOfWalk.f k n l s t w) r ∧ Ev (fun k => impl_TypeOfWalk.f k n l s t w) r := by
  obtain ⟨r, hr, hg, hs, hi⟩ := permw_same n l s t w hl ht hw
  unfold spec_TypeOfWalk.f impl_TypeOfWalk.f
  by_cases c : r.2 = 0
  · obtain ⟨g1, g2, g3⟩ := hg c
    obtain ⟨z, z1, z2, z3⟩ := tow_runs n l t r.1 g2 (fun i hi => by rw [g1]; exact g3 i hi)
    rw [g1] at z2
    refine ⟨z, z1, Ev.bind hs (Ev.pos c (Ev.pos (by omega) z2)), Ev.bind hi (Ev.pos c (Ev.pos (by omega) (Ev.pos (by omega) ?_)))⟩
    rw [Int.toNat_natCast]
    exact z3
  · exact ⟨([], r.2), by simp, Ev.bind hs (Ev.neg c (Ev.now _)), Ev.bind hi (Ev.neg c (Ev.now _))⟩
def bs (l : List UInt8) : ByteArray := ⟨l.toArray⟩

theorem bs_data (a : ByteArray) : bs a.data.toList = a := by
  obtain ⟨⟨l⟩⟩ := a
  rfl

theorem bs_ex (a : ByteArray) : ∃ l, a = bs l := ⟨a.data.toList, (bs_data a).symm⟩

theorem bs_size (l : List UInt8) : (bs l).size = l.length := by simp [bs, ByteArray.size]

theorem bs_toList (l : List UInt8) : (bs l).toList = l := ByteArray.toList_mk l

theorem bs_extract (l : List UInt8) (a b : Nat) : (bs l).extract a b = bs ((l.take b).drop a) := by
  apply ByteArray.ext
  simp [bs, List.extract_eq_drop_take']

theorem bs_bt {l : List UInt8} {i : Nat} (h : i < l.length) : bt (bs l) (i : Int) = (l[i].toNat : Int) := by
  unfold bt
  rw [dif_pos (by rw [bs_size]; simpa using h)]
  rfl

theorem Ev.uniq {α : Type} {g : Nat → Option α} {r s : α} (h : Ev g r) (k : Ev g s) : r = s := by
  obtain ⟨K, h⟩ := h
  obtain ⟨L, k⟩ := k
  have h1 := h (max K L) (by omega)
  rw [k (max K L) (by omega)] at h1
  exact (Option.some.inj h1).symm

/-- The parts between the bytes c. -/
def splitL (c : UInt8) : List UInt8 → List (List UInt8)
  | [] => [[]]
  | b :: s => if b = c then [] :: splitL c s else
    match splitL c s with
    | [] => [[b]]
    | x :: xs => (b :: x) :: xs

/-- A text put ahead of the first part. -/
def glue (p : List UInt8) : List (List UInt8) → List (List UInt8)
  | [] => [p]
  | x :: xs => (p ++ x) :: xs

theorem splitL_ne (c : UInt8) (s : List UInt8) : splitL c s ≠ [] := by
  cases s with
  | nil => simp [splitL]
  | cons b s =>
    unfold splitL
    split
    · simp
    · split <;> simp

theorem splitL_eq (c : UInt8) (s : List UInt8) : splitL c (c :: s) = [] :: splitL c s := by simp [splitL]

theorem splitL_ne_cons {b c : UInt8} (h : b ≠ c) (s : List UInt8) : splitL c (b :: s) = glue [b] (splitL c s) := by
  rw [splitL, if_neg h]
  cases e : splitL c s with
  | nil => exact absurd e (splitL_ne c s)
  | cons x xs => rfl

theorem glue_glue (p q : List UInt8) (xs : List (List UInt8)) : glue p (glue q xs) = glue (p ++ q) xs := by
  cases xs <;> simp [glue]

theorem glue_nil {xs : List (List UInt8)} (h : xs ≠ []) : glue [] xs = xs := by
  cases xs with
  | nil => exact absurd rfl h
  | cons x xs => rfl

theorem splitL_length (c : UInt8) (s : List UInt8) : (splitL c s).length = s.count c + 1 := by
  induction s with
  | nil => rfl
  | cons b s ih =>
    by_cases h : b = c
    · subst h
      rw [splitL_eq, List.length_cons, ih]
      simp
    · rw [splitL_ne_cons h, List.count_cons_of_ne h, ← ih]
      cases e : splitL c s with
      | nil => exact absurd e (splitL_ne c s)
      | cons x xs => rfl

def joinL (c : UInt8) : List (List UInt8) → List UInt8
  | [] => []
  | [x] => x
  | x :: y :: r => x ++ c :: joinL c (y :: r)

theorem joinL_cons {c : UInt8} (x : List UInt8) {xs : List (List UInt8)} (h : xs ≠ []) : joinL c (x :: xs) = x ++ c :: joinL c xs := by
  cases xs with
  | nil => exact absurd rfl h
  | cons y r => rfl

theorem joinL_glue (c : UInt8) (p : List UInt8) {xs : List (List UInt8)} (h : xs ≠ []) : joinL c (glue p xs) = p ++ joinL c xs := by
  cases xs with
  | nil => exact absurd rfl h
  | cons x xs =>
    cases xs with
    | nil => rfl
    | cons y r => simp [glue, joinL]

theorem joinL_splitL (c : UInt8) (s : List UInt8) : joinL c (splitL c s) = s := by
  induction s with
  | nil => rfl
  | cons b s ih =>
    by_cases h : b = c
    · subst h
      rw [splitL_eq, joinL_cons _ (splitL_ne _ _), ih]
      rfl
    · rw [splitL_ne_cons h, joinL_glue _ _ (splitL_ne _ _), ih]
      rfl

theorem splitL_free {c : UInt8} {x : List UInt8} (h : ∀ b ∈ x, b ≠ c) : splitL c x = [x] := by
  induction x with
  | nil => rfl
  | cons b x ih =>
    rw [splitL_ne_cons (h b (List.mem_cons_self)), ih (fun y hy => h y (List.mem_cons_of_mem _ hy))]
    rfl

theorem splitL_app {c : UInt8} {x : List UInt8} (h : ∀ b ∈ x, b ≠ c) (s : List UInt8) : splitL c (x ++ c :: s) = x :: splitL c s := by
  induction x with
  | nil => exact splitL_eq c s
  | cons b x ih =>
    rw [List.cons_append, splitL_ne_cons (h b (List.mem_cons_self)), ih (fun y hy => h y (List.mem_cons_of_mem _ hy))]
    rfl

theorem splitL_joinL {c : UInt8} (xs : List (List UInt8)) (hne : xs ≠ []) (h : ∀ x ∈ xs, ∀ b ∈ x, b ≠ c) : splitL c (joinL c xs) = xs := by
  induction xs with
  | nil => exact absurd rfl hne
  | cons x xs ih =>
    cases xs with
    | nil => exact splitL_free (h x (List.mem_cons_self))
    | cons y r =>
      rw [joinL_cons _ (by simp), splitL_app (h x (List.mem_cons_self)), ih (by simp) (fun z hz => h z (List.mem_cons_of_mem _ hz))]

/-- A figure. -/
def dg (n : Int) : UInt8 := UInt8.ofNat (48 + n.toNat)

theorem dg_toNat {n : Int} (h0 : 0 ≤ n) (h1 : n < 10) : ((dg n).toNat : Int) = 48 + n := by
  unfold dg
  rw [UInt8.toNat_ofNat', Nat.mod_eq_of_lt (by omega)]
  omega

theorem dg_ne {n : Int} (h0 : 0 ≤ n) (h1 : n < 10) {c : UInt8} (h : c.toNat < 48 ∨ 57 < c.toNat) : dg n ≠ c := by
  intro e
  have := dg_toNat h0 h1
  rw [e] at this
  omega

theorem dg_of {b : UInt8} (h : 48 ≤ b.toNat) : dg ((b.toNat : Int) - 48) = b := by
  unfold dg
  apply UInt8.toNat_inj.1
  have := b.toNat_lt
  rw [UInt8.toNat_ofNat', Nat.mod_eq_of_lt (by omega)]
  omega

def word (e : List Int) : List UInt8 := [dg (rd e 0), 45, dg (rd e 1)]

/-- The text of a graph. -/
def txt (n : Int) (l : List (List Int)) : List UInt8 := dg n :: 58 :: joinL 44 (l.map word)

section
variable {n : Int} {l : List (List Int)} (h : isGraph n l = true)
include h

theorem graph_ends {e : List Int} (he : e ∈ l) : ∃ a b : Int, e = [a, b] ∧ rd e 0 = a ∧ rd e 1 = b ∧ 0 ≤ a ∧ a < 8 ∧ 0 ≤ b ∧ b < 8 := by
  obtain ⟨h1, h2, h3, h4⟩ := (isGraph_iff n l).1 h
  obtain ⟨a, b, rfl, ha, ha', hb, hb'⟩ := h4 e he
  exact ⟨a, b, rfl, rfl, rfl, ha, by omega, hb, by omega⟩

theorem word_free {c : UInt8} (hc : (c.toNat < 48 ∨ 57 < c.toNat) ∧ c ≠ 45) : ∀ x ∈ l.map word, ∀ b ∈ x, b ≠ c := by
  intro x hx b hb
  obtain ⟨e, he, rfl⟩ := List.mem_map.1 hx
  obtain ⟨p, q, _, e0, e1, h0, h1, h2, h3⟩ := graph_ends h he
  unfold word at hb
  rw [e0, e1] at hb
  simp only [List.mem_cons, List.not_mem_nil, or_false] at hb
  rcases hb with rfl | rfl | rfl
  · exact dg_ne h0 (by omega) hc.1
  · exact fun e => hc.2 e.symm
  · exact dg_ne h2 (by omega) hc.1

theorem words_split (hl : l ≠ []) : splitL 44 (joinL 44 (l.map word)) = l.map word :=
  splitL_joinL _ (by simpa using hl) (word_free h (c := 44) (by decide))

theorem mem_joinL {c d : UInt8} (hd : (d.toNat < 48 ∨ 57 < d.toNat) ∧ d ≠ 45) (hcd : c ≠ d) : ∀ b ∈ joinL c (l.map word), b ≠ d := by
  have hf := word_free h hd
  clear h
  generalize l.map word = xs at hf
  induction xs with
  | nil => intro b hb; cases hb
  | cons x xs ih =>
    intro b hb
    cases xs with
    | nil => exact hf x (List.mem_cons_self) b hb
    | cons y r =>
      rw [joinL_cons _ (by simp)] at hb
      rcases List.mem_append.1 hb with hb | hb
      · exact hf x (List.mem_cons_self) b hb
      · rcases List.mem_cons.1 hb with rfl | hb
        · exact hcd
        · exact ih (fun z hz => hf z (List.mem_cons_of_mem _ hz)) b hb

theorem txt_split : splitL 58 (txt n l) = [[dg n], joinL 44 (l.map word)] := by
  obtain ⟨h1, h2, h3, h4⟩ := (isGraph_iff n l).1 h
  have e : txt n l = [dg n] ++ 58 :: joinL 44 (l.map word) := rfl
  rw [e, splitL_app (by simp; exact dg_ne (by omega) (by omega) (by decide)), splitL_free (mem_joinL h (by decide) (by decide))]

theorem word_split {e : List Int} (he : e ∈ l) : splitL 45 (word e) = [[dg (rd e 0)], [dg (rd e 1)]] := by
  obtain ⟨p, q, _, e0, e1, h0, h1, h2, h3⟩ := graph_ends h he
  unfold word
  rw [e0, e1]
  have e : [dg p, 45, dg q] = [dg p] ++ 45 :: [dg q] := rfl
  rw [e, splitL_app (by simp; exact dg_ne h0 (by omega) (by decide)), splitL_free (by simp; exact dg_ne h2 (by omega) (by decide))]

end

theorem specOwn (l : List Int) (hl : l.length ≤ 1048576) : spec_l01Own.f l = some l := by
  unfold spec_l01Own.f
  simp only [Option.bind_some, List.length_nil, List.nil_append]
  exact if_pos (by omega)
/-- A run ends, and its answer has a property. -/
def Dr {α : Type} (g : Nat → Option α) (P : α → Prop) : Prop := ∃ r, Ev g r ∧ P r

theorem Dr.bind {α β : Type} {g : Nat → Option α} {f : Nat → α → Option β} {P : α → Prop} {Q : β → Prop} (h : Dr g P) (k : ∀ a, P a → Dr (fun n => f n a) Q) : Dr (fun n => (g n).bind (f n)) Q := by
  obtain ⟨a, h, p⟩ := h
  obtain ⟨r, e, q⟩ := k a p
  exact ⟨r, Ev.bind h e, q⟩

theorem Dr.now {α : Type} {r : α} {P : α → Prop} (p : P r) : Dr (fun _ => some r) P := ⟨r, Ev.now _, p⟩

theorem Dr.eq {α : Type} {o : Option α} {P : α → Prop} (h : ∃ r, o = some r ∧ P r) : Dr (fun _ => o) P := by
  obtain ⟨r, e, p⟩ := h
  exact ⟨r, Ev.eq e, p⟩

theorem Dr.ite {α : Type} {c : Prop} [Decidable c] {f g : Nat → Option α} {P : α → Prop} (h1 : c → Dr f P) (h2 : ¬ c → Dr g P) : Dr (fun k => if c then f k else g k) P := by
  by_cases h : c
  · obtain ⟨r, e, p⟩ := h1 h
    exact ⟨r, Ev.pos h e, p⟩
  · obtain ⟨r, e, p⟩ := h2 h
    exact ⟨r, Ev.neg h e, p⟩

theorem Dr.pos {α : Type} {c : Prop} [Decidable c] {f g : Nat → Option α} {P : α → Prop} (h : c) (h1 : Dr f P) : Dr (fun k => if c then f k else g k) P := Dr.ite (fun _ => h1) (fun x => absurd h x)

theorem Dr.neg {α : Type} {c : Prop} [Decidable c] {f g : Nat → Option α} {P : α → Prop} (h : ¬ c) (h1 : Dr g P) : Dr (fun k => if c then f k else g k) P := Dr.ite (fun x => absurd x h) (fun _ => h1)

theorem Dr.succ {α : Type} {g : Nat → Option α} {P : α → Prop} (e : Dr (fun k => g (k + 1)) P) : Dr g P := by
  obtain ⟨r, e, p⟩ := e
  exact ⟨r, Ev.succ e, p⟩

theorem Dr.mono {α : Type} {g : Nat → Option α} {P Q : α → Prop} (e : Dr g P) (h : ∀ r, P r → Q r) : Dr g Q := by
  obtain ⟨r, e, p⟩ := e
  exact ⟨r, e, h r p⟩

/-- A code of bytes. -/
def Code (c : List Int) : Prop := c.length ≤ 4096 ∧ ∀ y ∈ c, 0 ≤ y ∧ y ≤ 255

theorem from_loop (c : List Int) (hc : Code c) : ∀ (d i : Nat) (h : Int), i + d = c.length → Dr (fun k => spec_l01From.l0 k c (i : Int) c 0 h) (fun r => r.1 = c ∧ 0 ≤ r.2.1) := by
  intro d
  induction d with
  | zero =>
    intro i h hi
    refine Dr.succ ?_
    simp only [spec_l01From.l0]
    exact Dr.neg (by omega) (Dr.now ⟨rfl, Int.le_refl _⟩)
  | succ d ih =>
    intro i h hi
    have := hc.1
    refine Dr.succ ?_
    simp only [spec_l01From.l0]
    refine Dr.pos (by omega) (Dr.pos (by omega) (Dr.pos (by omega) ?_))
    rw [wrap_succ (by omega)]
    exact ih (i + 1) _ (by omega)

theorem from_ex (c : List Int) (hc : Code c) : Dr (fun k => spec_l01From.f k c) (fun r => r.1 = c ∧ 0 ≤ r.2.1) := from_loop c hc c.length 0 _ (by omega)

theorem mask_small (x : Int) : 0 ≤ Go.bits .and .u64 (IntKind.u64.wrap x / 2147483648) 1073741823 ∧ Go.bits .and .u64 (IntKind.u64.wrap x / 2147483648) 1073741823 ≤ 1073741823 := by
  have e0 : IntKind.u64.wrap x = x % 18446744073709551616 := by rw [IntKind.wrap_u64]
  rw [e0]
  have h := bits_mask .u64 63 (by decide) (fun n h₀ h₁ => by rw [IntKind.wrap_u64]; omega) 30 (by decide) (x % 18446744073709551616 / 2147483648) (by omega) (by omega)
  rw [show ((2 : Int) ^ 30 - 1) = 1073741823 by decide, show ((2 : Int) ^ 30) = 1073741824 by decide] at h
  rw [h]
  omega

theorem tmod_range {x n : Int} (hx : 0 ≤ x) (hn : 1 ≤ n) : 0 ≤ Int.tmod x n ∧ Int.tmod x n < n := by
  rw [Int.tmod_eq_emod_of_nonneg hx]
  exact ⟨Int.emod_nonneg _ (by omega), Int.emod_lt_of_pos _ (by omega)⟩

theorem next_ex {c : List Int} (hc : Code c) {a : Int} (ha : 0 ≤ a) (h n : Int) : ∃ r : Int × Int × Int, spec_l01Next.f c a h n = some r ∧ 0 ≤ r.2.1 ∧ 0 ≤ r.1 ∧ (1 ≤ n → r.1 < n) ∧ (n < 1 → r.1 = 0) := by
  unfold spec_l01Next.f
  have hl := hc.1
  have hb := mask_small (IntKind.u64.wrap (h * 6364136223846793005) + 1442695040888963407)
  by_cases hn : n < 1
  · exact ⟨_, if_pos hn, ha, Int.le_refl _, fun x => absurd x (by omega), fun _ => rfl⟩
  · rw [if_neg hn]
    generalize Go.bits .and .u64 (IntKind.u64.wrap (IntKind.u64.wrap (h * 6364136223846793005) + 1442695040888963407) / 2147483648) 1073741823 = b at hb
    by_cases hl2 : a < (c.length : Int)
    · rw [if_pos hl2, if_pos ha, if_neg (by omega)]
      obtain ⟨i, rfl⟩ := Int.eq_ofNat_of_zero_le ha
      have hy := hc.2 _ (rd_mem (show i < c.length by omega))
      have e : wrap64 (wrap64 b + wrap64 (rd c (i : Int))) = b + rd c (i : Int) := by
        rw [wrap_id (x := b) (by omega) (by omega), wrap_id (x := rd c (i : Int)) (by omega) (by omega), wrap_id (by omega) (by omega)]
      have e2 : wrap64 ((i : Int) + 1) = i + 1 := wrap_id (by omega) (by omega)
      have ht := tmod_range (x := b + rd c (i : Int)) (n := n) (by omega) (by omega)
      refine ⟨_, rfl, ?_, ?_, fun _ => ?_, fun x => absurd x hn⟩
      · show 0 ≤ wrap64 ((i : Int) + 1)
        omega
      · show 0 ≤ Int.tmod _ n
        rw [e]; exact ht.1
      · show Int.tmod _ n < n
        rw [e]; exact ht.2
    · rw [if_neg hl2, if_neg (by omega)]
      have ht := tmod_range (x := b) (n := n) (by omega) (by omega)
      refine ⟨_, rfl, ha, ?_, fun _ => ?_, fun x => absurd x hn⟩
      · show 0 ≤ Int.tmod (wrap64 b) n
        rw [wrap_id (by omega) (by omega)]; exact ht.1
      · show Int.tmod (wrap64 b) n < n
        rw [wrap_id (by omega) (by omega)]; exact ht.2

theorem pick_ex {c : List Int} (hc : Code c) {a : Int} (ha : 0 ≤ a) (h : Int) (l : List Int) (hl : 0 < l.length) : ∃ r : Int × Int × Int, spec_l01Pick.f c a h l = some r ∧ 0 ≤ r.2.1 ∧ r.1 ∈ l := by
  unfold spec_l01Pick.f
  obtain ⟨r, e, h1, h2, h3, _⟩ := next_ex hc ha h (l.length : Int)
  have h4 := h3 (by omega)
  rw [e]
  simp only [Option.bind_some]
  rw [if_pos h2, if_pos h4]
  obtain ⟨i, hi⟩ := Int.eq_ofNat_of_zero_le h2
  exact ⟨_, rfl, h1, by rw [hi]; exact rd_mem (by omega)⟩

theorem own_eq (l : List Int) (hl : l.length ≤ 1048576) : spec_l01Own.f l = some l := specOwn l hl
theorem specSplit_loop (s : List UInt8) (c : UInt8) (hs : s.length ≤ 1048576) : ∀ (d i j : Nat) (acc : List ByteArray), i + d = s.length → j ≤ i → acc.length ≤ i →
    Ev (fun k => spec_l01Split.l0 k (bs s) (c.toNat : Int) acc (j : Int) (i : Int)) (acc ++ (glue ((s.take i).drop j) (splitL c (s.drop i))).map bs) := by
  intro d
  induction d with
  | zero =>
    intro i j acc hi hj ha
    have e : i = s.length := by omega
    subst e
    refine Ev.succ ?_; simp only [spec_l01Split.l0]
    refine Ev.neg (by rw [bs_size]; omega) ?_
    refine Ev.pos (by omega) ?_
    refine Ev.pos (by rw [bs_size]; omega) ?_
    refine Ev.pos (by omega) ?_
    rw [bs_size, bs_extract, List.drop_length, splitL]
    refine Ev.eq (congrArg some ?_)
    simp [glue]
  | succ d ih =>
    intro i j acc hi hj ha
    have hil : i < s.length := by omega
    refine Ev.succ ?_; simp only [spec_l01Split.l0]
    refine Ev.pos (by rw [bs_size]; omega) ?_
    refine Ev.pos (by omega) ?_
    rw [bs_bt hil, List.drop_eq_getElem_cons hil]
    by_cases h : s[i] = c
    · refine Ev.pos (by rw [h]) ?_
      refine Ev.pos (by omega) ?_
      refine Ev.pos (by omega) ?_
      refine Ev.pos (by rw [bs_size]; omega) ?_
      refine Ev.pos (by omega) ?_
      rw [wrap_succ (by omega), bs_extract, h, splitL_eq]
      have h1 := ih (i + 1) (i + 1) (acc ++ [bs ((s.take i).drop j)]) (by omega) (Nat.le_refl _) (by simp; omega)
      rw [List.drop_eq_nil_of_le (show (s.take (i + 1)).length ≤ i + 1 by rw [List.length_take]; omega), glue_nil (splitL_ne _ _)] at h1
      refine Ev.conv h1 ?_
      simp [glue]
    · refine Ev.neg (fun e => h (UInt8.toNat_inj.1 (by omega))) ?_
      rw [wrap_succ (by omega), splitL_ne_cons h, glue_glue]
      have h1 := ih (i + 1) j acc (by omega) (by omega) (by omega)
      rw [List.take_succ_eq_append_getElem hil, List.drop_append_of_le_length (by simp; omega)] at h1
      exact h1

theorem specSplit (s : List UInt8) (c : UInt8) (hs : s.length ≤ 1048576) : Ev (fun k => spec_l01Split.f k (bs s) (c.toNat : Int)) ((splitL c s).map bs) := by
  unfold spec_l01Split.f
  have h := specSplit_loop s c hs s.length 0 0 [] (by omega) (by omega) (by simp)
  rw [List.drop_zero, List.take_zero, glue_nil (splitL_ne _ _), List.nil_append] at h
  exact h

theorem specNumber_loop (s : List UInt8) (hs : s.length ≤ 9) : ∀ (d i x : Nat), i + d = s.length → 1 ≤ i → 1 ≤ x → (2 ≤ i → 10 ≤ x) → 2 ≤ s.length → x < 10 ^ i →
    ∃ v : Int, Ev (fun k => spec_l01Number.l0 k (bs s) (x : Int) (i : Int)) v ∧ (v = -1 ∨ 10 ≤ v) := by
  intro d
  induction d with
  | zero =>
    intro i x hi h1 hx h2 hl hp
    refine ⟨x, ?_, Or.inr (by have := h2 (by omega); omega)⟩
    refine Ev.succ ?_; simp only [spec_l01Number.l0]
    refine Ev.neg (by rw [bs_size]; omega) ?_
    exact Ev.now _
  | succ d ih =>
    intro i x hi h1 hx h2 hl hp
    have hil : i < s.length := by omega
    have hp9 : (10 : Nat) ^ i ≤ 10 ^ 9 := Nat.pow_le_pow_right (by omega) (by omega)
    by_cases c1 : s[i].toNat < 48
    · refine ⟨-1, ?_, Or.inl rfl⟩
      refine Ev.succ ?_; simp only [spec_l01Number.l0]
      refine Ev.pos (by rw [bs_size]; omega) ?_
      refine Ev.pos (by omega) ?_
      rw [bs_bt hil]
      refine Ev.pos (by omega) ?_
      exact Ev.now _
    by_cases c2 : 57 < s[i].toNat
    · refine ⟨-1, ?_, Or.inl rfl⟩
      refine Ev.succ ?_; simp only [spec_l01Number.l0]
      refine Ev.pos (by rw [bs_size]; omega) ?_
      refine Ev.pos (by omega) ?_
      rw [bs_bt hil]
      refine Ev.neg (by omega) ?_
      refine Ev.pos (by omega) ?_
      exact Ev.now _
    obtain ⟨v, h3, h4⟩ := ih (i + 1) (x * 10 + (s[i].toNat - 48)) (by omega) (by omega) (by omega) (by omega) hl (by rw [Nat.pow_succ]; omega)
    refine ⟨v, ?_, h4⟩
    refine Ev.succ ?_; simp only [spec_l01Number.l0]
    refine Ev.pos (by rw [bs_size]; omega) ?_
    refine Ev.pos (by omega) ?_
    rw [bs_bt hil]
    refine Ev.neg (by omega) ?_
    refine Ev.neg (by omega) ?_
    have e : wrap64 (wrap64 ((x : Int) * 10) + ((s[i].toNat : Int) - 48) % 256) = ((x * 10 + (s[i].toNat - 48) : Nat) : Int) := by
      rw [wrap_id (x := (x : Int) * 10) (by omega) (by omega), wrap_id (by omega) (by omega)]
      omega
    rw [e, wrap_succ (by omega)]
    exact h3

theorem specNumber_one (b : UInt8) : Ev (fun k => spec_l01Number.f k (bs [b])) (if 48 ≤ b.toNat ∧ b.toNat ≤ 57 then (b.toNat : Int) - 48 else -1) := by
  have e0 : bt (bs [b]) 0 = (b.toNat : Int) := bs_bt (l := [b]) (i := 0) (by simp)
  unfold spec_l01Number.f
  refine Ev.neg (by rw [bs_size]; simp) ?_
  refine Ev.neg (by rw [bs_size]; simp) ?_
  refine Ev.neg (by rw [bs_size]; simp) ?_
  refine Ev.succ ?_; simp only [spec_l01Number.j0]
  refine Ev.neg (by decide) ?_
  refine Ev.succ ?_; simp only [spec_l01Number.l0]
  refine Ev.pos (by rw [bs_size]; simp) ?_
  refine Ev.pos (by omega) ?_
  rw [e0]
  by_cases c1 : b.toNat < 48
  · refine Ev.pos (by omega) ?_
    rw [if_neg (by omega)]
    exact Ev.now _
  by_cases c2 : 57 < b.toNat
  · refine Ev.neg (by omega) ?_
    refine Ev.pos (by omega) ?_
    rw [if_neg (by omega)]
    exact Ev.now _
  refine Ev.neg (by omega) ?_
  refine Ev.neg (by omega) ?_
  refine Ev.succ ?_; simp only [spec_l01Number.l0]
  refine Ev.neg (by rw [bs_size, wrap_id (by omega) (by omega)]; simp) ?_
  rw [if_pos (by omega)]
  refine Ev.eq (congrArg some ?_)
  rw [wrap_id (x := (0 : Int) * 10) (by omega) (by omega), wrap_id (by omega) (by omega)]
  omega

theorem specNumber_dg {a : Int} (h0 : 0 ≤ a) (h1 : a < 10) : Ev (fun k => spec_l01Number.f k (bs [dg a])) a := by
  have h := specNumber_one (dg a)
  have := dg_toNat h0 h1
  rw [if_pos (by omega)] at h
  refine Ev.conv h (by omega)

theorem specNumber (s : List UInt8) : ∃ v : Int, Ev (fun k => spec_l01Number.f k (bs s)) v ∧ (0 ≤ v → v < 10 → s = [dg v]) := by
  have fail : ∀ k, spec_l01Number.j0 (k + 1) (bs s) true = some (-1) := fun k => by simp [spec_l01Number.j0]
  by_cases c0 : s.length = 0
  · refine ⟨-1, ?_, by omega⟩
    unfold spec_l01Number.f
    refine Ev.pos (by rw [bs_size]; omega) ?_
    exact Ev.succ ⟨0, fun k _ => fail k⟩
  by_cases c9 : 9 < s.length
  · refine ⟨-1, ?_, by omega⟩
    unfold spec_l01Number.f
    refine Ev.neg (by rw [bs_size]; omega) ?_
    refine Ev.pos (by rw [bs_size]; omega) ?_
    exact Ev.succ ⟨0, fun k _ => fail k⟩
  by_cases c1 : s.length = 1
  · match s, c1 with
    | [b], _ =>
      refine ⟨_, specNumber_one b, fun h0 h1 => ?_⟩
      by_cases c : 48 ≤ b.toNat ∧ b.toNat ≤ 57
      · rw [if_pos c, dg_of c.1]
      · rw [if_neg c] at h0
        omega
  have h0 : 0 < s.length := by omega
  have e0 : bt (bs s) 0 = (s[0].toNat : Int) := bs_bt h0
  by_cases c2 : s[0].toNat = 48
  · refine ⟨-1, ?_, by omega⟩
    unfold spec_l01Number.f
    refine Ev.neg (by rw [bs_size]; omega) ?_
    refine Ev.neg (by rw [bs_size]; omega) ?_
    refine Ev.pos (by rw [bs_size]; omega) ?_
    refine Ev.pos (by rw [bs_size]; omega) ?_
    rw [e0, c2]
    exact Ev.succ ⟨0, fun k _ => fail k⟩
  have e1 : (((s[0].toNat : Nat) : Int) == 48) = false := by
    apply beq_eq_false_iff_ne.2
    omega
  by_cases c3 : s[0].toNat < 48 ∨ 57 < s[0].toNat
  · refine ⟨-1, ?_, by omega⟩
    unfold spec_l01Number.f
    refine Ev.neg (by rw [bs_size]; omega) ?_
    refine Ev.neg (by rw [bs_size]; omega) ?_
    refine Ev.pos (by rw [bs_size]; omega) ?_
    refine Ev.pos (by rw [bs_size]; omega) ?_
    rw [e0, e1]
    refine Ev.succ ?_; simp only [spec_l01Number.j0]
    refine Ev.neg (by decide) ?_
    refine Ev.succ ?_; simp only [spec_l01Number.l0]
    refine Ev.pos (by rw [bs_size]; omega) ?_
    refine Ev.pos (by omega) ?_
    rw [e0]
    by_cases c4 : s[0].toNat < 48
    · refine Ev.pos (by omega) ?_
      exact Ev.now _
    · refine Ev.neg (by omega) ?_
      refine Ev.pos (by omega) ?_
      exact Ev.now _
  · obtain ⟨v, h3, h4⟩ := specNumber_loop s (by omega) (s.length - 1) 1 (s[0].toNat - 48) (by omega) (by omega) (by omega) (by omega) (by omega) (by omega)
    refine ⟨v, ?_, by omega⟩
    unfold spec_l01Number.f
    refine Ev.neg (by rw [bs_size]; omega) ?_
    refine Ev.neg (by rw [bs_size]; omega) ?_
    refine Ev.pos (by rw [bs_size]; omega) ?_
    refine Ev.pos (by rw [bs_size]; omega) ?_
    rw [e0, e1]
    refine Ev.succ ?_; simp only [spec_l01Number.j0]
    refine Ev.neg (by decide) ?_
    refine Ev.succ ?_; simp only [spec_l01Number.l0]
    refine Ev.pos (by rw [bs_size]; omega) ?_
    refine Ev.pos (by omega) ?_
    rw [e0]
    refine Ev.neg (by omega) ?_
    refine Ev.neg (by omega) ?_
    have e : wrap64 (wrap64 ((0 : Int) * 10) + ((s[0].toNat : Int) - 48) % 256) = ((s[0].toNat - 48 : Nat) : Int) := by
      rw [wrap_id (x := (0 : Int) * 10) (by omega) (by omega), wrap_id (by omega) (by omega)]
      omega
    rw [e, show wrap64 ((0 : Int) + 1) = ((1 : Nat) : Int) from wrap_id (by omega) (by omega)]
    exact h3
theorem rdOf_map {xs : List (List UInt8)} {i : Nat} (h : i < xs.length) : rdOf ByteArray.empty (xs.map bs) (i : Int) = bs xs[i] := by
  simp [rdOf, List.getD_eq_getElem?_getD, h]

theorem specRead_loop (ps : List (List UInt8)) (hps : ps.length ≤ 1048576) (hpl : ∀ p ∈ ps, p.length ≤ 1048576) (n : Int) : ∀ (d i : Nat) (E : List (List Int)), i + d = ps.length → E.length = i → (∀ r ∈ E, r.length = 2) →
    ∃ r, Ev (fun k => spec_l01Read.l0 k (ps.map bs) (i : Int) n E) r ∧
      ((r = (0, [], false) ∧ ∀ l, isGraph n (E ++ l) = true → ps.drop i ≠ l.map word) ∨
       ∃ l, r = (n, E ++ l, true) ∧ isGraph n (E ++ l) = true ∧ ps.drop i = l.map word) := by
  intro d
  induction d with
  | zero =>
    intro i E hi hE hr
    have hm : Mod E := ⟨by omega, fun r h => by rw [hr r h]; omega⟩
    have e : ps.drop i = [] := List.drop_eq_nil_of_le (by omega)
    by_cases g : isGraph n E = true
    · refine ⟨(n, E, true), ?_, Or.inr ⟨[], by rw [List.append_nil], by rw [List.append_nil]; exact g, e⟩⟩
      refine Ev.succ ?_; simp only [spec_l01Read.l0]
      refine Ev.neg (by rw [List.length_map]; omega) ?_
      refine Ev.bind (specIs n E hm) ?_
      rw [g]
      repeat (first | with_reducible exact Ev.now _ | dsimp only | refine Ev.pos_ ?_ | refine Ev.neg_ ?_ | simp only [bne_self_eq_false, Bool.not_true, Bool.not_false, List.length_cons, List.length_nil] | rw [wrap_id (by omega) (by omega)] | ((with_reducible refine Ev.eq (congrArg some ?_)); rfl))
    · refine ⟨(0, [], false), ?_, Or.inl ⟨rfl, fun l hg hl => ?_⟩⟩
      · refine Ev.succ ?_; simp only [spec_l01Read.l0]
        refine Ev.neg (by rw [List.length_map]; omega) ?_
        refine Ev.bind (specIs n E hm) ?_
        rw [Bool.eq_false_iff.2 g]
        repeat (first | with_reducible exact Ev.now _ | dsimp only | refine Ev.pos_ ?_ | refine Ev.neg_ ?_ | simp only [bne_self_eq_false, Bool.not_true, Bool.not_false, List.length_cons, List.length_nil] | rw [wrap_id (by omega) (by omega)] | ((with_reducible refine Ev.eq (congrArg some ?_)); rfl))
      · rw [e] at hl
        have : l = [] := by simpa using hl.symm
        rw [this, List.append_nil] at hg
        exact g hg
  | succ d ih =>
    intro i E hi hE hr
    have hil : i < ps.length := by omega
    have hp := hpl ps[i] (List.getElem_mem hil)
    have hsp := specSplit ps[i] 45 hp
    have e45 : (((45 : UInt8).toNat : Nat) : Int) = 45 := rfl
    rw [e45] at hsp
    have hd : ps.drop i = ps[i] :: ps.drop (i + 1) := List.drop_eq_getElem_cons hil
    by_cases h2 : (splitL 45 ps[i]).length = 2
    · obtain ⟨u, v, huv⟩ := len_two h2
      obtain ⟨a, ha, ha'⟩ := specNumber u
      obtain ⟨b, hb, hb'⟩ := specNumber v
      obtain ⟨r, h3, h4⟩ := ih (i + 1) (E ++ [[a, b]]) (by omega) (by simp [hE]) (fun r h => by
        rcases List.mem_append.1 h with h | h
        · exact hr r h
        · rw [List.mem_singleton.1 h]; rfl)
      have hj : ps[i] = u ++ 45 :: v := by rw [← joinL_splitL 45 ps[i], huv]; rfl
      refine ⟨r, ?_, ?_⟩
      · refine Ev.succ ?_; simp only [spec_l01Read.l0]
        refine Ev.pos (by rw [List.length_map]; omega) ?_
        refine Ev.pos (by omega) ?_
        rw [rdOf_map hil]
        refine Ev.bind hsp ?_
        rw [huv]
        refine Ev.pos (by simp) ?_
        refine Ev.pos (by simp) ?_
        refine Ev.bind (f := fun k t => _) (show Ev (fun k => spec_l01Number.f k (rdOf ByteArray.empty (List.map bs [u, v]) 0)) a from ha) ?_
        refine Ev.pos (by simp) ?_
        refine Ev.bind (f := fun k t => _) (show Ev (fun k => spec_l01Number.f k (rdOf ByteArray.empty (List.map bs [u, v]) 1)) b from hb) ?_
        refine Ev.pos (by omega) ?_
        rw [wrap_succ (by omega)]
        exact h3
      · rcases h4 with ⟨rfl, h4⟩ | ⟨l, rfl, h5, h6⟩
        · refine Or.inl ⟨rfl, fun l hg hl => ?_⟩
          cases l with
          | nil => rw [hd] at hl; cases hl
          | cons e l =>
            rw [hd, List.map_cons] at hl
            injection hl with hl1 hl2
            have hw := word_split hg (e := e) (by simp)
            rw [← hl1, huv] at hw
            injection hw with hw1 hw2
            injection hw2 with hw2 _
            obtain ⟨x, y, rfl, ex, ey, x0, x1, y0, y1⟩ := graph_ends hg (e := e) (by simp)
            rw [ex] at hw1
            rw [ey] at hw2
            subst hw1 hw2
            have ea := Ev.uniq ha (specNumber_dg x0 (by omega))
            have eb := Ev.uniq hb (specNumber_dg y0 (by omega))
            subst ea eb
            exact h4 l (by rw [List.append_assoc]; exact hg) hl2
        · have hg : isGraph n (E ++ ([a, b] :: l)) = true := by rw [List.append_assoc] at h5; exact h5
          refine Or.inr ⟨[a, b] :: l, by rw [List.append_assoc]; rfl, hg, ?_⟩
          obtain ⟨x, y, e, ex, ey, x0, x1, y0, y1⟩ := graph_ends hg (e := [a, b]) (by simp)
          injection e with e1 e2
          injection e2 with e2 _
          subst e1 e2
          rw [hd, List.map_cons, h6, hj, ha' x0 (by omega), hb' y0 (by omega)]
          rfl
    · refine ⟨(0, [], false), ?_, Or.inl ⟨rfl, fun l hg hl => ?_⟩⟩
      · refine Ev.succ ?_; simp only [spec_l01Read.l0]
        refine Ev.pos (by rw [List.length_map]; omega) ?_
        refine Ev.pos (by omega) ?_
        rw [rdOf_map hil]
        refine Ev.bind hsp ?_
        refine Ev.neg (by rw [List.length_map]; omega) ?_
        exact Ev.now _
      · cases l with
        | nil => rw [hd] at hl; cases hl
        | cons e l =>
          rw [hd, List.map_cons] at hl
          injection hl with hl1 hl2
          have hw := word_split hg (e := e) (by simp)
          rw [← hl1] at hw
          rw [hw] at h2
          exact h2 rfl

theorem count_le_len (c : UInt8) (s : List UInt8) : (splitL c s).length ≤ s.length + 1 := by
  rw [splitL_length]
  have := List.count_le_length (a := c) (l := s)
  omega

theorem mem_splitL {c : UInt8} {s p : List UInt8} (h : p ∈ splitL c s) : p.length ≤ s.length := by
  induction s generalizing p with
  | nil => simp [splitL] at h; simp [h]
  | cons b s ih =>
    by_cases e : b = c
    · subst e
      rw [splitL_eq] at h
      rcases List.mem_cons.1 h with rfl | h
      · simp
      · have := ih h; simp; omega
    · rw [splitL_ne_cons e] at h
      cases hs : splitL c s with
      | nil => exact absurd hs (splitL_ne c s)
      | cons x xs =>
        rw [hs] at h ih
        rcases List.mem_cons.1 h with rfl | h
        · have := ih (List.mem_cons_self)
          simp at this ⊢
          omega
        · have := ih (List.mem_cons_of_mem _ h)
          simp; omega

theorem specRead (s : List UInt8) (hs : s.length ≤ 1048576) : ∃ r, Ev (fun k => spec_l01Read.f k (bs s)) r ∧
    ((r = (0, [], false) ∧ ∀ n l, isGraph n l = true → s ≠ txt n l) ∨ ∃ n l, r = (n, l, true) ∧ isGraph n l = true ∧ s = txt n l) := by
  have hsp := specSplit s 58 hs
  have e58 : (((58 : UInt8).toNat : Nat) : Int) = 58 := rfl
  rw [e58] at hsp
  by_cases h2 : (splitL 58 s).length = 2
  · obtain ⟨u, v, huv⟩ := len_two h2
    have hj : s = u ++ 58 :: v := by rw [← joinL_splitL 58 s, huv]; rfl
    have hv : v.length + 1 ≤ s.length := by rw [hj, List.length_append, List.length_cons]; omega
    obtain ⟨n, hn, hn'⟩ := specNumber u
    have hsv := specSplit v 44 (by omega)
    have e44 : (((44 : UInt8).toNat : Nat) : Int) = 44 := rfl
    rw [e44] at hsv
    have hc := count_le_len 44 v
    obtain ⟨ps, hpe, hps, hpl, hem⟩ : ∃ ps : List (List UInt8), ps = (if v = [] then [] else splitL 44 v) ∧ ps.length ≤ 1048576 ∧ (∀ p ∈ ps, p.length ≤ 1048576) ∧ joinL 44 ps = v := by
      refine ⟨_, rfl, ?_, ?_, ?_⟩
      · split
        · simp
        · omega
      · intro p hp
        split at hp
        · cases hp
        · have := mem_splitL hp; omega
      · split
        · next h => rw [h]; rfl
        · exact joinL_splitL 44 v
    obtain ⟨r, h3, h4⟩ := specRead_loop ps hps hpl n ps.length 0 [] (by omega) rfl (by simp)
    refine ⟨r, ?_, ?_⟩
    · unfold spec_l01Read.f
      refine Ev.bind hsp ?_
      rw [huv]
      refine Ev.pos (by simp) ?_
      refine Ev.pos (by simp) ?_
      refine Ev.bind (f := fun k t => _) (show Ev (fun k => spec_l01Number.f k (rdOf ByteArray.empty (List.map bs [u, v]) 0)) n from hn) ?_
      refine Ev.bind (Ev.now _) ?_
      refine Ev.pos (by simp) ?_
      refine Ev.bind (f := fun k t => _) (show Ev (fun k => spec_l01Split.f k (rdOf ByteArray.empty (List.map bs [u, v]) 1) 44) _ from hsv) ?_
      have ev : (rdOf ByteArray.empty (List.map bs [u, v]) 1).toList = v := bs_toList v
      rw [ev]
      by_cases hv0 : v = []
      · refine Ev.pos hv0 ?_
        rw [if_pos hv0] at hpe
        refine Ev.succ ?_; simp only [spec_l01Read.j0]
        rw [hpe] at h3
        exact h3
      · refine Ev.neg hv0 ?_
        rw [if_neg hv0] at hpe
        refine Ev.succ ?_; simp only [spec_l01Read.j0]
        rw [hpe] at h3
        exact h3
    · rw [List.drop_zero] at h4
      rcases h4 with ⟨rfl, h4⟩ | ⟨l, rfl, h5, h6⟩
      · refine Or.inl ⟨rfl, fun n' l hg hs' => ?_⟩
        have hts := txt_split hg
        rw [← hs', huv] at hts
        injection hts with t1 t2
        injection t2 with t2 _
        subst t1
        obtain ⟨g1, g2, g3⟩ := graph_small hg
        have en := Ev.uniq hn (specNumber_dg (a := n') (by omega) (by omega))
        subst en
        refine h4 l hg ?_
        rw [hpe]
        cases l with
        | nil =>
          rw [if_pos (by rw [t2]; rfl)]
          rfl
        | cons e l =>
          rw [if_neg, t2, words_split hg (by simp)]
          rw [t2]
          cases l <;> simp [joinL, word]
      · rw [List.nil_append] at h5
        refine Or.inr ⟨n, l, rfl, h5, ?_⟩
        obtain ⟨g1, g2, g3⟩ := graph_small h5
        rw [hj, hn' (by omega) (by omega), ← hem, h6]
        rfl
  · refine ⟨(0, [], false), ?_, Or.inl ⟨rfl, fun n l hg hs' => ?_⟩⟩
    · unfold spec_l01Read.f
      refine Ev.bind hsp ?_
      refine Ev.neg (by rw [List.length_map]; omega) ?_
      exact Ev.now _
    · rw [hs', txt_split hg] at h2
      exact h2 rfl
/-- At most so many edges, each of at most two numbers. -/
def Ge (a : Nat) (l : List (List Int)) : Prop := l.length ≤ a ∧ ∀ r ∈ l, r.length ≤ 2
def Gd (l : List (List Int)) : Prop := l.length ≤ 11 ∧ ∀ r ∈ l, r.length ≤ 3

theorem Ge.nil (a : Nat) : Ge a [] := ⟨Nat.zero_le _, fun r h => absurd h (by simp)⟩

theorem Ge.snoc {a : Nat} {l : List (List Int)} (h : Ge a l) (hl : l.length < a) (x y : Int) : Ge a (l ++ [[x, y]]) := by
  refine ⟨by simp; omega, fun r hr => ?_⟩
  rcases List.mem_append.1 hr with hr | hr
  · exact h.2 r hr
  · rw [List.mem_singleton.1 hr]; exact Nat.le_refl _

theorem Ge.gd {l : List (List Int)} (h : Ge 11 l) : Gd l := ⟨h.1, fun r hr => by have := h.2 r hr; omega⟩
theorem Ge.mono {a b : Nat} {l : List (List Int)} (h : Ge a l) (hab : a ≤ b) : Ge b l := ⟨Nat.le_trans h.1 hab, h.2⟩
theorem Gd.mod {l : List (List Int)} (h : Gd l) : Mod l := ⟨by have := h.1; omega, fun r hr => by have := h.2 r hr; omega⟩

theorem copy_loop (n : Int) (l : List (List Int)) (hl : Ge 10 l) : ∀ (d i : Nat), i + d = l.length → Ev (fun k => spec_l01Copy.l0 k (i : Int) n l n (l.take i)) (n, l) := by
  have h10 := hl.1
  intro d
  induction d with
  | zero =>
    intro i hi
    refine Ev.succ ?_; simp only [spec_l01Copy.l0]
    refine Ev.neg (by omega) ?_
    rw [List.take_of_length_le (by omega)]
    exact Ev.now _
  | succ d ih =>
    intro i hi
    refine Ev.succ ?_; simp only [spec_l01Copy.l0]
    have hr : (rd_L2 l (i : Int)).length ≤ 2 := by
      rw [rl_lt (by omega)]
      exact hl.2 _ (List.getElem_mem _)
    refine Ev.pos (by omega) (Ev.pos (by omega) (Ev.bind (Ev.eq (own_eq _ (by omega))) (Ev.pos (by simp; omega) ?_)))
    rw [wrap_succ (by omega)]
    have := ih (i + 1) (by omega)
    rw [List.take_succ_eq_append_getElem (by omega), ← rl_lt (by omega)] at this
    exact this

theorem copy_eq (n : Int) (l : List (List Int)) (hl : Ge 10 l) : Ev (fun k => spec_l01Copy.f k n l) (n, l) := copy_loop n l hl l.length 0 (by omega)

section
variable {c : List Int} (hc : Code c)
include hc

omit hc in
theorem bad_loop (n : Int) : ∀ (d : Nat) (l : List (List Int)) (a h : Int), 0 ≤ a → l.length + d = 11 → Ge 11 l → Dr (fun k => spec_l01Bad.l0 k c a h n l) (fun r => Gd r.2.1 ∧ 0 ≤ r.2.2.1) := by
  intro d
  induction d with
  | zero =>
    intro l a h ha hl hg
    refine Dr.succ ?_
    simp only [spec_l01Bad.l0]
    exact Dr.neg (by omega) (Dr.now ⟨hg.gd, ha⟩)
  | succ d ih =>
    intro l a h ha hl hg
    refine Dr.succ ?_
    simp only [spec_l01Bad.l0]
    refine Dr.pos (by omega) (Dr.pos (by omega) ?_)
    exact ih _ a h ha (by simp; omega) (hg.snoc (by omega) 0 0)

theorem bad_ex {a : Int} (ha : 0 ≤ a) (h n : Int) (l : List (List Int)) (hl : Ge 10 l) : Dr (fun k => spec_l01Bad.f k c a h n l) (fun r => Gd r.2.1 ∧ 0 ≤ r.2.2.1) := by
  unfold spec_l01Bad.f
  have h10 := hl.1
  have gd := (hl.mono (show 10 ≤ 11 by omega)).gd
  have hcp : Dr (fun k => spec_l01Copy.f k n l) (fun r => r = (n, l)) := ⟨_, copy_eq n l hl, rfl⟩
  refine Dr.bind (Dr.eq (next_ex hc ha h 40)) (fun r hr => ?_)
  refine Dr.ite (fun _ => ?_) (fun _ => Dr.ite (fun _ => ?_) (fun _ => Dr.ite (fun _ => ?_) (fun _ => Dr.ite (fun _ => ?_) (fun _ => ?_))))
  · exact Dr.bind (Dr.eq (pick_ex hc hr.1 _ _ (by simp))) (fun p hp => Dr.now ⟨gd, hp.1⟩)
  · refine Dr.bind hcp (fun q hq => ?_)
    subst hq
    exact Dr.pos (by simp only; omega) (Dr.now ⟨((hl.mono (show 10 ≤ 11 by omega)).snoc (by omega) 0 n).gd, hr.1⟩)
  · refine Dr.bind hcp (fun q hq => ?_)
    subst hq
    refine Dr.ite (fun h0 => ?_) (fun _ => Dr.now ⟨gd, hr.1⟩)
    simp only at h0
    refine Dr.bind (Dr.eq (next_ex hc hr.1 _ _)) (fun p hp => ?_)
    have h1 := hp.2.2.1 (by simp only; omega)
    simp only at h1
    obtain ⟨i, hi⟩ := Int.eq_ofNat_of_zero_le hp.2.1
    have hrow : (rd_L2 l p.1).length ≤ 2 := by
      rw [hi, rl_lt (by omega)]
      exact hl.2 _ (List.getElem_mem _)
    refine Dr.pos hp.2.1 (Dr.pos h1 (Dr.pos (by simp only; omega) (Dr.now ⟨⟨by simp only [List.length_set]; omega, fun r hr => ?_⟩, hp.1⟩)))
    rcases List.mem_or_eq_of_mem_set hr with h | h
    · have := hl.2 r h; omega
    · rw [h]; simp; omega
  · refine Dr.bind hcp (fun q hq => ?_)
    subst hq
    exact bad_loop n (11 - l.length) l _ _ hr.1 (by omega) (hl.mono (by omega))
  · exact Dr.now ⟨gd, hr.1⟩

theorem of_edges (n z : Int) (hz : 1 ≤ z) (m : Nat) (hm : m ≤ 10) : ∀ (d : Nat) (l : List (List Int)) (a h : Int), 0 ≤ a → d ≤ 100 → Ge m l → Dr (fun k => spec_l01DrawOf.l1 k z (m : Int) (d : Int) c a h n l) (fun r => Ge 10 r.2.1 ∧ 0 ≤ r.2.2.1) := by
  intro d
  induction d with
  | zero =>
    intro l a h ha hd hl
    refine Dr.succ ?_
    simp only [spec_l01DrawOf.l1]
    refine Dr.neg (by omega) (Dr.succ ?_)
    simp only [spec_l01DrawOf.j3]
    exact Dr.neg (by decide) (Dr.now ⟨hl.mono hm, ha⟩)
  | succ d ih =>
    intro l a h ha hd hl
    refine Dr.succ ?_
    simp only [spec_l01DrawOf.l1]
    refine Dr.pos (by omega) (Dr.succ ?_)
    simp only [spec_l01DrawOf.j3]
    have hlm := hl.1
    refine Dr.ite (fun hx => ?_) (fun _ => Dr.now ⟨hl.mono hm, ha⟩)
    have hlt : l.length < m := by have := of_decide_eq_true hx; omega
    have e : wrap64 (((d + 1 : Nat) : Int) - 1) = (d : Int) := by rw [wrap_id (by omega) (by omega)]; omega
    rw [e]
    refine Dr.bind (Dr.eq (next_ex hc ha _ _)) (fun p hp => Dr.bind (Dr.eq (next_ex hc hp.1 _ _)) (fun q hq => ?_))
    refine Dr.ite (fun _ => ?_) (fun _ => Dr.pos (by omega) (ih _ _ _ hq.1 (by omega) (hl.snoc hlt _ _)))
    refine Dr.bind (Dr.eq (next_ex hc hq.1 _ _)) (fun s hs => ?_)
    refine Dr.ite (fun _ => Dr.neg (by omega) (Dr.pos (by omega) (ih _ _ _ hs.1 (by omega) (hl.snoc hlt _ _)))) (fun _ => Dr.pos (by omega) (ih _ _ _ hs.1 (by omega) (hl.snoc hlt _ _)))

theorem of_end (n z : Int) (hz : 1 ≤ z) (m : Nat) (hm : m ≤ 10) (b : Bool) (v : Int) (l : List (List Int)) {a : Int} (ha : 0 ≤ a) (h : Int) (hl : Ge m l) : Dr (fun k => spec_l01DrawOf.j1 k z (m : Int) b v false c a h n l) (fun r => Ge 10 r.2.1 ∧ 0 ≤ r.2.2.1) := by
  refine Dr.succ ?_
  simp only [spec_l01DrawOf.j1]
  refine Dr.neg (by decide) (Dr.bind (Dr.eq (next_ex hc ha _ _)) (fun r hr => ?_))
  rw [wrap_id (x := (m : Int) + 1) (by omega) (by omega)] at hr
  have h2 := hr.2.2.1 (by omega)
  obtain ⟨d, hd⟩ := Int.eq_ofNat_of_zero_le hr.2.1
  rw [hd]
  exact of_edges hc n z hz m hm d l _ _ hr.1 (by omega) hl

theorem of_join (n z : Int) (hz : 1 ≤ z) (hz8 : z ≤ 8) (m : Nat) (hm : m ≤ 10) (b : Bool) : ∀ (d v : Nat) (l : List (List Int)) (a h : Int), 0 ≤ a → z ≤ v + d → v ≤ 100 → Ge m l → Dr (fun k => spec_l01DrawOf.l0 k z (m : Int) b (v : Int) c a h n l) (fun r => Ge 10 r.2.1 ∧ 0 ≤ r.2.2.1) := by
  intro d
  induction d with
  | zero =>
    intro v l a h ha hv hv1 hl
    refine Dr.succ ?_
    simp only [spec_l01DrawOf.l0]
    exact Dr.neg (by omega) (of_end hc n z hz m hm b v l ha h hl)
  | succ d ih =>
    intro v l a h ha hv hv1 hl
    have hlm := hl.1
    refine Dr.succ ?_
    simp only [spec_l01DrawOf.l0]
    refine Dr.ite (fun hvz => ?_) (fun _ => of_end hc n z hz m hm b v l ha h hl)
    refine Dr.ite (fun _ => ?_) (fun _ => of_end hc n z hz m hm b v l ha h hl)
    by_cases hlt : (l.length : Int) < m
    · rw [decide_eq_true hlt]
      refine Dr.succ ?_
      simp only [spec_l01DrawOf.j1]
      rw [wrap_succ (i := v) (by omega)]
      refine Dr.pos (by first | exact trivial | rfl) (Dr.bind (Dr.eq (next_ex hc ha _ _)) (fun p hp => Dr.bind (Dr.eq (next_ex hc hp.1 _ _)) (fun q hq => ?_)))
      refine Dr.ite (fun _ => Dr.pos (by omega) (ih (v + 1) _ _ _ hq.1 (by omega) (by omega) (hl.snoc (by omega) _ _))) (fun _ => Dr.pos (by omega) (ih (v + 1) _ _ _ hq.1 (by omega) (by omega) (hl.snoc (by omega) _ _)))
    · rw [decide_eq_false hlt]
      exact of_end hc n z hz m hm b v l ha h hl

theorem drawOf_ex {a : Int} (ha : 0 ≤ a) (h z : Int) (hz : 1 ≤ z) (hz8 : z ≤ 8) (m : Int) (hm0 : 0 ≤ m) (hm : m ≤ 10) : Dr (fun k => spec_l01DrawOf.f k c a h z m) (fun r => Ge 10 r.2.1 ∧ 0 ≤ r.2.2.1) := by
  unfold spec_l01DrawOf.f
  obtain ⟨m', rfl⟩ := Int.eq_ofNat_of_zero_le hm0
  exact Dr.bind (Dr.eq (next_ex hc ha _ _)) (fun r hr => of_join hc z z hz hz8 m' (by omega) _ 8 1 [] _ _ hr.1 (by omega) (by omega) (Ge.nil _))

omit hc in
theorem ite_ex {p : Prop} [Decidable p] {x y : Option ByteArray} (h1 : ∃ t : ByteArray, x = some t ∧ t.size ≤ 100) (h2 : ∃ t : ByteArray, y = some t ∧ t.size ≤ 100) : ∃ t : ByteArray, (if p then x else y) = some t ∧ t.size ≤ 100 := by
  by_cases h : p
  · rw [if_pos h]; exact h1
  · rw [if_neg h]; exact h2

omit hc in
theorem known_ex (a : ByteArray) : ∃ t : ByteArray, spec_l01Known.f a = some t ∧ t.size ≤ 100 := by
  unfold spec_l01Known.f
  repeat' with_reducible refine ite_ex ?_ ?_
  all_goals exact ⟨_, rfl, by decide⟩

omit hc in
theorem named_ex (a : ByteArray) : Dr (fun k => spec_l01Named.f k a) (fun r => Ge 10 r.2.1) := by
  unfold spec_l01Named.f
  obtain ⟨t, ht, hs⟩ := known_ex a
  obtain ⟨s, rfl⟩ := bs_ex t
  rw [bs_size] at hs
  refine Dr.bind (Dr.eq ⟨_, ht, rfl⟩) (fun x hx => ?_)
  rw [← hx]
  obtain ⟨r, he, hr⟩ := specRead s (by omega)
  refine Dr.bind (P := fun x => x = r) ⟨r, he, rfl⟩ (fun x hx => ?_)
  subst hx
  refine Dr.now ?_
  rcases hr with ⟨rfl, _⟩ | ⟨n, l, rfl, hg, _⟩
  · exact Ge.nil _
  · obtain ⟨_, _, h3, h4⟩ := (isGraph_iff n l).1 hg
    refine ⟨h3, fun r hr => ?_⟩
    obtain ⟨x, y, rfl, _⟩ := h4 r hr
    exact Nat.le_refl _

theorem draw_ex {a : Int} (ha : 0 ≤ a) (h : Int) : Dr (fun k => spec_l01Draw.f k c a h) (fun r => Ge 10 r.2.1 ∧ 0 ≤ r.2.2.1) := by
  unfold spec_l01Draw.f
  refine Dr.bind (Dr.eq (next_ex hc ha _ _)) (fun r hr => Dr.ite (fun _ => ?_) (fun _ => ?_))
  · refine Dr.bind (Dr.eq ⟨_, rfl, rfl⟩) (fun x hx => ?_)
    have hx14 : x.length = 14 := by rw [← hx]; rfl
    refine Dr.bind (Dr.eq (next_ex hc hr.1 _ _)) (fun p hp => ?_)
    have h1 := hp.2.2.1 (by omega)
    exact Dr.pos hp.2.1 (Dr.pos h1 (Dr.bind (named_ex _) (fun q hq => Dr.now ⟨hq, hp.1⟩)))
  · refine Dr.bind (Dr.eq (next_ex hc hr.1 _ _)) (fun p hp => ?_)
    have hp8 := hp.2.2.1 (by omega)
    have hp0 := hp.2.1
    have e : wrap64 (1 + p.1) = 1 + p.1 := wrap_id (by omega) (by omega)
    rw [e]
    refine Dr.bind (Dr.eq (pick_ex hc hp.1 _ _ (by simp))) (fun z hz => ?_)
    have hz1 : 1 ≤ z.1 ∧ z.1 ≤ 8 := by
      have := hz.2
      simp only [List.mem_cons, List.not_mem_nil, or_false] at this
      omega
    refine Dr.bind (Dr.eq (pick_ex hc hz.1 _ _ (by decide))) (fun m hm => ?_)
    have hm1 : 0 ≤ m.1 ∧ m.1 ≤ 10 := by
      have : ∀ y ∈ ([2, 4, 6, 6, 8, 10] : List Int), 0 ≤ y ∧ y ≤ 10 := by decide
      exact this _ hm.2
    exact Dr.bind (drawOf_ex hc hm.1 _ _ hz1.1 hz1.2 _ hm1.1 hm1.2) (fun q hq => Dr.now hq)

theorem spoil_ex {a : Int} (ha : 0 ≤ a) (h : Int) : Dr (fun k => spec_l01Spoil.f k c a h) (fun r => Gd r.2.1 ∧ 0 ≤ r.2.2.1) := by
  unfold spec_l01Spoil.f
  exact Dr.bind (draw_ex hc ha h) (fun r hr => Dr.bind (bad_ex hc hr.2 _ _ _ hr.1) (fun q hq => Dr.now hq))

end
section
variable {c : List Int} (hc : Code c)
include hc

theorem small_ex {a : Int} (ha : 0 ≤ a) (h : Int) : Dr (fun k => spec_l04Small.f k c a h) (fun r => Gd r.2.1 ∧ 0 ≤ r.2.2.1) := by
  unfold spec_l04Small.f
  refine Dr.bind (Dr.eq (next_ex hc ha _ _)) (fun r hr => Dr.ite (fun _ => ?_) (fun _ => ?_))
  · exact Dr.bind (spoil_ex hc hr.1 _) (fun q hq => Dr.now hq)
  · refine Dr.bind (Dr.eq (next_ex hc hr.1 _ _)) (fun p hp => Dr.bind (Dr.eq (next_ex hc hp.1 _ _)) (fun q hq => ?_))
    have h1 := hp.2.2.1 (by omega)
    have h2 := hq.2.2.1 (by omega)
    have h3 := hp.2.1
    have h4 := hq.2.1
    rw [wrap_id (x := 1 + p.1) (by omega) (by omega), wrap_id (x := 1 + q.1) (by omega) (by omega)]
    exact Dr.bind (drawOf_ex hc hq.1 _ _ (by omega) (by omega) _ (by omega) (by omega)) (fun s hs => Dr.now ⟨(hs.1.mono (by omega)).gd, hs.2⟩)

theorem turn_loop (n : Nat) (hn : n ≤ 100) : ∀ (d i : Nat) (x : List Int) (a h : Int), i + d = n → x.length = i → 0 ≤ a → Dr (fun k => spec_l04Turn.l0 k (n : Int) x (i : Int) c a h) (fun r => r.1.length ≤ 100 ∧ 0 ≤ r.2.1) := by
  intro d
  induction d with
  | zero =>
    intro i x a h hi hx ha
    refine Dr.succ ?_
    simp only [spec_l04Turn.l0]
    exact Dr.neg (by omega) (Dr.now ⟨by simp only; omega, ha⟩)
  | succ d ih =>
    intro i x a h hi hx ha
    refine Dr.succ ?_
    simp only [spec_l04Turn.l0]
    rw [wrap_succ (i := i) (by omega)]
    refine Dr.pos (by omega) (Dr.bind (Dr.eq (next_ex hc ha _ _)) (fun p hp => ?_))
    have h1 := hp.2.2.1 (by omega)
    obtain ⟨q, hq⟩ := Int.eq_ofNat_of_zero_le hp.2.1
    refine Dr.bind (Dr.eq ⟨_, rfl, rfl⟩) (fun y hy => ?_)
    have hy1 : y.length = 1 := by rw [← hy]; rfl
    refine Dr.pos hp.2.1 (Dr.pos (by omega) (Dr.bind (Dr.eq ⟨_, rfl, rfl⟩) (fun z hz => ?_)))
    have hz1 : z.length = i - q := by rw [← hz, hq]; simp; omega
    refine Dr.pos (by omega) (Dr.bind (Dr.eq ⟨_, rfl, rfl⟩) (fun s hs => ?_))
    have hs1 : s.length = i - q + 1 := by rw [← hs]; simp; omega
    have ho : spec_l01Own.f (x.take (p.1 : Int).toNat) = some (x.take q) := by
      rw [hq]
      exact own_eq _ (by simp; omega)
    refine Dr.bind (Dr.eq ⟨_, ho, rfl⟩) (fun t ht => ?_)
    have ht1 : t.length = q := by rw [← ht]; simp; omega
    exact Dr.pos (by omega) (ih (i + 1) _ _ _ (by omega) (by simp; omega) hp.1)

theorem turn_ex {a : Int} (ha : 0 ≤ a) (h n : Int) (hn : n ≤ 100) : Dr (fun k => spec_l04Turn.f k c a h n) (fun r => r.1.length ≤ 100 ∧ 0 ≤ r.2.1) := by
  unfold spec_l04Turn.f
  by_cases h0 : 0 ≤ n
  · obtain ⟨m, rfl⟩ := Int.eq_ofNat_of_zero_le h0
    exact turn_loop hc m (by omega) m 0 [] a h (by omega) rfl ha
  · refine Dr.succ ?_
    simp only [spec_l04Turn.l0]
    exact Dr.neg (by omega) (Dr.now ⟨by simp, ha⟩)

/-- A drawn cover: of moderate size. -/
def Cd (r : Int × List (List Int) × Int × List (List Int) × Int × Int) : Prop := Gd r.2.1 ∧ r.2.2.2.1.length ≤ 12 ∧ (∀ x ∈ r.2.2.2.1, x.length ≤ 100) ∧ 0 ≤ r.2.2.2.2.1

theorem cover_loop (n : Int) (l : List (List Int)) (hl : Gd l) (s : Int) (hs0 : 0 ≤ s) (hs : s ≤ 4) : ∀ (d i : Nat) (t : List (List Int)) (a h : Int), i + d = l.length → t.length = i → (∀ x ∈ t, x.length ≤ 100) → 0 ≤ a → Dr (fun k => spec_l04Draw.l0 k (i : Int) c a h n l n l s t) Cd := by
  have hll := hl.1
  intro d
  induction d with
  | zero =>
    intro i t a h hi ht hr ha
    refine Dr.succ ?_
    simp only [spec_l04Draw.l0]
    refine Dr.neg (by omega) (Dr.bind (Dr.eq (next_ex hc ha _ _)) (fun p hp => ?_))
    have snoc : ∀ x : List Int, x.length ≤ 100 → ∀ y ∈ t ++ [x], y.length ≤ 100 := fun x hx y hy => by
      rcases List.mem_append.1 hy with hy | hy
      · exact hr y hy
      · rw [List.mem_singleton.1 hy]; exact hx
    refine Dr.ite (fun _ => ?_) (fun _ => Dr.ite (fun _ => ?_) (fun _ => Dr.ite (fun _ => ?_) (fun _ => ?_)))
    · exact Dr.bind (Dr.eq (pick_ex hc hp.1 _ _ (by simp))) (fun q hq => Dr.now ⟨hl, by simp only; omega, hr, hq.1⟩)
    · refine Dr.bind (turn_ex hc hp.1 _ s (by omega)) (fun q hq => Dr.pos (by omega) (Dr.now ⟨hl, by simp; omega, snoc _ hq.1, hq.2⟩))
    · refine Dr.ite (fun h0 => ?_) (fun _ => Dr.now ⟨hl, by simp only; omega, hr, hp.1⟩)
      refine Dr.pos hs0 (Dr.pos (by omega) (Dr.pos (by omega) (Dr.now ⟨hl, by simp only [List.length_set]; omega, fun y hy => ?_, hp.1⟩)))
      rcases List.mem_or_eq_of_mem_set hy with hy | hy
      · exact hr y hy
      · rw [hy, List.length_replicate]; omega
    · exact Dr.now ⟨hl, by simp only; omega, hr, hp.1⟩
  | succ d ih =>
    intro i t a h hi ht hr ha
    refine Dr.succ ?_
    simp only [spec_l04Draw.l0]
    refine Dr.pos (by omega) (Dr.bind (turn_ex hc ha _ s (by omega)) (fun q hq => Dr.pos (by omega) ?_))
    rw [wrap_succ (i := i) (by omega)]
    refine ih (i + 1) _ _ _ (by omega) (by simp; omega) (fun y hy => ?_) hq.2
    rcases List.mem_append.1 hy with hy | hy
    · exact hr y hy
    · rw [List.mem_singleton.1 hy]; exact hq.1

theorem cover_ex {a : Int} (ha : 0 ≤ a) (h : Int) : Dr (fun k => spec_l04Draw.f k c a h) Cd := by
  unfold spec_l04Draw.f
  refine Dr.bind (small_ex hc ha h) (fun g hg => Dr.bind (Dr.eq (pick_ex hc hg.2 _ _ (by decide))) (fun p hp => ?_))
  have hs : 0 ≤ p.1 ∧ p.1 ≤ 4 := by
    have : ∀ y ∈ ([1, 2, 2, 2, 3, 3, 4] : List Int), 0 ≤ y ∧ y ≤ 4 := by decide
    exact this _ hp.2
  exact cover_loop hc _ _ hg.1 _ hs.1 hs.2 g.2.1.length 0 [] _ _ (by omega) rfl (fun x hx => absurd hx (by simp)) hp.1

omit hc in
theorem dirs_snoc {l : List (List Int)} {w : List Int} (h : dirs l w = true) {x : Int} (h0 : 0 ≤ x) (h1 : x < 2 * (l.length : Int)) : dirs l (w ++ [x]) = true := by
  unfold dirs at h ⊢
  rw [List.all_append, h, Bool.true_and, List.all_cons, List.all_nil, Bool.and_true]
  exact decide_eq_true (by omega)

section
variable {n : Int} {l : List (List Int)} (hg : isGraph n l = true) (hl0 : 0 < l.length)
include hg hl0

omit hl0 in
theorem walk_end (x : List Int) (m : Int) (d : Nat) (hd : d ≤ 20) (hx : x.length + d ≤ 20) (hdx : dirs l x = true) (o : Int) (ho : 0 ≤ o) (ho2 : o < 2 * (l.length : Int)) {a : Int} (ha : 0 ≤ a) (h : Int) (hm : m = ((d + 1 : Nat) : Int))
    (next : ∀ (y : List Int) (a h : Int), 0 ≤ a → y.length + d ≤ 21 → dirs l y = true → Dr (fun k => spec_l02Walk.l0 k y (2 * (l.length : Int)) (d : Int) c a h n l) (fun r => r.1.length ≤ 30)) : Dr (fun k => spec_l02Walk.j3 k x (2 * (l.length : Int)) m o c a h n l) (fun r => r.1.length ≤ 30) := by
  refine Dr.succ ?_
  simp only [spec_l02Walk.j3]
  refine Dr.pos (by omega) (Dr.bind (Dr.eq ⟨_, rfl, rfl⟩) (fun y hy => ?_))
  have hy1 : y.length = x.length + 1 := by rw [← hy]; simp
  have hyd : dirs l y = true := by rw [← hy]; exact dirs_snoc hdx ho ho2
  have e : wrap64 (m - 1) = (d : Int) := by rw [hm, wrap_id (by omega) (by omega)]; omega
  rw [e]
  have hcl : Dr (fun k => spec_l02Closed.f k n l y) (fun _ => True) := by
    unfold spec_l02Closed.f
    exact ⟨_, specClosed_loop hg hyd (by omega) y.length 0 (by omega), trivial⟩
  refine Dr.bind hcl (fun t _ => Dr.ite (fun _ => ?_) (fun _ => next y _ _ ha (by omega) hyd))
  refine Dr.bind (Dr.eq (next_ex hc ha _ _)) (fun p hp => Dr.ite (fun _ => ?_) (fun _ => next y _ _ hp.1 (by omega) hyd))
  refine Dr.bind (Dr.eq (next_ex hc hp.1 _ _)) (fun q hq => Dr.ite (fun _ => Dr.pos (by omega) (Dr.now (by simp; omega))) (fun _ => Dr.now (by simp only; omega)))

theorem walk_seek (x : List Int) (m : Int) (d : Nat) (hd : d ≤ 20) (hx : x.length + d ≤ 20) (hdx : dirs l x = true) (o : Int) (ho : 0 ≤ o) (ho2 : o < 2 * (l.length : Int)) (z : Int) (hm : m = ((d + 1 : Nat) : Int))
    (next : ∀ (y : List Int) (a h : Int), 0 ≤ a → y.length + d ≤ 21 → dirs l y = true → Dr (fun k => spec_l02Walk.l0 k y (2 * (l.length : Int)) (d : Int) c a h n l) (fun r => r.1.length ≤ 30)) : ∀ (e i : Nat) (a h : Int), i + e = 2 * l.length → 0 ≤ a → Dr (fun k => spec_l02Walk.l1 k x (2 * (l.length : Int)) m o z (i : Int) c a h n l) (fun r => r.1.length ≤ 30) := by
  obtain ⟨g1, g2, g3⟩ := graph_small hg
  intro e
  induction e with
  | zero =>
    intro i a h hi ha
    refine Dr.succ ?_
    simp only [spec_l02Walk.l1]
    exact Dr.neg (by omega) (walk_end hc hg x m d hd hx hdx o ho ho2 ha h hm next)
  | succ e ih =>
    intro i a h hi ha
    refine Dr.succ ?_
    simp only [spec_l02Walk.l1]
    rw [wrap_id (x := o + i) (by omega) (by omega), wrap_succ (i := i) (by omega)]
    have ht := tmod_range (x := o + i) (n := 2 * (l.length : Int)) (by omega) (by omega)
    refine Dr.pos (by omega) (Dr.neg (by omega) ?_)
    generalize Int.tmod (o + i) (2 * (l.length : Int)) = q at ht
    obtain ⟨p, rfl⟩ := Int.eq_ofNat_of_zero_le ht.1
    refine Dr.bind (Dr.eq ⟨_, specEnds hg (p := p) (by omega), rfl⟩) (fun y hy => ?_)
    exact Dr.ite (fun _ => walk_end hc hg x m d hd hx hdx _ ht.1 ht.2 ha h hm next) (fun _ => ih (i + 1) a h (by omega) ha)

theorem walk_loop : ∀ (d : Nat) (x : List Int) (a h : Int), 0 ≤ a → d ≤ 20 → x.length + d ≤ 21 → dirs l x = true → Dr (fun k => spec_l02Walk.l0 k x (2 * (l.length : Int)) (d : Int) c a h n l) (fun r => r.1.length ≤ 30) := by
  obtain ⟨g1, g2, g3⟩ := graph_small hg
  intro d
  induction d with
  | zero =>
    intro x a h ha hd hx hdx
    refine Dr.succ ?_
    simp only [spec_l02Walk.l0]
    refine Dr.neg (by omega) (Dr.bind (Dr.eq (next_ex hc ha _ _)) (fun q hq => Dr.ite (fun _ => Dr.pos (by omega) (Dr.now (by simp; omega))) (fun _ => Dr.now (by simp only; omega))))
  | succ d ih =>
    intro x a h ha hd hx hdx
    refine Dr.succ ?_
    simp only [spec_l02Walk.l0]
    refine Dr.pos (by omega) (Dr.bind (Dr.eq (next_ex hc ha _ _)) (fun o ho => ?_))
    have ho2 := ho.2.2.1 (by omega)
    have nx : ∀ (y : List Int) (a h : Int), 0 ≤ a → y.length + d ≤ 21 → dirs l y = true → Dr (fun k => spec_l02Walk.l0 k y (2 * (l.length : Int)) (d : Int) c a h n l) (fun r => r.1.length ≤ 30) := fun y a h ha hy hdy => ih y a h ha (by omega) hy hdy
    refine Dr.ite (fun h0 => ?_) (fun _ => walk_end hc hg x _ d (by omega) (by omega) hdx _ ho.2.1 ho2 ho.1 _ rfl nx)
    rw [wrap_id (x := (x.length : Int) - 1) (by omega) (by omega)]
    have e1 : (x.length : Int) - 1 = ((x.length - 1 : Nat) : Int) := by omega
    obtain ⟨e2, r2⟩ := dirs_at hdx (show x.length - 1 < x.length by omega)
    refine Dr.pos (by omega) (Dr.pos (by omega) ?_)
    rw [e1, e2]
    refine Dr.bind (Dr.eq ⟨_, specEnds hg r2, rfl⟩) (fun y hy => ?_)
    exact walk_seek hc hg hl0 x _ d (by omega) (by omega) hdx _ ho.2.1 ho2 _ rfl nx (2 * l.length) 0 _ _ (by omega) ho.1

end

theorem walk_ex {a : Int} (ha : 0 ≤ a) (h n : Int) (l : List (List Int)) (hl : Gd l) : Dr (fun k => spec_l02Walk.f k c a h n l) (fun r => r.1.length ≤ 30) := by
  have hll := hl.1
  unfold spec_l02Walk.f
  have ew : wrap64 (2 * (l.length : Int)) = 2 * (l.length : Int) := wrap_id (by omega) (by omega)
  rw [ew]
  have stop : Dr (fun k => spec_l02Walk.j0 k [] (2 * (l.length : Int)) true c a h n l) (fun r => r.1.length ≤ 30) := by
    refine Dr.succ ?_
    simp only [spec_l02Walk.j0]
    exact Dr.pos (by first | exact trivial | rfl) (Dr.now (by simp))
  refine Dr.bind (P := fun y => y = []) (Dr.eq ⟨_, rfl, rfl⟩) (fun y hy => ?_)
  subst hy
  refine Dr.ite (fun _ => stop) (fun h0 => ?_)
  refine Dr.bind (P := fun b => b = isGraph n l) ⟨_, specIs n l hl.mod, rfl⟩ (fun b hb => ?_)
  subst hb
  cases hg : isGraph n l with
  | false => exact stop
  | true =>
    refine Dr.succ ?_
    simp only [spec_l02Walk.j0]
    refine Dr.neg (by decide) (Dr.bind (Dr.eq (next_ex hc ha _ _)) (fun p hp => ?_))
    have h1 := hp.2.2.1 (by omega)
    have h2 := hp.2.1
    obtain ⟨q, hq⟩ := Int.eq_ofNat_of_zero_le h2
    have e : wrap64 (1 + p.1) = ((q + 1 : Nat) : Int) := by rw [wrap_id (by omega) (by omega)]; omega
    rw [e]
    exact walk_loop hc hg (by omega) (q + 1) [] _ _ hp.1 (by omega) (by simp; omega) rfl

theorem drawCover_ex : Dr (fun k => spec_DrawPermutationOfWalk.f k c) (fun r => Mod r.2.1 ∧ Mod r.2.2.2.1 ∧ r.2.2.2.2.length ≤ 30) := by
  unfold spec_DrawPermutationOfWalk.f
  refine Dr.bind (from_ex c hc) (fun s hs => ?_)
  obtain ⟨s0, s1, s2⟩ := s
  obtain ⟨rfl, hs⟩ := hs
  refine Dr.bind (cover_ex hc hs _) (fun r hr => Dr.bind (walk_ex hc hr.2.2.2 _ _ _ hr.1) (fun q hq => Dr.now ⟨hr.1.mod, ⟨?_, fun x hx => ?_⟩, hq⟩))
  · have := hr.2.1; simp only; omega
  · have := hr.2.2.1 x hx; omega

end
/-- No number twice. -/
def inj (r : List Int) : Bool := decide (∀ i, i < r.length → ∀ j, j < r.length → rd r (i : Int) = rd r (j : Int) → i = j)

theorem perm_inj_all : ∀ q : Fin 5, ∀ r ∈ rowsOf q.val q.val, perm q.val r = true → inj r = true := by decide +kernel

/-- The type of one row. -/
def runsSum (r : List Int) : Bool :=
  match spec_TypeOfWalk.l0 60 r (List.replicate 4 false) [] 0 0 [] (r.length : Int) [] with
  | some a => decide (a.2 = 0 ∧ a.1.length ≤ 4 ∧ (∀ y ∈ a.1, 0 ≤ y ∧ y ≤ 4) ∧ a.1.sum = (r.length : Int))
  | none => false

theorem sum_all : ∀ q : Fin 5, ∀ r ∈ rowsOf q.val q.val, inj r = true → runsSum r = true := by decide +kernel

theorem row_mem (r : List Int) (hr : ∀ i : Nat, i < r.length → 0 ≤ rd r (i : Int) ∧ rd r (i : Int) < (r.length : Int)) : r ∈ rowsOf r.length r.length :=
  rowsOf_mem r.length r.length r rfl (fun y hy => by
    obtain ⟨i, hi, rfl⟩ := List.getElem_of_mem hy
    rw [← rd_lt hi]
    exact hr i hi)

theorem perm_inj {q : Nat} {r : List Int} (h : perm q r = true) (h1 : 1 ≤ q) (h4 : q ≤ 4) {i j : Nat} (hi : i < q) (hj : j < q) (e : rd r (i : Int) = rd r (j : Int)) : i = j := by
  obtain ⟨p1, p2, _⟩ := perm_spec h h1 h4
  subst p1
  have := perm_inj_all ⟨r.length, by omega⟩ r (row_mem r p2) h
  exact of_decide_eq_true this i hi j hj e

theorem ix_rd (r : List Int) (x : Int) : ∀ (d i : Nat), i + d = r.length → (∃ j, i ≤ j ∧ j < r.length ∧ rd r (j : Int) = x) → rd r ((ix r x d i : Nat) : Int) = x := by
  intro d
  induction d with
  | zero => intro i hi ⟨j, h1, h2, _⟩; omega
  | succ d ih =>
    intro i hi ⟨j, h1, h2, h3⟩
    unfold ix
    by_cases c : rd r (i : Int) = x
    · rw [if_pos c]; exact c
    · rw [if_neg c]
      refine ih (i + 1) (by omega) ⟨j, ?_, h2, h3⟩
      rcases Nat.lt_or_eq_of_le h1 with h | h
      · exact h
      · subst h; exact absurd h3 c

section
variable {l : List (List Int)} {q : Nat} {t : List (List Int)} (hq1 : 1 ≤ q) (hq4 : q ≤ 4) (htl : t.length = l.length) (htp : ∀ i : Nat, i < t.length → perm q (rd_L2 t (i : Int)) = true) {w : List Int} (hd : dirs l w = true)
include hq1 hq4 htl htp hd

theorem st_inj (i : Nat) (hi : i < w.length) (x y : Nat) (hx : x < q) (hy : y < q) (e : st t (rd w (i : Int)).toNat (x : Int) = st t (rd w (i : Int)).toNat (y : Int)) : x = y := by
  obtain ⟨e1, r1⟩ := dirs_at hd hi
  have hp := htp ((rd w (i : Int)).toNat / 2) (by omega)
  obtain ⟨p1, p2, p3⟩ := perm_spec hp hq1 hq4
  unfold st at e
  by_cases c : (rd w (i : Int)).toNat % 2 = 0
  · rw [if_pos c, if_pos c] at e
    exact perm_inj hp hq1 hq4 hx hy e
  · rw [if_neg c, if_neg c] at e
    obtain ⟨j, hj, ej⟩ := p3 x hx
    obtain ⟨k, hk, ek⟩ := p3 y hy
    have a1 := ix_rd (rd_L2 t (((rd w (i : Int)).toNat / 2 : Nat) : Int)) (x : Int) _ 0 (Nat.zero_add _) ⟨j, by omega, hj, ej⟩
    have a2 := ix_rd (rd_L2 t (((rd w (i : Int)).toNat / 2 : Nat) : Int)) (y : Int) _ 0 (Nat.zero_add _) ⟨k, by omega, hk, ek⟩
    have e' : ix (rd_L2 t (((rd w (i : Int)).toNat / 2 : Nat) : Int)) (x : Int) (rd_L2 t (((rd w (i : Int)).toNat / 2 : Nat) : Int)).length 0 = ix (rd_L2 t (((rd w (i : Int)).toNat / 2 : Nat) : Int)) (y : Int) (rd_L2 t (((rd w (i : Int)).toNat / 2 : Nat) : Int)).length 0 := by omega
    rw [e'] at a1
    rw [a1] at a2
    omega

theorem stp_inj : ∀ (d i x y : Nat), i + d = w.length → x < q → y < q → stp t w d i (x : Int) = stp t w d i (y : Int) → x = y := by
  intro d
  induction d with
  | zero => intro i x y _ _ _ e; exact Int.ofNat_inj.1 e
  | succ d ih =>
    intro i x y hi hx hy e
    obtain ⟨x', ex, hx'⟩ := st_range hq1 hq4 htl htp hd i (by omega) x hx
    obtain ⟨y', ey, hy'⟩ := st_range hq1 hq4 htl htp hd i (by omega) y hy
    unfold stp at e
    rw [ex, ey] at e
    have := ih (i + 1) x' y' (by omega) hx' hy' e
    subst this
    exact st_inj hq1 hq4 htl htp hd i (by omega) x y hx hy (by rw [ex, ey])

/-- The permutation as a row. -/
theorem turn_row : ((List.range q).map (fun x : Nat => stp t w w.length 0 (x : Int))).length = q ∧ (∀ i : Nat, i < q → 0 ≤ rd ((List.range q).map (fun x : Nat => stp t w w.length 0 (x : Int))) (i : Int) ∧ rd ((List.range q).map (fun x : Nat => stp t w w.length 0 (x : Int))) (i : Int) < (q : Int)) ∧ inj ((List.range q).map (fun x : Nat => stp t w w.length 0 (x : Int))) = true := by
  have hlen : ((List.range q).map (fun x : Nat => stp t w w.length 0 (x : Int))).length = q := by simp
  refine ⟨hlen, fun i hi => ?_, decide_eq_true (fun i hi j hj e => ?_)⟩
  · rw [rd_map_range (fun x : Nat => stp t w w.length 0 (x : Int)) hi]
    obtain ⟨y, hy, hyq⟩ := stp_range hq1 hq4 htl htp hd w.length 0 i (by omega) hi
    rw [hy]
    omega
  · rw [hlen] at hi hj
    rw [rd_map_range (fun x : Nat => stp t w w.length 0 (x : Int)) hi, rd_map_range (fun x : Nat => stp t w w.length 0 (x : Int)) hj] at e
    exact stp_inj hq1 hq4 htl htp hd w.length 0 i j (by omega) hi hj e

end

theorem type_sum (n : Int) (l : List (List Int)) (t : List (List Int)) (r : List Int) (h4 : r.length ≤ 4) (hr : ∀ i : Nat, i < r.length → 0 ≤ rd r (i : Int) ∧ rd r (i : Int) < (r.length : Int)) (hj : inj r = true) : ∃ z : List Int × Int, Ev (fun k => spec_TypeOfWalk.l0 k r (List.replicate 4 false) [] 0 n l (r.length : Int) t) z ∧ z.2 = 0 ∧ z.1.length ≤ 4 ∧ (∀ y ∈ z.1, 0 ≤ y ∧ y ≤ 4) ∧ z.1.sum = (r.length : Int) := by
  have h := sum_all ⟨r.length, by omega⟩ r (row_mem r hr) hj
  unfold runsSum at h
  split at h
  · next a ha =>
    refine ⟨a, ?_, of_decide_eq_true h⟩
    refine Ev.congr (fun k => (spec_tow_free n l (r.length : Int) t k).1 _ _ _ _) ?_
    exact Ev.of_mono (fun k => (spec_TypeOfWalk.mono_l k).1 _ _ _ _ _ _ _ _) 60 ha
  · cases h

theorem sum_snoc_take (l : List Int) (i : Nat) (h : i < l.length) : (l.take (i + 1)).sum = (l.take i).sum + rd l (i : Int) := by
  rw [List.take_succ_eq_append_getElem h, List.sum_append, rd_lt h]
  simp

theorem take_sum (l : List Int) (hl : ∀ y ∈ l, 0 ≤ y ∧ y ≤ 4) : ∀ i, i ≤ l.length → 0 ≤ (l.take i).sum ∧ (l.take i).sum ≤ 4 * i := by
  intro i
  induction i with
  | zero => intro _; simp
  | succ i ih =>
    intro hi
    rw [sum_snoc_take l i (by omega)]
    have h1 := ih (by omega)
    have h2 := hl _ (rd_mem (show i < l.length by omega))
    omega

theorem sum_loop (l : List Int) (h4 : l.length ≤ 4) (hl : ∀ y ∈ l, 0 ≤ y ∧ y ≤ 4) : ∀ (d i : Nat), i + d = l.length → Ev (fun k => laws_sum.l0 k l (l.take i).sum (i : Int)) l.sum := by
  intro d
  induction d with
  | zero =>
    intro i hi
    refine Ev.succ ?_; simp only [laws_sum.l0]
    refine Ev.neg (by omega) ?_
    rw [List.take_of_length_le (by omega)]
    exact Ev.now _
  | succ d ih =>
    intro i hi
    refine Ev.succ ?_; simp only [laws_sum.l0]
    have h1 := take_sum l hl i (by omega)
    have h2 := hl _ (rd_mem (show i < l.length by omega))
    have := ih (i + 1) (by omega)
    rw [sum_snoc_take l i (by omega)] at this
    rw [wrap_id (x := (l.take i).sum + rd l (i : Int)) (by omega) (by omega), wrap_succ (i := i) (by omega)]
    exact Ev.pos (by omega) (Ev.pos (by omega) this)

theorem sum_ev (l : List Int) (h4 : l.length ≤ 4) (hl : ∀ y ∈ l, 0 ≤ y ∧ y ≤ 4) : Ev (fun k => laws_sum.f k l) l.sum := sum_loop l h4 hl l.length 0 (by omega)

/-! ### A walk gone twice -/

theorem rd_app (v w : List Int) (i : Nat) : rd (v ++ w) (i : Int) = if i < v.length then rd v (i : Int) else rd w ((i - v.length : Nat) : Int) := by
  simp only [rd, Int.toNat_natCast, List.getD_eq_getElem?_getD, List.getElem?_append]
  split <;> rfl

theorem stp_first (t : List (List Int)) (w v : List Int) : ∀ (d i : Nat) (x : Int), i + d = w.length → stp t (w ++ v) (d + v.length) i x = stp t (w ++ v) v.length w.length (stp t w d i x) := by
  intro d
  induction d with
  | zero =>
    intro i x hi
    rw [Nat.zero_add, show i = w.length by omega]
    rfl
  | succ d ih =>
    intro i x hi
    rw [show d + 1 + v.length = (d + v.length) + 1 by omega]
    show stp t (w ++ v) (d + v.length) (i + 1) (st t (rd (w ++ v) (i : Int)).toNat x) = stp t (w ++ v) v.length w.length (stp t w d (i + 1) (st t (rd w (i : Int)).toNat x))
    rw [rd_app, if_pos (by omega)]
    exact ih (i + 1) _ (by omega)

theorem stp_second (t : List (List Int)) (w v : List Int) : ∀ (d i : Nat) (x : Int), stp t (w ++ v) d (w.length + i) x = stp t v d i x := by
  intro d
  induction d with
  | zero => intro i x; rfl
  | succ d ih =>
    intro i x
    show stp t (w ++ v) d (w.length + i + 1) (st t (rd (w ++ v) ((w.length + i : Nat) : Int)).toNat x) = stp t v d (i + 1) (st t (rd v (i : Int)).toNat x)
    rw [rd_app, if_neg (by omega), show w.length + i - w.length = i by omega, show w.length + i + 1 = w.length + (i + 1) by omega]
    exact ih (i + 1) _

theorem stp_twice (t : List (List Int)) (w : List Int) (x : Int) : stp t (w ++ w) (w ++ w).length 0 x = stp t w w.length 0 (stp t w w.length 0 x) := by
  rw [List.length_append, stp_first t w w w.length 0 x (by omega)]
  exact stp_second t w w w.length 0 _

theorem cycA_iff (l : List (List Int)) (w : List Int) : ∀ (d i : Nat), cycA l w d i = true ↔ ∀ j, i ≤ j → j < i + d → hd l (rd w (j : Int)).toNat = tl l (rd w (((j + 1) % w.length : Nat) : Int)).toNat := by
  intro d
  induction d with
  | zero => intro i; exact ⟨fun _ j h1 h2 => by omega, fun _ => rfl⟩
  | succ d ih =>
    intro i
    unfold cycA
    rw [Bool.and_eq_true, decide_eq_true_iff, ih (i + 1)]
    constructor
    · intro ⟨h1, h2⟩ j hj hj2
      by_cases e : j = i
      · rw [e]; exact h1
      · exact h2 j (by omega) (by omega)
    · intro h
      exact ⟨h i (Nat.le_refl _) (by omega), fun j h1 h2 => h j (by omega) (by omega)⟩

theorem rd_twice (w : List Int) (i : Nat) (hi : i < 2 * w.length) : rd (w ++ w) (i : Int) = rd w ((i % w.length : Nat) : Int) := by
  rw [rd_app]
  by_cases c : i < w.length
  · rw [if_pos c, Nat.mod_eq_of_lt c]
  · rw [if_neg c, Nat.mod_eq_sub_mod (by omega), Nat.mod_eq_of_lt (by omega)]

theorem cyc_twice (l : List (List Int)) (w : List Int) (h0 : 0 < w.length) (h : cycA l w w.length 0 = true) : cycA l (w ++ w) (w ++ w).length 0 = true := by
  rw [cycA_iff] at h ⊢
  intro j _ hj
  rw [List.length_append] at hj ⊢
  have a1 := h (j % w.length) (by omega) (by have := Nat.mod_lt j h0; omega)
  have m1 : (j + 1) % (w.length + w.length) % w.length = (j % w.length + 1) % w.length := by
    rw [show w.length + w.length = w.length * 2 by omega, Nat.mod_mul_right_mod, Nat.add_mod, Nat.mod_add_mod]
    simp [Nat.add_mod]
  rw [rd_twice w j (by omega), rd_twice w _ (by have := Nat.mod_lt (j + 1) (show 0 < w.length + w.length by omega); omega), m1]
  exact a1

theorem dirs_twice (l : List (List Int)) (w : List Int) (h : dirs l w = true) : dirs l (w ++ w) = true := by
  unfold dirs at h ⊢
  rw [List.all_append, h]
  rfl

/-- What a permutation without an error tells. -/
theorem permR_zero {n : Int} {l : List (List Int)} {s : Int} {t : List (List Int)} {w : List Int} (h : (permR n l s t w).2 = 0) : ∃ q : Nat, s = (q : Int) ∧ 1 ≤ q ∧ q ≤ 4 ∧ isCover n l s t = true ∧ t.length = l.length ∧ (∀ i : Nat, i < t.length → perm q (rd_L2 t (i : Int)) = true) ∧ 0 < w.length ∧ dirs l w = true ∧ cycA l w w.length 0 = true ∧ (permR n l s t w).1 = (List.range q).map (fun x : Nat => stp t w w.length 0 (x : Int)) := by
  unfold permR at h ⊢
  by_cases hc : isCover n l s t = true
  · rw [if_pos hc] at h ⊢
    obtain ⟨_, q, rfl, h1, h4, htl, htp⟩ := cover_parts hc
    by_cases c0 : w.length = 0
    · rw [if_pos c0] at h; exact absurd h (by decide)
    rw [if_neg c0] at h ⊢
    by_cases c20 : w.length ≤ 20
    · rw [if_pos c20] at h ⊢
      by_cases hd : dirs l w = true
      · rw [if_pos hd] at h ⊢
        by_cases hy : cycA l w w.length 0 = true
        · rw [if_pos hy]
          exact ⟨q, rfl, h1, h4, hc, htl, htp, by omega, hd, hy, by rw [Int.toNat_natCast]⟩
        · rw [if_neg hy] at h; exact absurd h (by decide)
      · rw [if_neg hd] at h; exact absurd h (by decide)
    · rw [if_neg c20] at h; exact absurd h (by decide)
  · rw [if_neg hc] at h; exact absurd h (by decide)

theorem permR_twice {n : Int} {l : List (List Int)} {s : Int} {t : List (List Int)} {w : List Int} (h : (permR n l s t w).2 = 0) (hw : w.length ≤ 10) : (permR n l s t (w ++ w)).2 = 0 ∧ ∃ q : Nat, (permR n l s t w).1.length = q ∧ (permR n l s t (w ++ w)).1.length = q ∧ ∀ i : Nat, i < q → ∃ j : Nat, j < q ∧ rd (permR n l s t w).1 (i : Int) = (j : Int) ∧ rd (permR n l s t (w ++ w)).1 (i : Int) = rd (permR n l s t w).1 (j : Int) := by
  obtain ⟨q, rfl, h1, h4, hc, htl, htp, h0, hd, hy, hr⟩ := permR_zero h
  have e2 : permR n l (q : Int) t (w ++ w) = ((List.range q).map (fun x : Nat => stp t (w ++ w) (w ++ w).length 0 (x : Int)), 0) := by
    have hl : (w ++ w).length = w.length + w.length := List.length_append
    unfold permR
    rw [if_pos hc, if_neg (by omega), if_pos (by omega), if_pos (dirs_twice l w hd), if_pos (cyc_twice l w h0 hy), Int.toNat_natCast]
  rw [e2, hr]
  refine ⟨rfl, q, by simp, by simp, fun i hi => ?_⟩
  obtain ⟨j, hj, hjq⟩ := stp_range h1 h4 htl htp hd w.length 0 i (by omega) hi
  refine ⟨j, hjq, ?_, ?_⟩
  · rw [rd_map_range (fun x : Nat => stp t w w.length 0 (x : Int)) hi, hj]
  · rw [rd_map_range (fun x : Nat => stp t (w ++ w) (w ++ w).length 0 (x : Int)) hi, rd_map_range (fun x : Nat => stp t w w.length 0 (x : Int)) hjq, stp_twice, hj]

/-- The type without an error: it adds up to the sheets. -/
theorem type_is (n : Int) (l : List (List Int)) (s : Int) (t : List (List Int)) (w : List Int) (hl : Mod l) (ht : Mod t) (hw : w.length ≤ 1048576) (h : (permR n l s t w).2 = 0) : ∃ z : List Int × Int, Ev (fun k => spec_TypeOfWalk.f k n l s t w) z ∧ z.2 = 0 ∧ z.1.length ≤ 4 ∧ (∀ y ∈ z.1, 0 ≤ y ∧ y ≤ 4) ∧ z.1.sum = s := by
  obtain ⟨_, _, hs, _⟩ := permw_is n l s t w hl ht hw
  obtain ⟨q, rfl, h1, h4, hc, htl, htp, h0, hd, hy, hr⟩ := permR_zero h
  obtain ⟨r1, r2, r3⟩ := turn_row h1 h4 htl htp hd
  rw [← hr] at r1 r2 r3
  obtain ⟨z, ze, z0, z1, z2, z3⟩ := type_sum n l t (permR n l (q : Int) t w).1 (by omega) (fun i hi => by rw [r1]; exact r2 i (by omega)) r3
  rw [r1] at ze z3
  refine ⟨z, ?_, z0, z1, z2, z3⟩
  unfold spec_TypeOfWalk.f
  exact Ev.bind hs (Ev.pos h (Ev.pos (by omega) ze))
theorem likeInts_loop (a b : List Int) (hl : a.length ≤ 1048576) (hab : a.length = b.length) : ∀ (d i : Nat), i + d = a.length →
    Ev (fun k => laws_likeInts.l0 k a b (i : Int)) (decide (a.drop i = b.drop i)) := by
  intro d
  induction d with
  | zero =>
    intro i hi
    refine Ev.succ ?_; simp only [laws_likeInts.l0]
    rw [List.drop_eq_nil_of_le (by omega), List.drop_eq_nil_of_le (by omega)]
    repeat (first | with_reducible exact Ev.now _ | dsimp only | refine Ev.pos_ ?_ | refine Ev.neg_ ?_ | simp only [bne_self_eq_false, Bool.not_true, Bool.not_false, List.length_cons, List.length_nil] | rw [wrap_id (by omega) (by omega)] | ((with_reducible refine Ev.eq (congrArg some ?_)); rfl))
  | succ d ih =>
    intro i hi
    refine Ev.succ ?_; simp only [laws_likeInts.l0]
    rw [List.drop_eq_getElem_cons (by omega : i < a.length), List.drop_eq_getElem_cons (by omega : i < b.length), wrap_succ (by omega)]
    by_cases e : rd a i = rd b i
    · repeat (first | with_reducible exact Ev.now _ | dsimp only | refine Ev.pos_ ?_ | refine Ev.neg_ ?_ | simp only [bne_self_eq_false, Bool.not_true, Bool.not_false, List.length_cons, List.length_nil] | rw [wrap_id (by omega) (by omega)] | ((with_reducible refine Ev.eq (congrArg some ?_)); rfl))
      have := ih (i + 1) (by omega)
      rw [rd_lt (by omega), rd_lt (by omega)] at e
      rw [e, decide_cons]
      exact this
    · rw [decide_eq_false (fun h => e (by rw [rd_lt (by omega), rd_lt (by omega)]; exact (List.cons.inj h).1))]
      repeat (first | with_reducible exact Ev.now _ | dsimp only | refine Ev.pos_ ?_ | refine Ev.neg_ ?_ | simp only [bne_self_eq_false, Bool.not_true, Bool.not_false, List.length_cons, List.length_nil] | rw [wrap_id (by omega) (by omega)] | ((with_reducible refine Ev.eq (congrArg some ?_)); rfl))

theorem likeInts_self (a : List Int) (hl : a.length ≤ 1048576) : Ev (fun k => laws_likeInts.f k a a) true := by
  unfold laws_likeInts.f
  refine Ev.pos rfl ?_
  have := likeInts_loop a a hl rfl a.length 0 (by omega)
  rw [decide_eq_true rfl] at this
  exact this

theorem wt_loop (a b : List Int) (q : Nat) (ha : a.length = q) (hb : b.length = q) (hq : q ≤ 1000000) (h : ∀ i : Nat, i < q → ∃ j : Nat, j < q ∧ rd a (i : Int) = (j : Int) ∧ rd b (i : Int) = rd a (j : Int)) : ∀ (d i : Nat), i + d = q → Ev (fun k => laws_FnWalkTypes.l0 k a b (i : Int)) true := by
  intro d
  induction d with
  | zero =>
    intro i hi
    refine Ev.succ ?_; simp only [laws_FnWalkTypes.l0]
    exact Ev.neg (by omega) (Ev.now _)
  | succ d ih =>
    intro i hi
    obtain ⟨j, hj, e1, e2⟩ := h i (by omega)
    refine Ev.succ ?_; simp only [laws_FnWalkTypes.l0]
    rw [wrap_succ (i := i) (by omega), e1, e2]
    exact Ev.pos (by omega) (Ev.pos (by omega) (Ev.pos (by omega) (Ev.pos (by omega) (Ev.pos (by omega) (Ev.pos rfl (ih (i + 1) (by omega)))))))

section
variable (n : Int) (l : List (List Int)) (s : Int) (t : List (List Int)) (w : List Int) (hl : Mod l) (ht : Mod t) (hw : w.length ≤ 30)
include hl ht hw

theorem wt2 (h : (permR n l s t w).2 = 0) : Ev (fun k => laws_FnWalkTypes.j2 k w (permR n l s t w).1 false n l s t) true := by
  refine Ev.succ ?_; simp only [laws_FnWalkTypes.j2]
  refine Ev.neg (by decide) ?_
  by_cases h10 : (w.length : Int) > 10
  · exact Ev.pos h10 (Ev.now _)
  · refine Ev.neg h10 (Ev.bind (Ev.now _) (Ev.pos (by simp; omega) (Ev.bind (Ev.now _) (Ev.pos (by simp; omega) ?_))))
    rw [List.nil_append]
    obtain ⟨z, q, h1, h2, h3⟩ := permR_twice (n := n) (l := l) (s := s) (t := t) (w := w) h (by omega)
    obtain ⟨hr, _, _, hi⟩ := permw_is n l s t (w ++ w) hl ht (by simp; omega)
    have hq : q ≤ 1000000 := by
      obtain ⟨_, hg, _, _⟩ := permw_is n l s t w hl ht (by omega)
      have := (hg h).2.1
      omega
    exact Ev.bind hi (Ev.pos z (wt_loop _ _ q h1 h2 hq h3 q 0 (by omega)))

theorem wt0 : Ev (fun k => laws_FnWalkTypes.j0 k w (permR n l s t w).1 (permR n l s t w).2 false n l s t) true := by
  refine Ev.succ ?_; simp only [laws_FnWalkTypes.j0]
  refine Ev.neg (by decide) ?_
  obtain ⟨r, hr, hs, hi⟩ := tow_same n l s t w hl ht (by omega)
  obtain ⟨p1, p2, p3, p4⟩ := permw_is n l s t w hl ht (by omega)
  refine Ev.bind hi (Ev.bind hs (Ev.pos rfl (Ev.bind (likeInts_self r.1 hr) ?_)))
  refine Ev.succ ?_; simp only [laws_FnWalkTypes.j1]
  refine Ev.neg (by decide) ?_
  by_cases h : (permR n l s t w).2 = 0
  · obtain ⟨z, ze, z0, z1, z2, z3⟩ := type_is n l s t w hl ht (by omega) h
    have e : r = z := Ev.uniq hs ze
    subst e
    refine Ev.pos h (Ev.pos z0 (Ev.bind (sum_ev r.1 z1 z2) ?_))
    rw [z3, bne_self_eq_false]
    exact wt2 n l s t w hl ht hw h
  · have ze : Ev (fun k => spec_TypeOfWalk.f k n l s t w) ([], (permR n l s t w).2) := by
      unfold spec_TypeOfWalk.f
      exact Ev.bind p3 (Ev.neg h (Ev.now _))
    have e : r = ([], (permR n l s t w).2) := Ev.uniq hs ze
    have e1 : (permR n l s t w).1 = [] := by
      unfold permR at h ⊢
      by_cases hc : isCover n l s t = true
      · rw [if_pos hc] at h ⊢
        by_cases c0 : w.length = 0
        · rw [if_pos c0]
        rw [if_neg c0] at h ⊢
        by_cases c20 : w.length ≤ 20
        · rw [if_pos c20] at h ⊢
          by_cases hd : dirs l w = true
          · rw [if_pos hd] at h ⊢
            by_cases hy : cycA l w w.length 0 = true
            · rw [if_pos hy] at h; exact absurd rfl h
            · rw [if_neg hy]
          · rw [if_neg hd]
        · rw [if_neg c20]
      · rw [if_neg hc]
    refine Ev.neg h (Ev.pos (by rw [e]) ?_)
    rw [e1]
    exact Ev.now _

end

theorem wf8 {x : Int} (h : (Lit.int .u8 x).wf = true) : 0 ≤ x ∧ x ≤ 255 := by
  simpa [Lit.wf, IntKind.min, IntKind.max, IntKind.signed, IntKind.bits] using h

theorem FnWalkTypes : laws_FnWalkTypes.Pure := by
  intro c _ hb
  refine Ev.rounds ?_
  unfold laws_FnWalkTypes.f laws_big.f
  by_cases hbig : (c.length : Int) > 4096
  · rw [decide_eq_true hbig]
    exact Ev.bind (Ev.now _) (Ev.pos rfl (Ev.now _))
  · rw [decide_eq_false hbig]
    have hc : Code c := ⟨by omega, fun y hy => wf8 (hb y hy)⟩
    refine Ev.bind (Ev.now _) (Ev.neg (by decide) ?_)
    obtain ⟨⟨n, l, s, t, w⟩, hd, hl, ht, hw⟩ := drawCover_ex hc
    simp only at hl ht hw
    obtain ⟨p1, p2, p3, p4⟩ := permw_is n l s t w hl ht (by omega)
    have p3' : Ev (fun k => spec_PermutationOfWalk.f k n l s t w) (permR n l s t w) := by
      unfold spec_PermutationOfWalk.f
      exact Ev.bind p3 (Ev.now _)
    exact Ev.bind hd (Ev.bind p4 (Ev.bind p3' (Ev.pos rfl (Ev.bind (likeInts_self _ p1) (wt0 n l s t w hl ht hw)))))
end Go.Proofs.Ytkadhadceongiaa.Pure
