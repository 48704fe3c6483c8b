/- The test of polynomials through the library's search. -/
import Derived.Test.YtkhbehppjahokaaG12
import Derived.Test.YtkhbehppjahokaaG13
import Derived.Test.YtkhbehppjahokaaAux
import Derived.Test.YtkhbehppjahokaaBase
import Derived.Test.YtkhbehppjahokaaGraph
import Derived.Test.YtkhbehppjahokaaWhole
namespace Go.Proofs.Ytkhbehppjahokaa.Pure
open Go.RowKit Go.Proofs.Ytkhbehppjahokaa.G Go.Proofs.YtkhbehppjahokaaW.PrintWords Go.Proofs.YtkhbehppjahokaaW.PrintLast Go.Proofs.YtkhbehppjahokaaW.PrintMore Go.Proofs.Ytkhbehppjahokaa.Aux

theorem areWhole_loop (L : List (List Int)) (hL : Mod L) : ∀ (d i : Nat), i + d = L.length →
    Ev (fun k => slices_IndexFunc_int64_int64_114_at_areWhole_1.l0 k L (L.length : Int) (i : Int)) (if (L.drop i).all whole = true then -1 else ((L.length : Int) - d + ((L.drop i).findIdx (fun x => !whole x) : Nat))) := by
  have hl1 := hL.1
  intro d
  induction d with
  | zero =>
    intro i hi
    refine Ev.succ ?_; simp only [slices_IndexFunc_int64_int64_114_at_areWhole_1.l0]
    rw [List.drop_eq_nil_of_le (by omega), List.all_nil, if_pos rfl]
    repeat (first | with_reducible exact Ev.now _ | dsimp only | refine Ev.pos (by first | omega | rfl | assumption | decide) ?_ | refine Ev.neg (by first | omega | assumption | exact Bool.false_ne_true | exact fun e => absurd e (by decide)) ?_ | simp only [bne_self_eq_false, Bool.not_true, Bool.not_false, List.length_cons, List.length_nil] | rw [wrap_id (by omega) (by omega)] | ((with_reducible refine Ev.eq (congrArg some ?_)); rfl))
  | succ d ih =>
    intro i hi
    refine Ev.succ ?_; simp only [slices_IndexFunc_int64_int64_114_at_areWhole_1.l0]
    rw [List.drop_eq_getElem_cons (by omega : i < L.length), List.all_cons, rl_lt (by omega), wrap_succ (by omega), List.findIdx_cons]
    have h1 : Ev (fun k => impl_areWhole_1.f k L[i]) (!whole L[i]) := by
      unfold impl_areWhole_1.f
      repeat (first | with_reducible exact Ev.now _ | dsimp only | with_reducible refine Ev.bind (implWhole L[i] (hL.row (by omega))) ?_ | refine Ev.pos (by first | omega | rfl | assumption | decide) ?_ | refine Ev.neg (by first | omega | assumption | exact Bool.false_ne_true | exact fun e => absurd e (by decide)) ?_ | simp only [bne_self_eq_false, Bool.not_true, Bool.not_false, List.length_cons, List.length_nil] | rw [wrap_id (by omega) (by omega)] | with_reducible exact (implWhole L[i] (hL.row (by omega))) | ((with_reducible refine Ev.eq (congrArg some ?_)); rfl))
    by_cases h : whole L[i] = true
    · rw [h, Bool.not_true] at h1
      rw [h, Bool.true_and, Bool.not_true, cond_false]
      have := ih (i + 1) (by omega)
      rw [show ((L.length : Int) - (d + 1 : Nat) + ((L.drop (i + 1)).findIdx (fun x => !whole x) + 1 : Nat)) = (L.length : Int) - d + ((L.drop (i + 1)).findIdx (fun x => !whole x) : Nat) by omega]
      repeat (first | with_reducible exact Ev.now _ | dsimp only | with_reducible refine Ev.bind (h1) ?_ | refine Ev.pos (by first | omega | rfl | assumption | decide) ?_ | refine Ev.neg (by first | omega | assumption | exact Bool.false_ne_true | exact fun e => absurd e (by decide)) ?_ | simp only [bne_self_eq_false, Bool.not_true, Bool.not_false, List.length_cons, List.length_nil] | rw [wrap_id (by omega) (by omega)] | with_reducible exact (h1) | ((with_reducible refine Ev.eq (congrArg some ?_)); rfl))
      exact this
    · rw [Bool.not_eq_true] at h
      rw [h, Bool.not_false] at h1
      rw [h, Bool.false_and, Bool.not_false, cond_true, if_neg (by decide), show (L.length : Int) - (d + 1 : Nat) + (0 : Nat) = i by omega]
      repeat (first | with_reducible exact Ev.now _ | dsimp only | with_reducible refine Ev.bind (h1) ?_ | refine Ev.pos (by first | omega | rfl | assumption | decide) ?_ | refine Ev.neg (by first | omega | assumption | exact Bool.false_ne_true | exact fun e => absurd e (by decide)) ?_ | simp only [bne_self_eq_false, Bool.not_true, Bool.not_false, List.length_cons, List.length_nil] | rw [wrap_id (by omega) (by omega)] | with_reducible exact (h1) | ((with_reducible refine Ev.eq (congrArg some ?_)); rfl))

theorem areWhole' (L : List (List Int)) (hL : Mod L) : Ev (fun k => impl_areWhole.f k L) (L.all whole) := by
  have hl1 := hL.1
  have h2 : Ev (fun k => slices_IndexFunc_int64_int64_114_at_areWhole_1.f k L) _ := areWhole_loop L hL L.length 0 (by omega)
  rw [List.drop_zero] at h2
  unfold impl_areWhole.f slices_ContainsFunc_int64_int64_93_at_areWhole_1.f
  by_cases h : L.all whole = true
  · rw [if_pos h] at h2
    rw [h]
    repeat (first | with_reducible exact Ev.now _ | dsimp only | with_reducible refine Ev.bind (Ev.bind h2 (Ev.now _)) ?_ | refine Ev.pos (by first | omega | rfl | assumption | decide) ?_ | refine Ev.neg (by first | omega | assumption | exact Bool.false_ne_true | exact fun e => absurd e (by decide)) ?_ | simp only [bne_self_eq_false, Bool.not_true, Bool.not_false, List.length_cons, List.length_nil] | rw [wrap_id (by omega) (by omega)] | with_reducible exact (Ev.bind h2 (Ev.now _)) | ((with_reducible refine Ev.eq (congrArg some ?_)); rfl))
  · rw [if_neg h] at h2
    rw [Bool.not_eq_true] at h
    rw [h]
    refine Ev.bind (Ev.bind h2 (Ev.now _)) ?_
    rw [decide_eq_true (by omega)]
    exact Ev.now _

theorem areWhole (l : List Int) (hl : l.length ≤ 1048576) : Ev (fun k => impl_areWhole.f k [l]) (whole l) := by
  have := areWhole' [l] ⟨by simp, fun r h => by rw [List.mem_singleton.1 h]; exact hl⟩
  rw [List.all_cons, List.all_nil, Bool.and_true] at this
  exact this

theorem areWhole2 (l m : List Int) (hl : l.length ≤ 1048576) (hm : m.length ≤ 1048576) : Ev (fun k => impl_areWhole.f k [l, m]) (whole l && whole m) := by
  have := areWhole' [l, m] ⟨by simp, fun r h => by
    rcases List.mem_cons.1 h with h | h
    · rw [h]; exact hl
    · rw [List.mem_singleton.1 h]; exact hm⟩
  rw [List.all_cons, List.all_cons, List.all_nil, Bool.and_true] at this
  exact this
end Go.Proofs.Ytkhbehppjahokaa.Pure
