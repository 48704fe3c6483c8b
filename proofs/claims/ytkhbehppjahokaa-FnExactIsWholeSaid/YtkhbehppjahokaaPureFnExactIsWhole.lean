/- The exact law of IsWhole holds for every list of int64 numbers: the program's answer is the reference's, and the list stays as it was. -/
import Derived.Test.YtkhbehppjahokaaG1
import Derived.Test.YtkhbehppjahokaaG3
import Derived.Test.YtkhbehppjahokaaAux
import Derived.Test.YtkhbehppjahokaaBase
import Derived.Test.YtkhbehppjahokaaWhole
namespace Go.Proofs.Ytkhbehppjahokaa.Pure
open Go.RowKit Go.Proofs.Ytkhbehppjahokaa.G Go.Proofs.YtkhbehppjahokaaW.PrintWords Go.Proofs.YtkhbehppjahokaaW.PrintLast Go.Proofs.YtkhbehppjahokaaW.PrintMore Go.Proofs.Ytkhbehppjahokaa.Aux

theorem FnExactIsWhole : laws_FnExactIsWhole.Pure := by
  intro l _ _
  refine Ev.rounds ?_
  unfold laws_FnExactIsWhole.f
  by_cases h : (l.length : Int) > 1048576
  · repeat (first | with_reducible exact Ev.now _ | dsimp only | refine Ev.pos (by first | omega | rfl | assumption | decide) ?_ | refine Ev.neg (by first | omega | assumption | exact Bool.false_ne_true | exact fun e => absurd e (by decide)) ?_ | simp only [bne_self_eq_false, Bool.not_true, Bool.not_false] | rw [wrap_id (by omega) (by omega)] | ((with_reducible refine Ev.eq (congrArg some ?_)); rfl))
  · have hl : l.length ≤ 1048576 := by omega
    have hs : Ev (fun k => spec_IsWhole.f k l) (whole l) := by
      unfold spec_IsWhole.f
      repeat (first | with_reducible exact Ev.now _ | dsimp only | with_reducible refine Ev.bind (specPoly l hl) ?_ | refine Ev.pos (by first | omega | rfl | assumption | decide) ?_ | refine Ev.neg (by first | omega | assumption | exact Bool.false_ne_true | exact fun e => absurd e (by decide)) ?_ | simp only [bne_self_eq_false, Bool.not_true, Bool.not_false] | rw [wrap_id (by omega) (by omega)] | with_reducible exact (specPoly l hl) | ((with_reducible refine Ev.eq (congrArg some ?_)); rfl))
    repeat (first | with_reducible exact Ev.now _ | dsimp only | with_reducible refine Ev.bind (toInt64S l hl) ?_ | with_reducible refine Ev.bind (hs) ?_ | with_reducible refine Ev.bind (implWhole l hl) ?_ | with_reducible refine Ev.bind (eqInt64S_self l hl) ?_ | refine Ev.pos (by first | omega | rfl | assumption | decide) ?_ | refine Ev.neg (by first | omega | assumption | exact Bool.false_ne_true | exact fun e => absurd e (by decide)) ?_ | simp only [bne_self_eq_false, Bool.not_true, Bool.not_false] | rw [wrap_id (by omega) (by omega)] | with_reducible exact (toInt64S l hl) | with_reducible exact (hs) | with_reducible exact (implWhole l hl) | with_reducible exact (eqInt64S_self l hl) | ((with_reducible refine Ev.eq (congrArg some ?_)); rfl))
end Go.Proofs.Ytkhbehppjahokaa.Pure
