/- The exact law of IsGraph on the printed functions. -/
import Derived.Test.YtkhbehppjahokaaG11
import Derived.Test.YtkhbehppjahokaaAux
import Derived.Test.YtkhbehppjahokaaBase
import Derived.Test.YtkhbehppjahokaaGraph
import Derived.Test.YtkhbehppjahokaaIsGraph
namespace Go.Proofs.Ytkhbehppjahokaa.Pure
open Go.RowKit Go.Proofs.Ytkhbehppjahokaa.G Go.Proofs.YtkhbehppjahokaaW.PrintWords Go.Proofs.YtkhbehppjahokaaW.PrintLast Go.Proofs.YtkhbehppjahokaaW.PrintMore Go.Proofs.Ytkhbehppjahokaa.Aux

theorem FnExactIsGraph : laws_FnExactIsGraph.Pure := by
  intro n l _ hl hr
  refine Ev.rounds ?_
  unfold laws_FnExactIsGraph.f
  refine Ev.ex (szGraph n l hl hr) (fun t ht => ?_)
  rcases ht with ht | ht
  · repeat (first | exact Ev.now _ | dsimp only | refine Ev.pos (by first | omega | rfl | assumption | decide) ?_ | refine Ev.neg (by first | omega | assumption | exact Bool.false_ne_true | exact fun e => absurd e (by decide)) ?_ | simp only [bne_self_eq_false, Bool.not_true, Bool.not_false] | rw [wrap_id (by omega) (by omega)])
  · by_cases h0 : t < 0
    · repeat (first | exact Ev.now _ | dsimp only | refine Ev.pos (by first | omega | rfl | assumption | decide) ?_ | refine Ev.neg (by first | omega | assumption | exact Bool.false_ne_true | exact fun e => absurd e (by decide)) ?_ | simp only [bne_self_eq_false, Bool.not_true, Bool.not_false] | rw [wrap_id (by omega) (by omega)])
    · repeat (first | exact Ev.now _ | dsimp only | refine Ev.bind (toGraph n l ht) ?_ | refine Ev.bind (specIsGraph n l ht) ?_ | refine Ev.bind (implIsGraph n l ht) ?_ | refine Ev.bind (eqGraph_self n l ht) ?_ | refine Ev.pos (by first | omega | rfl | assumption | decide) ?_ | refine Ev.neg (by first | omega | assumption | exact Bool.false_ne_true | exact fun e => absurd e (by decide)) ?_ | simp only [bne_self_eq_false, Bool.not_true, Bool.not_false] | rw [wrap_id (by omega) (by omega)] | exact (toGraph n l ht) | exact (specIsGraph n l ht) | exact (implIsGraph n l ht) | exact (eqGraph_self n l ht))
end Go.Proofs.Ytkhbehppjahokaa.Pure
