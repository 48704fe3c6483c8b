/- Steps of a walk that the printed words lack: a call by a function value that stands in a slot. -/
import Derived.Test.YtipigagbgpoecaaDoorWLast
import Derived.Test.YtipigagbgpoecaaDoorShelf
import Derived.Test.YtipigagbgpoecaaDoorWMore
namespace Go.Proofs.YtipigagbgpoecaaDoorW.PrintMore
open Go.RowKit Go.Proofs.YtipigagbgpoecaaDoorW.PrintWords Go.Proofs.YtipigagbgpoecaaDoorW.PrintLast
section
variable {P : Program} {ops : Array Oper} {o : Oper} {Q : Exit → Act → World → Prop} {W : World}
/-- The operation is a call by the function value in this slot. -/
theorem gate_fn {rest : List Oper} {a : Act} {t : Tmp} {xs : Array Operand} {ts : Array TypeId} (_ho : o.op = .call { callee := .value (.tmp t), args := xs, argTypes := ts }) (h : wpList P ops Q (o :: rest) a W) : wpList P ops Q (o :: rest) a W := h
theorem goesF_ {rest : List Oper} {oi : Oper} {a : Act} {w : World} (N : Option Tmp) (hd : oi.dst = N) (hg : oi.guard = none) {f : FuncId} {fn : Func} {xs : Array Operand} {ts : Array TypeId} (hf : P.funcs[f]? = some fn) (hname : (fn.name == "runtime.NumGoroutine") = false) (hb : fn.body.isSome = true) {lb : Array Value} (args : Array Value) {c : Operand}
    (hop : oi.op = .call { callee := .value c, args := xs, argTypes := ts }) (hc : a.eval c = .func (.func f) #[] lb) (hargs : xs.map a.eval ++ lb = args)
    (h : Calls P f args w fun e w' => ∃ v, e = .returned v ∧ wpList P ops Q rest (a.put N v) w') : wpList P ops Q (oi :: rest) a w := by
  refine wpList_plain hg fun K hK => ?_
  have he := enters_ hf hname hb args w
  have hrun : (execOp a.eval oi).run P w = .ok (.enter f args) w := by
    unfold execOp
    simp [hop, resolve, hc, Deferred.ofValue, invoke, hargs, he]
  unfold Oper.wp
  rw [hrun, Oper.upon_enter]
  refine h.mono fun e w'' hh => ?_
  obtain ⟨v, rfl, hk⟩ := hh
  subst hd
  exact hK _ _ hk
/-- More is known of the world from here on. -/
theorem grow_ {S S' : World → Prop} {md : Region.Mode} (hle : ∀ w, S' w → S w) : ∀ (fuel : Nat) (l : Array Bool) (a : Act) (w : World), S' w → wpAnyLast P md ops Q S' [] fuel l a w → wpAnyLast P md ops Q S [] fuel l a w
  | 0, _, _, _, _, h => h
  | fuel + 1, _, _, _, hS, h => ⟨h.1, fun i hi => wpOp_mono (fun a' w' h' => ⟨fun _ _ => hle w' (h'.1 (by simp) hS), grow_ hle fuel _ a' w' (h'.1 (by simp) hS) h'.2⟩) (h.2 i hi)⟩
theorem grown_ {S S' : World → Prop} {md : Region.Mode} {fuel : Nat} {l : Array Bool} {a : Act} {w : World} (hle : ∀ w, S' w → S w) (hS : S' w) (h : S' w → wpAnyLast P md ops Q S' [] fuel l a w) : wpAnyLast P md ops Q S [] fuel l a w := grow_ hle fuel l a w hS (h hS)
end
end Go.Proofs.YtipigagbgpoecaaDoorW.PrintMore
