/- Steps of a walk that the printed words lack: a call by a function value that stands in a slot. -/
import Derived.Test.YtkadhadceongiaaWLast
import Derived.Test.YtkadhadceongiaaWMore
import Derived.Test.YtkadhadceongiaaWTab
import Derived.WalkKit
import Derived.KernelRfl
namespace Go.Proofs.YtkadhadceongiaaW.PrintMore
open Go.RowKit Go.Proofs.YtkadhadceongiaaW.PrintWords Go.Proofs.YtkadhadceongiaaW.PrintLast
section
variable {P:Program} {ops:Array Oper} {o:Oper} {Q:Exit→Act→World→Prop} {W:World}

theorem tH {rest:List Oper} {a:Act} {t:Tmp} {xs:Array Operand} {ts:Array TypeId} (_ho:o.op= .call {callee:= .value (.tmp t),args:=xs,argTypes:=ts}) (h:wpList P ops Q (o :: rest) a W):wpList P ops Q (o :: rest) a W:=h
theorem tI {rest:List Oper} {oi:Oper} {a:Act} {w:World} (N:Option Tmp) (hd:oi.dst=N) (hg:oi.guard=none) {f:FuncId} {fn:Func} {xs:Array Operand} {ts:Array TypeId} (hf:P.funcs[f]? =some fn) (hname:(fn.name == "runtime.NumGoroutine")=false) (hb:fn.body.isSome=true) {lb:Array Value} (args:Array Value) {c:Operand}
    (hop:oi.op= .call {callee:= .value c,args:=xs,argTypes:=ts}) (hc:a.eval c= .func (.func f) #[] lb) (hargs:xs.map a.eval++lb=args)
    (h:Calls P f args w fun e w'=>∃v,e= .returned v∧wpList P ops Q rest (a.put N v) w'):wpList P ops Q (oi :: rest) a w:=by
  refine wpList_plain hg fun K hK=> ?_
  have he:=F6 hf hname hb args w;have hrun:(execOp a.eval oi).run P w= .ok (.enter f args) w:=by
    unfold execOp;simp[hop,resolve,hc,Deferred.ofValue,invoke,hargs,he]
  unfold Oper.wp;rw[hrun,Oper.upon_enter];refine h.mono fun e w'' hh=> ?_
  obtain⟨v,rfl,hk⟩:=hh;subst hd;exact hK _ _ hk

theorem JT {oi:Oper} {N:Option Tmp} {a:Act} {w:World} {K:Act→World→Prop} {f:FuncId} {fn:Func} {xs:Array Operand} {ts:Array TypeId} (hf:P.funcs[f]? =some fn) (hname:(fn.name == "runtime.NumGoroutine")=false) (hb:fn.body.isSome=true) {lb:Array Value} (args:Array Value) {c:Operand}
    (hw:Region.wanted oi (yielded ops a.tmps)=true) (hN:oi.dst=N) (hop:oi.op= .call {callee:= .value c,args:=xs,argTypes:=ts}) (hc:a.eval c= .func (.func f) #[] lb) (hargs:xs.map a.eval++lb=args)
    (h:Calls P f args w fun e w'=>∃v,e= .returned v∧K (a.put N v) w'):if Region.wanted oi (yielded ops a.tmps)=true then Oper.wp P oi a w K Q else K (a.put N undef) w:=by
  refine call_ f args hw hN ?_ h;have he:=F6 hf hname hb args w;unfold execOp;simp[hop,resolve,hc,Deferred.ofValue,invoke,hargs,he]

theorem Px {S S':World→Prop} {md:Region.Mode} (hle: ∀w,S' w→S w): ∀(fuel:Nat) (l:Array Bool) (a:Act) (w:World),S' w→fK P md ops Q S' [] fuel l a w→fK P md ops Q S [] fuel l a w
  | 0,_,_,_,_,h=>h
  | fuel+1,_,_,_,hS,h=>⟨h.1,fun i hi=>wpOp_mono (fun a' w' h'=>⟨fun _ _=>hle w' (h'.1 (by simp) hS),Px hle fuel _ a' w' (h'.1 (by simp) hS) h'.2⟩) (h.2 i hi)⟩
theorem aat {S S':World→Prop} {md:Region.Mode} {fuel:Nat} {l:Array Bool} {a:Act} {w:World} (hle: ∀w,S' w→S w) (hS:S' w) (h:S' w→fK P md ops Q S' [] fuel l a w):fK P md ops Q S [] fuel l a w:=Px hle fuel l a w hS (h hS)
end

section
open Go.Proofs.YtkadhadceongiaaW.PrintWords
theorem af {w W:World} (q:Below w.heap.size w W:=by repeat (first|exact Below.refl _ _ |apply jC|apply lu|apply fE)):Below w.heap.size w W:=q
theorem aT {b:Nat} {w W:World} (q:Below b w W:=by repeat (first|(with_reducible first|exact HB.1 |apply jC|apply lu|apply fE)|exact HB.1)):Below b w W:=q
theorem aj {b:Nat} {w W:World} (q:Below b w W:=by repeat (first|(with_reducible first|exact HB.1 |apply jC|apply lu|apply fE|refine jU ?_ (ak.out (by assumption)))|exact HB.1)):Below b w W:=q
theorem Ei {b:Nat} {w W:World} (q:Below b w W:=by repeat (first|(with_reducible first|exact xh.1 |apply jC|apply lu|apply fE|refine jU ?_ (ak.out (by assumption)))|exact xh.1)):Below b w W:=q
theorem cB {α:Type} {a b:α} (q:a=b:=by first|rfl|(simp[js,jt]<;>rfl)|(simp[*,js,jt]<;>rfl)):a=b:=q
theorem bA {α:Type} {a b:α} (q:a=b:=by first|rfl|(simp;done)|(simp[*];done)):a=b:=q
theorem aD {p:Prop} [Decidable p] (q:decide p=true:=by assumption):p:=of_decide_eq_true q
theorem bN {α:Type} {c:Prop} [Decidable c] {a:Option α} {r:α} (h:(if c then a else none)=some r):c∧a=some r:=by
  by_cases k:c
  · rw[if_pos k]at h
    exact⟨k,h⟩
  · rw[if_neg k]at h
    cases h
theorem bE {α β:Type} {o:Option α} {f:α→Option β} {r:β} (h:o.bind f=some r): ∃a,ak (o=some a)∧f a=some r:=by
  obtain⟨a,h1,h2⟩:=Option.bind_eq_some_iff.mp h;exact⟨a,⟨h1⟩,h2⟩
theorem mb {α:Type} {a b:α} (q:a=b:=by(try simp only[List.map_toArray,List.map_cons,List.map_nil]);first|done|rfl|(simp only[List.length_drop,List.length_take];rfl)):a=b:=q

def rE (n m:Nat):Array Bool:=((List.range n).map (fun i=>Nat.testBit m i)).toArray
section
variable {P:Program} {ops:Array Oper} {Q:Exit→Act→World→Prop} {md:Region.Mode} {S:World→Prop} {ds:List Nat}
theorem bh (i n N m:Nat) {oi:Oper} {v:Value} {fuel:Nat} {l:Array Bool} {a a':Act} {w:World} (h:fK P md ops Q S ds fuel (rE n m) a' w) (hi:ops[i]? =some oi:=by rfl) (hN:oi.dst=some N:=by rfl)
    (hc:Bj md ops l (rE n m) i=true:=by exact Py dN.1 (by kernel_rfl)) (hQ: ∀c a w,Q (.panic c) (a.put oi.dst v) w→Q (.panic c) a w:=by exact fun _ _ _ h=>h)
    (hy:Yields P ops oi v a:=by refine Or.inl ⟨by rfl, ?_⟩;intro w';go_simp;with_reducible rfl) (ha:a.put (some N) v=a':=by simp only[Act.put,List.setIfInBounds_toArray,List.set_cons_zero,List.set_cons_succ,ez,fT];rfl):
    fK P md ops Q S ds (fuel+1) l a w:=kM (rE n m) hi hN hc hQ hy ha h
theorem dD (i n N m:Nat) {oi:Oper} {v:Value} {fuel:Nat} {l:Array Bool} {a a':Act} {w:World} (hS:S w) (h:fK P md ops Q S ds fuel (rE n m) a' w) (hi:ops[i]? =some oi:=by rfl) (hN:oi.dst=some N:=by rfl)
    (hc:Bk md ops ds l (rE n m) i=true:=by exact OH dN.1 hU.1 (by kernel_rfl)) (hQ: ∀c a w,Q (.panic c) (a.put oi.dst v) w→Q (.panic c) a w:=by exact fun _ _ _ h=>h)
    (hy:YieldsIf P ops S oi v a:=by refine Or.inl ⟨by rfl, ?_⟩;first|(rintro w' ⟨s0,s1⟩;go_simp;with_reducible rfl)|(rintro w' ⟨s0,s1,s2⟩;go_simp;with_reducible rfl)|(rintro w' ⟨s0,s1,s2,s3⟩;go_simp;with_reducible rfl)|(intro w' s0;go_simp;with_reducible rfl)) (ha:a.put (some N) v=a':=by simp only[Act.put,List.setIfInBounds_toArray,List.set_cons_zero,List.set_cons_succ,ez,fT];rfl):
    fK P md ops Q S ds (fuel+1) l a w:=tF (rE n m) hi hN hc hQ hy hS ha h
end
end
section
open Go.Proofs.YtkadhadceongiaaW.PrintWords Go.Proofs.YtkadhadceongiaaW.PrintLast
theorem abS {w W:World} {g:Nat} {row:Option Nat} (zi:aQ w W g row) {p:Addr} (KO:w.heap.size≤p.block) (xg:Value):aQ w (W.setCell p xg) g row:=abT zi KO xg
theorem abP {w W:World} {g j:Nat} {v:Value} (zi:Below w.heap.size w W) (U7:w.heap.size≤g):Below w.heap.size w (W.setCell ⟨g,j,none⟩ v):=jU zi U7
theorem bp {w W:World} {g:Nat} {row:Option Nat} (q:aQ w W g row:=by repeat (first|(with_reducible first|exact ak.out (by assumption)|apply aQ.Pz|apply abU|apply s9|apply abV|apply abS)|exact ak.out (by assumption))):aQ w W g row:=q
theorem m_ {p:Prop} (h:p):ak p:=⟨h⟩
theorem aX {w:World} {g:Nat} {t:TypeId} {v0:Value} {l:List Value} (h:w.heap[g]? =some (.cells (v0 :: l).toArray t (0,0))):w.cell? ⟨g,0,none⟩=some v0:=(fU h 0).trans rfl
theorem aZ {w:World} {g:Nat} {t:TypeId} {v0 v1:Value} {l:List Value} (h:w.heap[g]? =some (.cells (v0 :: v1 :: l).toArray t (0,0))):w.cell? ⟨g,1,none⟩=some v1:=(fU h 1).trans rfl
theorem Po {w:World} {g:Nat} {t:TypeId} {v0 v1 v2:Value} {l:List Value} (h:w.heap[g]? =some (.cells (v0 :: v1 :: v2 :: l).toArray t (0,0))):w.cell? ⟨g,2,none⟩=some v2:=(fU h 2).trans rfl
theorem adE {w:World} {g:Nat} {t:TypeId} {v0 v1 v2 v3:Value} {l:List Value} (h:w.heap[g]? =some (.cells (v0 :: v1 :: v2 :: v3 :: l).toArray t (0,0))):w.cell? ⟨g,3,none⟩=some v3:=(fU h 3).trans rfl
theorem aW {w W W':World} {g:Nat} {o:Obj} (h:w.heap[g]? =some o) (hb:Below W.heap.size W W') (q:Below w.heap.size w W:=by repeat (first|exact Below.refl _ _ |apply jC|apply lu|apply fE)):W'.heap[g]? =some o:=av (av h q) hb
section
variable {P:Program} {ops:Array Oper} {Q:Exit→Act→World→Prop}
theorem bz {rest:List Oper} {oi:Oper} {a:Act} {w:World} (N:Option Tmp) {f:FuncId} {fn:Func} {as:Array Operand} {ts:Array TypeId} (hf:P.funcs[f]? =some fn) (args:Array Value)
    (h:Calls P f args w fun e w'=>∃v,e= .returned v∧wpList P ops Q rest (a.put N v) w') (hd:oi.dst=N:=by rfl) (hg:oi.guard=none:=by rfl) (hname:(fn.name == "runtime.NumGoroutine")=false:=by kernel_rfl) (hb:fn.body.isSome=true:=by rfl)
    (hop:oi.op= .call {callee:= .value (.func f),args:=as,argTypes:=ts}:=by rfl) (hargs:as.map a.eval=args:=by(try simp only[List.map_toArray,List.map_cons,List.map_nil]);first|done|rfl|(simp only[List.length_drop,List.length_take];rfl)):wpList P ops Q (oi :: rest) a w:=AJ N hd hg hf hname hb args hop hargs h
theorem cC {rest:List Oper} {o:Oper} {a:Act} {W:World} {N:Tmp} {cs:Array Value} {t:TypeId}
    (h: ∀g,g=W.heap.size→∀w1,w1.heap[g]? =some (.cells cs t (0,0))→Below W.heap.size W w1→wpList P ops Q rest (a.put o.dst (.pointer (some ⟨g,0,none⟩))) w1) (hgd:o.guard=none:=by rfl) (hd:o.dst=some N:=by rfl)
    (hrun:(execOp a.eval o).run P W= .ok (.value (.pointer (some ⟨W.heap.size,0,none⟩))) (W.alloc (.cells cs t (0,0))):=by first|(go_simp;done)|(go_simp;rfl)):wpList P ops Q (o :: rest) a W:=abW hgd hd hrun h
end
section
variable {P:Program} {ops:Array Oper} {Q:Exit→Act→World→Prop} {md:Region.Mode} {S:World→Prop} {ds:List Nat}
theorem eZ (i n N m:Nat) {oi:Oper} {fuel:Nat} {l:Array Bool} {a a':Act} {w:World} (h:fK P md ops Q S ds fuel (rE n m) a' w) (hi:ops[i]? =some oi:=by rfl) (hN:oi.dst=some N:=by rfl)
    (hc:Bj md ops l (rE n m) i=true:=by exact Py dN.1 (by kernel_rfl)) (hQ: ∀c a w,Q (.panic c) (a.put oi.dst undef) w→Q (.panic c) a w:=by exact fun _ _ _ h=>h)
    (hy:Yields P ops oi undef a:=by exact Or.inr ⟨by rfl,rfl⟩) (ha:a.put (some N) undef=a':=by simp only[Act.put,List.setIfInBounds_toArray,List.set_cons_zero,List.set_cons_succ,ez,fT];rfl):
    fK P md ops Q S ds (fuel+1) l a w:=kM (rE n m) hi hN hc hQ hy ha h
theorem fZ (i n:Nat) (N:Option Tmp) (m:Nat) {oi:Oper} {fuel:Nat} {l:Array Bool} {a:Act} {w:World}
    (h: ∀K:Act→World→Prop,Shut (∀a' w',S w'→(S w'→fK P md ops Q S ds fuel (rE n m) a' w')→K a' w')→if Region.wanted oi (yielded ops a.tmps)=true then Oper.wp P oi a w K Q else K (a.put N undef) w) (hi:ops[i]? =some oi:=by rfl) (hN:oi.dst=N:=by rfl)
    (hc:zm md ops l (rE n m) i=true:=by exact sX dN.1 (by kernel_rfl)) (hd:i ∉ ds:=by decide):fK P md ops Q S ds (fuel+1) l a w:=rq (rE n m) hi hN hc hd h
end
section
variable {P:Program} {ops:Array Oper} {Q:Exit→Act→World→Prop} {md:Region.Mode} {S:World→Prop} {ds:List Nat}
theorem fj {fuel:Nat} {l:Array Bool} {a a':Act} {w:World} (h:fK P md ops Q S ds fuel l a' w) (ha:a=a':=by show Act.put _ (some _) _=_;simp only[Act.put,List.setIfInBounds_toArray,List.set_cons_zero,List.set_cons_succ,ez,fT];rfl):fK P md ops Q S ds fuel l a w:=PA ha h
theorem nj_ {fuel:Nat} {l:Array Bool} {a a':Act} {w:World} (h:fK P md ops Q S ds fuel l a' w) (ha:a=a':=by first|(simp only[KP,Act.put,List.setIfInBounds_toArray,List.set_cons_zero,List.set_cons_succ];done)|(simp only[KP,Act.put,List.setIfInBounds_toArray,List.set_cons_zero,List.set_cons_succ];rfl)):fK P md ops Q S ds fuel l a w:=PA ha h
end
theorem abX {w:World} {g:Nat} {t:TypeId} {cs:Array Value} (zi:w.heap[g]? =some (.cells cs t (0,0))) {p:Addr} (KO:g≠p.block) (xg:Value):(w.setCell p xg).heap[g]? =some (.cells cs t (0,0)):=iE zi KO xg
theorem lF {w:World} {g:Nat} {o:Obj} (q:w.heap[g]? =some o:=by repeat (first|(with_reducible first|exact ak.out (by assumption)|apply bY|apply bK|apply bR|apply abX)|exact ak.out (by assumption))):w.heap[g]? =some o:=q
end
theorem dz {α:Type} [BEq α] [LawfulBEq α] {a b:α} (h:a=b):(a == b)=true∧(a != b)=false:=⟨beq_iff_eq.mpr h,bne_eq_false_iff_eq.mpr h⟩
theorem dL {α:Type} [BEq α] [LawfulBEq α] {a b:α} (h: ¬a=b):(a == b)=false∧(a != b)=true:=⟨beq_eq_false_iff_ne.mpr h,bne_iff_ne.mpr h⟩
theorem aa {p:Prop} (h:p:=by omega):p:=h
theorem az {p:Prop} (h:p:=by decide):p:=h
theorem aU {p:Prop} (h:p:=by kernel_rfl):p:=h
theorem bJ {p:Prop} (h:p:=by simp):p:=h
universe u
theorem aV {p:Prop} [i:Decidable p] (h:p):decide p=true:=decide_eq_true h
theorem cz {p:Prop} [i:Decidable p] (h: ¬p):decide p=false:=decide_eq_false h
theorem aH {p:Prop} (h:p):p=True:=eq_true h
theorem aC {c:Prop} {h:Decidable c} (hc:c) {α:Sort u} {t e:α}:(ite c t e)=t:=if_pos hc
theorem aA {c:Prop} {h:Decidable c} (hnc: ¬c) {α:Sort u} {t e:α}:(ite c t e)=e:=if_neg hnc
end Go.Proofs.YtkadhadceongiaaW.PrintMore
