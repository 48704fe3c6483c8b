/- How a law's arguments are opened: a slice of whole numbers, a slice of such slices, a struct of a number and such a slice, and a struct of three with such a struct in front. -/
import Derived.Test.YtkadhadceongiaaWWords
import Derived.Deep.Matrix
import Derived.Deep.Strs
import Derived.Lib.SmallJoins
import Derived.OpenShut
namespace Go.Proofs.YtkadhadceongiaaW.PrintWords
open Go.ChangeShapes Go.WideShapes Go.RowKit Go.Deep Go.Joins
section
variable {H:Type} {enc:TypeId×Value→H} {P:Program} {w:World} {spare:Nat→Bool} {held:Bool}

theorem Qj {k:IntKind} {A:Option Addr} {n c:Nat} {zs:List Int} (hl:n≤c) (hm:c≤maxLen) (hz:zs.length=c) (hn:A=none→c=0) (hcell: ∀a,A=some a→∀i,i<c→w.cell? (a.add i)=some (.int k (zs.getD i 0))):
    Kd.C (Kd.int k) w A n (zs.take n):=by
  refine⟨by simp;omega,by unfold maxLen at hm;omega,fun h0=> ?_⟩;cases hA:A with
  | none=>have:=hn hA;omega
  | some a=>
    refine⟨a,rfl,fun j p hj=>⟨[.int k p],rfl,rfl,fun i u hu=> ?_⟩⟩;have hj':j<n:=by
      have:=(List.getElem?_eq_some_iff.1 hj).1;simp at this;omega
    have hp:zs.getD j 0=p:=by
      rw[List.getElem?_take_of_lt hj']at hj;rw[List.getD_eq_getElem?_getD,hj];rfl
    cases i with
    | zero=>
      simp at hu;subst hu;have:=hcell a hA j (by omega);rw[hp]at this
      simpa [Kd.int,Kd.scalar] using this
    | succ i=>simp at hu

theorem adp {t e:TypeId} {k:IntKind} {fuel:Nat} {cs:List Value} {x:DataW H×List MemPlace} (ht:P.underlying t=some (.slice e)) (he:P.underlying e=some (.int k)) (hc:P.cellsOf e=1)
    (h:DataW.trod enc P w 0 (fun _=>true) held fuel t cs=some x):
    ∃(A:Option Addr) (c:Nat) (l:List Int),cs= [.slice A l.length c]∧l.length≤c∧l.length≤maxLen∧Kd.C (Kd.int k) w A l.length l∧∀y∈l,(Lit.int k y).wf=true:=by
  rcases open_ints ht he hc h with ⟨hcs,_⟩|⟨a,l,c,zs,hcs,_,hl,hm,hz,_,hcell,hwz⟩
  · exact⟨none,0,[],by simpa using hcs,Nat.le_refl _,Nat.zero_le _,Kd.KX _ _,by simp⟩
  · have hz':zs.length=c:=by simpa using hz
    have hlen:(zs.take l).length=l:=by simp;omega
    refine⟨some a,c,zs.take l,by rw[hlen];exact hcs,by omega,by omega, ?_,fun y hy=>hwz y (List.mem_of_mem_take hy)⟩;have:=Qj (k:=k) (w:=w) (A:=some a) (n:=l) (c:=c) (zs:=zs) hl hm hz' (by simp) (fun a' e i hi=>by cases e;exact hcell i (by omega));rw[hlen];exact this

theorem Ly {t e q:TypeId} {k:IntKind} {fuel:Nat} {cs:List Value} {x:DataW H×List MemPlace} (ht:P.underlying t=some (.slice e)) (he:P.underlying e=some (.slice q)) (hq:P.underlying q=some (.int k)) (ce:P.cellsOf e=1) (cq:P.cellsOf q=1)
    (h:DataW.trod enc P w 0 (fun _=>true) held fuel t cs=some x):
    ∃(A:Option Addr) (c:Nat) (l:List (List Int)),cs= [.slice A l.length c]∧l.length≤c∧l.length≤maxLen∧Kd.C (Kd.slice q (Kd.int k)) w A l.length l∧∀r∈l,r.length≤maxLen∧∀y∈r,(Lit.int k y).wf=true:=by
  rcases open_int_rows ht he hq ce cq h with ⟨hcs,_⟩|⟨a,len,cap,A,L,C,Z,hcs,_,hl,hm,_,hr⟩
  · exact⟨none,0,[],by simpa using hcs,Nat.le_refl _,Nat.zero_le _,Kd.KX _ _,by simp⟩
  · have hlen:((List.range len).map fun r=>(Z r).take (L r)).length=len:=by simp
    have hrow: ∀r,r<cap→((Z r).take (L r)).length=L r:=fun r h=>by
      obtain⟨_,h1,_,h3,_⟩:=hr r h;simp;omega
    refine⟨some a,cap,(List.range len).map fun r=>(Z r).take (L r),by rw[hlen];exact hcs,by omega,by omega, ?_, ?_⟩
    · rw[hlen]
      refine⟨hlen,by unfold maxLen at hm;omega,fun h0=>⟨a,rfl,fun j p hj=> ?_⟩⟩;have hj':j<len:=by
        have:=(List.getElem?_eq_some_iff.1 hj).1;simp at this;omega
      have hp:p=(Z j).take (L j):=by
        rw[List.getElem?_map,List.getElem?_range hj']at hj
        simpa using hj.symm
      obtain⟨c0,h1,h2,h3,h4,h5,h6⟩:=hr j (by omega);refine⟨[.slice (A j) (L j) (C j)],rfl,⟨A j,C j,by rw[hp,hrow j (by omega)],by rw[hp,hrow j (by omega)];exact h1, ?_⟩,fun i u hu=> ?_⟩
      · rw[hp,hrow j (by omega)]
        exact Qj h1 h2 h3 h5 (fun a' e i hi=>(h6 a' e).2 i hi)
      · cases i with
        | zero=>
          simp at hu;subst hu
          simpa [Kd.slice] using c0
        | succ i=>simp at hu
    · intro r hr'
      obtain⟨j,hj,rfl⟩:=List.mem_map.1 hr';have hj':=List.mem_range.1 hj;obtain⟨_,h1,h2,_,h4,_⟩:=hr j (by omega);refine⟨by rw[hrow j (by omega)];omega,fun y hy=>h4 y (List.mem_of_mem_take hy)⟩

theorem Ql {r:Reach} {b0:Nat} {t e:TypeId} {k:IntKind} {v:Value} {d:DataW H} {p:List MemPlace} (ht:P.underlying t=some (.slice e)) (he:P.underlying e=some (.int k)) (hc:P.cellsOf e=1)
    (hv:Value.okWide P w r b0 t v) (h:DataW.Trod enc P w 0 (fun _=>true) held t v d p):
    ∃(A:Option Addr) (c:Nat) (l:List Int),v= .slice A l.length c∧l.length≤c∧l.length≤maxLen∧Kd.C (Kd.int k) w A l.length l∧∀y∈l,(Lit.int k y).wf=true:=by
  obtain⟨a,n,c,rfl⟩:=okWide_slice ht hv;obtain⟨fuel,hf⟩:=h;obtain⟨A,c',l,hcs,h1⟩:=adp ht he hc hf;exact⟨A,c',l,by simpa [Value.cells] using hcs,h1⟩

theorem adQ {r:Reach} {b0:Nat} {t e q:TypeId} {k:IntKind} {v:Value} {d:DataW H} {p:List MemPlace} (ht:P.underlying t=some (.slice e)) (he:P.underlying e=some (.slice q)) (hq:P.underlying q=some (.int k)) (ce:P.cellsOf e=1) (cq:P.cellsOf q=1)
    (hv:Value.okWide P w r b0 t v) (h:DataW.Trod enc P w 0 (fun _=>true) held t v d p):
    ∃(A:Option Addr) (c:Nat) (l:List (List Int)),v= .slice A l.length c∧l.length≤c∧l.length≤maxLen∧Kd.C (Kd.slice q (Kd.int k)) w A l.length l∧∀r∈l,r.length≤maxLen∧∀y∈r,(Lit.int k y).wf=true:=by
  obtain⟨a,n,c,rfl⟩:=okWide_slice ht hv;obtain⟨fuel,hf⟩:=h;obtain⟨A,c',l,hcs,h1⟩:=Ly ht he hq ce cq hf;exact⟨A,c',l,by simpa [Value.cells] using hcs,h1⟩

theorem Qk {t i e f q:TypeId} {f0 f1:Field} {fuel:Nat} {c0 c1:Value} {x:DataW H×List MemPlace} (hs:P.underlying t=some (.struct #[f0,f1])) (o0:f0.offset=0) (o1:f1.offset=1) (t0:f0.type=i) (t1:f1.type=e)
    (hi:P.underlying i=some (.int .i64)) (ci:P.cellsOf i=1) (he:P.underlying e=some (.slice f)) (hf:P.underlying f=some (.slice q)) (hq:P.underlying q=some (.int .i64)) (ce:P.cellsOf e=1) (cf:P.cellsOf f=1) (cq:P.cellsOf q=1)
    (h:DataW.trod enc P w 0 (fun _=>true) held fuel t [c0,c1]=some x):
    ∃(a:Int) (A:Option Addr) (c:Nat) (l:List (List Int)),c0= .int .i64 a∧c1= .slice A l.length c∧(Lit.int .i64 a).wf=true∧l.length≤c∧l.length≤maxLen∧Kd.C (Kd.slice q (Kd.int .i64)) w A l.length l∧∀r∈l,r.length≤maxLen∧∀y∈r,(Lit.int .i64 y).wf=true:=by
  obtain⟨y0,y1,n,_,_,h0,h1⟩:=trod_struct2 hs h;rw[o0,t0,ci]at h0;rw[o1,t1,ce]at h1;obtain⟨a,hc0,_,hw⟩:=DataW.trod_int hi h0;obtain⟨A,c,l,hcs,h2⟩:=Ly he hf hq cf cq h1;simp at hc0 hcs;exact⟨a,A,c,l,hc0,hcs,hw,h2⟩

theorem adR {r:Reach} {b0:Nat} {t i e f q:TypeId} {f0 f1:Field} {v:Value} {d:DataW H} {p:List MemPlace} (hs:P.underlying t=some (.struct #[f0,f1])) (ct:P.cellsOf t=2) (o0:f0.offset=0) (o1:f1.offset=1) (t0:f0.type=i) (t1:f1.type=e)
    (hi:P.underlying i=some (.int .i64)) (ci:P.cellsOf i=1) (he:P.underlying e=some (.slice f)) (hf:P.underlying f=some (.slice q)) (hq:P.underlying q=some (.int .i64)) (ce:P.cellsOf e=1) (cf:P.cellsOf f=1) (cq:P.cellsOf q=1)
    (hv:Value.okWide P w r b0 t v) (h:DataW.Trod enc P w 0 (fun _=>true) held t v d p):
    ∃(a:Int) (A:Option Addr) (c:Nat) (l:List (List Int)),v= .agg #[.int .i64 a, .slice A l.length c]∧(Lit.int .i64 a).wf=true∧l.length≤c∧l.length≤maxLen∧Kd.C (Kd.slice q (Kd.int .i64)) w A l.length l∧∀r∈l,r.length≤maxLen∧∀y∈r,(Lit.int .i64 y).wf=true:=by
  obtain⟨cs,rfl,hsz⟩:=okWide_struct hs hv;obtain⟨c0,c1,rfl⟩:=array2 (hsz.trans ct);obtain⟨fuel,hf'⟩:=h;obtain⟨a,A,c,l,rfl,rfl,h2⟩:=Qk hs o0 o1 t0 t1 hi ci he hf hq ce cf cq (by simpa [Value.cells] using hf');exact⟨a,A,c,l,rfl,h2⟩

theorem adS {r:Reach} {b0:Nat} {t tg i e f q:TypeId} {f0 f1:Field} {g0 g1 g2:Field} {v:Value} {d:DataW H} {p:List MemPlace} (hg:P.underlying t=some (.struct #[g0,g1,g2])) (cg:P.cellsOf t=4) (p0:g0.offset=0) (p1:g1.offset=2) (p2:g2.offset=3) (s0:g0.type=tg) (s1:g1.type=i) (s2:g2.type=e)
    (hs:P.underlying tg=some (.struct #[f0,f1])) (ct:P.cellsOf tg=2) (o0:f0.offset=0) (o1:f1.offset=1) (t0:f0.type=i) (t1:f1.type=e)
    (hi:P.underlying i=some (.int .i64)) (ci:P.cellsOf i=1) (he:P.underlying e=some (.slice f)) (hf:P.underlying f=some (.slice q)) (hq:P.underlying q=some (.int .i64)) (ce:P.cellsOf e=1) (cf:P.cellsOf f=1) (cq:P.cellsOf q=1)
    (hv:Value.okWide P w r b0 t v) (h:DataW.Trod enc P w 0 (fun _=>true) held t v d p):
    ∃(a:Int) (A:Option Addr) (c:Nat) (l:List (List Int)) (a':Int) (A':Option Addr) (c':Nat) (l':List (List Int)),v= .agg #[.int .i64 a, .slice A l.length c, .int .i64 a', .slice A' l'.length c']∧
      ((Lit.int .i64 a).wf=true∧l.length≤c∧l.length≤maxLen∧Kd.C (Kd.slice q (Kd.int .i64)) w A l.length l∧∀r∈l,r.length≤maxLen∧∀y∈r,(Lit.int .i64 y).wf=true)∧
      (Lit.int .i64 a').wf=true∧l'.length≤c'∧l'.length≤maxLen∧Kd.C (Kd.slice q (Kd.int .i64)) w A' l'.length l'∧∀r∈l',r.length≤maxLen∧∀y∈r,(Lit.int .i64 y).wf=true:=by
  obtain⟨cs,rfl,hsz⟩:=okWide_struct hg hv;obtain⟨c0,c1,c2,c3,rfl⟩:=array4 (hsz.trans cg);obtain⟨fuel,hf'⟩:=h;obtain⟨y0,y1,y2,n,_,_,h0,h1,h2⟩:=trod_struct3 hg hf';rw[p0,s0,ct]at h0;rw[p1,s1,ci]at h1;rw[p2,s2,ce]at h2;obtain⟨a,A,c,l,rfl,rfl,hG⟩:=Qk hs o0 o1 t0 t1 hi ci he hf hq ce cf cq (by simpa [Value.cells] using h0);obtain⟨a',hc0,_,hw⟩:=DataW.trod_int hi h1;obtain⟨A',c',l',hcs,h3⟩:=Ly he hf hq cf cq h2;simp[Value.cells]at hc0 hcs;subst hc0 hcs;exact⟨a,A,c,l,a',A',c',l',rfl,hG,hw,h3⟩
end
end Go.Proofs.YtkadhadceongiaaW.PrintWords
