/- Words of the kit's print, only those that this claim uses. -/
import Derived.Test.YtkadhadceongiaaWLast
import Derived.Test.YtkadhadceongiaaWWords
namespace Go.Proofs.YtkadhadceongiaaW.PrintLast
open Go.Proofs.YtkadhadceongiaaW.PrintWords (ak)
def Br (md:Region.Mode) (o:Oper):List Nat:=(o.after.toList.filter (fun e=>Region.binds md e)).map (fun e=>e.on)
def Lr (md:Region.Mode) (ops:Array Oper) (i:Nat) (oi:Oper):List Nat:=(List.range ops.size).filter fun j=> !(j == i) && match ops[j]? with
  | some oj=> !(oj.after.any (fun e=>Region.binds md e && e.on == i) || oi.apart ops oj)
  | none=>false

def e7 (md:Region.Mode) (ops:Array Oper):Bool×List (List Nat×List Nat):=(Region.noSelect ops,(List.range ops.size).map fun i=>match ops[i]? with
  | some o=>(Br md o,Lr md ops i o)
  | none=>([],[]))
def tX (T:List (List Nat×List Nat)) (l:List Bool) (i:Nat):Bool:= !l.getD i true && match T[i]? with
  | some r=>r.1.all (fun j=>l.getD j false)
  | none=>false
def zq (T:List (List Nat×List Nat)) (l:List Bool):List Nat:=(List.range T.length).filter (tX T l)
def Ey (T:List (List Nat×List Nat)) (l:List Bool) (i:Nat):Bool:=match T[i]? with
  | some r=>r.2.all (fun j=>l.getD j true)
  | none=>false
def Gk (T:List (List Nat×List Nat)) (l:List Bool):Bool:=(List.range T.length).all fun j=> !l.getD j false || match T[j]? with
  | some r=>r.1.all (fun k=>l.getD k false)
  | none=>true
def Bt (T:List (List Nat×List Nat)) (i:Nat):Nat→Nat→Bool
  | 0,_=>false
  | fuel+1,d=>match T[d]? with
    | some r=>r.1.any fun j=>j == i || Bt T i fuel j
    | none=>false
def Gl (T:List (List Nat×List Nat)) (l:List Bool) (ds:List Nat) (i:Nat):Bool:=ds.all fun d=>l.getD d true || Bt T i T.length d
section
variable {md:Region.Mode} {ops:Array Oper} {T:Bool×List (List Nat×List Nat)} {l l' li lj lk:Array Bool} {ds:List Nat} {i j k:Nat}
theorem gd (l:Array Bool) (j:Nat) (b:Bool):l.getD j b=l.toList.getD j b:=by simp[Array.getD_eq_getD_getElem?,List.getD_eq_getElem?_getD]
theorem P6 (o:Oper) (p:Nat→Bool):o.after.all (fun e=> !Region.binds md e || p e.on)=(Br md o).all p:=by
  unfold Br;rw[← Array.all_toList]
  induction o.after.toList with
  | nil=>rfl
  | cons e r ih=>
    rw[List.all_cons,ih,List.filter_cons];cases h:Region.binds md e<;>simp
theorem ade (o:Oper) (p:Nat→Bool):o.after.any (fun e=>Region.binds md e && p e.on)=(Br md o).any p:=by
  unfold Br;rw[← Array.any_toList]
  induction o.after.toList with
  | nil=>rfl
  | cons e r ih=>
    rw[List.any_cons,ih,List.filter_cons];cases h:Region.binds md e<;>simp
theorem Gm:(e7 md ops).2.length=ops.size:=by simp[e7]
theorem Gn {o:Oper} (h:ops[i]? =some o):(e7 md ops).2[i]? =some (Br md o,Lr md ops i o):=by
  have hi:=(Array.getElem?_eq_some_iff.1 h).1;unfold e7;rw[List.getElem?_map,List.getElem?_range hi,Option.map_some,h]
theorem Gp (h:ops[i]? =none):(e7 md ops).2[i]? =none:=by
  have hi:ops.size≤i:=Array.getElem?_eq_none_iff.1 h;exact List.getElem?_eq_none (by rw[Gm];exact hi)
theorem adf:tX (e7 md ops).2 l.toList i=(!l.getD i true && ((ops[i]?).map (·.after.all fun e=> !Region.binds md e || l.getD e.on false)).getD false):=by
  unfold tX;rw[gd];cases h:ops[i]? with
  | none=>rw[Gp h];rfl
  | some o=>
    rw[Gn h];simp only[Option.map_some,Option.getD_some];rw[← P6];simp only[gd]
theorem Ez:Region.ready md ops l=zq (e7 md ops).2 l.toList:=by
  unfold Region.ready zq;rw[Gm];refine List.filter_congr (fun i _=> ?_);rw[adf]
theorem P7:Region.free md ops l i=Ey (e7 md ops).2 l.toList i:=by
  unfold Region.free Ey;cases h:ops[i]? with
  | none=>rw[Gp h]
  | some oi=>
    rw[Gn h];simp only[Lr];rw[List.all_filter]
    congr 1
    funext j
    rw[gd];cases hj:ops[j]? with
    | none=>cases (j == i)<;>cases (l.toList.getD j true)<;>simp
    | some oj=>
      cases (j == i)<;>cases (l.toList.getD j true)<;>cases (oj.after.any (fun e=>Region.binds md e && e.on == i) || oi.apart ops oj)<;>simp_all
theorem adg:Region.Ek md ops l=Gk (e7 md ops).2 l.toList:=by
  unfold Region.Ek Gk;rw[Gm]
  congr 1
  funext j
  rw[gd];cases h:ops[j]? with
  | none=>rw[Gp h]
  | some o=>
    rw[Gn h];simp only;rw[← P6];simp only[gd]
theorem P8: ∀(fuel d:Nat),Region.rF md ops i fuel d=Bt (e7 md ops).2 i fuel d
  | 0,_=>rfl
  | fuel+1,d=>by
    unfold Region.rF Bt;cases h:ops[d]? with
    | none=>rw[Gp h]
    | some o=>
      rw[Gn h];simp only;rw[← ade]
      congr 1
      funext e
      rw[P8 fuel]
theorem adh:Region.F7 md ops l ds i=Gl (e7 md ops).2 l.toList ds i:=by
  unfold Region.F7 Gl;rw[Gm]
  congr 1
  funext d
  rw[gd,P8]
theorem P9 (h:tX T.2 l.toList i=true) (hT:e7 md ops=T):(Region.ready md ops l).contains i=true:=by
  subst hT;rw[Ez];unfold zq;rw[List.contains_iff_mem,List.mem_filter,List.mem_range];refine⟨?_,h⟩;unfold tX at h;rw[Bool.and_eq_true]at h;cases hq:(e7 md ops).2[i]? with
  | none=>rw[hq]at h;simp at h
  | some r=>exact(List.getElem?_eq_some_iff.1 hq).1
theorem Ls (h:(l.toList.set i true == l'.toList)=true):(l.setIfInBounds i true == l')=true:=by
  rw[beq_iff_eq]at h ⊢;apply Array.ext';rw[Array.toList_setIfInBounds];exact h
def Qa (T:Bool×List (List Nat×List Nat)) (l l':List Bool) (i:Nat):Bool:=T.1 && Ey T.2 l i && tX T.2 l i && (l.set i true == l')

theorem Py (hT:e7 md ops=T) (h:Qa T l.toList l'.toList i=true):Bj md ops l l' i=true:=by
  simp only[Qa,Bool.and_eq_true]at h;obtain⟨⟨⟨h1,h2⟩,h3⟩,h4⟩:=h;have h5:=P9 h3 hT;have h6:=Ls h4;subst hT;simp only[Bj,Bool.and_eq_true];exact⟨⟨⟨h1,by rw[P7];exact h2⟩,h5⟩,h6⟩
def Lt (T:Bool×List (List Nat×List Nat)) (ds:List Nat) (l l':List Bool) (i:Nat):Bool:=T.1 && Ey T.2 l i && tX T.2 l i && Gk T.2 l && Gl T.2 l ds i && (l.set i true == l')

theorem adi (hT:e7 md ops=T) (h:Lt T ds l.toList l'.toList i=true):Bk md ops ds l l' i=true:=by
  simp only[Lt,Bool.and_eq_true]at h;obtain⟨⟨⟨⟨⟨h1,h2⟩,h3⟩,h4⟩,h5⟩,h6⟩:=h;have h7:=P9 h3 hT;have h8:=Ls h6;subst hT;simp only[Bk,Bool.and_eq_true];exact⟨⟨⟨⟨⟨h1,by rw[P7];exact h2⟩,h7⟩,by rw[adg];exact h4⟩,by rw[adh];exact h5⟩,h8⟩

theorem sX (hT:e7 md ops=T) (h:(zq T.2 l.toList == [i] && l.toList.set i true == l'.toList)=true):zm md ops l l' i=true:=by
  simp only[Bool.and_eq_true]at h;obtain⟨h1,h2⟩:=h;subst hT;simp only[zm,Bool.and_eq_true];exact⟨by rw[Ez];exact h1,Ls h2⟩

theorem iX (hT:e7 md ops=T) (h:(zq T.2 l.toList == [])=true):(Region.ready md ops l == [])=true:=by
  subst hT;rw[Ez];exact h

def rI (B:List Nat) (d:Nat):List Nat→Nat
  | []=>0
  | n :: r=>(2 ^ n ||| (if n<d then B.getD n 0 else 0)) ||| rI B d r
def iV (T:List (List Nat×List Nat)) (B:List Nat):Bool:=(List.range T.length).all fun d=>match T[d]? with
  | some r=>(B.getD d 0 ||| rI B d r.1) == rI B d r.1
  | none=>false
theorem zu {B:List Nat} {d i:Nat}: ∀{ns:List Nat},(rI B d ns).testBit i=true→∃n∈ns,n=i∨(n<d∧(B.getD n 0).testBit i=true)
  | [],h=>by simp[rI]at h
  | n :: r,h=>by
    unfold rI at h;rw[Nat.testBit_or,Nat.testBit_or,Bool.or_eq_true,Bool.or_eq_true]at h;rcases h with (h|h)|h
    · rw[Nat.testBit_two_pow]at h
      exact⟨n,List.mem_cons_self, .inl (by simpa using h)⟩
    · by_cases hn:n<d
      · rw[if_pos hn]at h
        exact⟨n,List.mem_cons_self, .inr ⟨hn,h⟩⟩
      · rw[if_neg hn]at h
        simp at h
    · obtain⟨m,hm,h2⟩:=zu h
      exact⟨m,List.mem_cons_of_mem _ hm,h2⟩
theorem Qb {T:List (List Nat×List Nat)} {B:List Nat} (hB:iV T B=true): ∀(fuel d:Nat),d<fuel→d<T.length→(B.getD d 0).testBit i=true→Bt T i fuel d=true
  | 0,d,h,_,_=>by omega
  | fuel+1,d,h,hd,hb=>by
    have h1:=List.all_eq_true.1 hB d (List.mem_range.2 hd);cases hr:T[d]? with
    | none=>rw[hr]at h1;simp at h1
    | some r=>
      rw[hr]at h1;simp only[beq_iff_eq]at h1;have h2:(rI B d r.1).testBit i=true:=by rw[← h1,Nat.testBit_or,hb,Bool.true_or]
      obtain⟨n,hn,h3⟩:=zu h2;unfold Bt;rw[hr];simp only;rw[List.any_eq_true];refine⟨n,hn, ?_⟩;rcases h3 with rfl|⟨h4,h5⟩
      · simp
      · rw[Qb hB fuel n (by omega) (by omega) h5,Bool.or_true]
def Qc (T:List (List Nat×List Nat)) (B:List Nat) (l:List Bool) (ds:List Nat) (i:Nat):Bool:=ds.all fun d=>l.getD d true || (decide (d<T.length) && (B.getD d 0).testBit i)
def Qd (T:Bool×List (List Nat×List Nat)) (B:List Nat) (ds:List Nat) (l l':List Bool) (i:Nat):Bool:=T.1 && Ey T.2 l i && tX T.2 l i && Gk T.2 l && Qc T.2 B l ds i && (l.set i true == l')

theorem OH {B:List Nat} (hT:e7 md ops=T) (hB:iV T.2 B=true) (h:Qd T B ds l.toList l'.toList i=true):Bk md ops ds l l' i=true:=by
  refine adi hT ?_;simp only[Qd,Lt,Bool.and_eq_true]at h ⊢;obtain⟨⟨⟨⟨⟨h1,h2⟩,h3⟩,h4⟩,h5⟩,h6⟩:=h;refine⟨⟨⟨⟨⟨h1,h2⟩,h3⟩,h4⟩, ?_⟩,h6⟩;unfold Qc at h5;unfold Gl;rw[List.all_eq_true]at h5 ⊢;intro d hd;have h7:=h5 d hd;rw[Bool.or_eq_true,Bool.and_eq_true,decide_eq_true_eq]at h7;rcases h7 with h7|⟨h8,h9⟩
  · rw[h7,Bool.true_or]
  · rw[Qb hB _ d h8 h8 h9,Bool.or_true]
theorem iW {P:Program} {Q:Exit→Act→World→Prop} {S:World→Prop} {n:Nat} {a:Act} {w:World} {B:List Nat} (hT:e7 md ops=T) (hB:iV T.2 B=true) (h:ak (e7 md ops=T)→ak (iV T.2 B=true)→fK P md ops Q S ds n l a w):fK P md ops Q S ds n l a w:=h ⟨hT⟩ ⟨hB⟩
end

def tY:Code→Nat→Option (Array Oper)
  | .region id ops _,k=>if id == k then some ops else none
  | .seq a b,k=>match tY a k with
    | some o=>some o
    | none=>tY b k
  | .cond _ a b,k=>match tY a k with
    | some o=>some o
    | none=>tY b k
  | .block _ c,k=>tY c k
  | .loop c,k=>tY c k
  | .scope c,k=>tY c k
  | .rangeFunc _ _ a b,k=>match tY a k with
    | some o=>some o
    | none=>tY b k
  | _,_=>none
def opsOf (f:Func) (k:Nat):Array Oper:=((f.body.bind fun c=>tY c k)).getD #[]
end Go.Proofs.YtkadhadceongiaaW.PrintLast
