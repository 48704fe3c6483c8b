/- Words of the kit's print, only those that this claim uses. -/
import Derived.Test.YtkadhadceongiaaWLast
import Derived.Test.YtkadhadceongiaaWWords
namespace Go.Proofs.YtkadhadceongiaaW.PrintLast
open Go.Proofs.YtkadhadceongiaaW.PrintWords (au)
def AV (md:Region.Mode) (o:Oper):List Nat:=(o.after.toList.filter (fun e=>Region.binds md e)).map (fun e=>e.on)
def KQ (md:Region.Mode) (ops:Array Oper) (i:Nat) (oi:Oper):List Nat:=(List.range ops.size).filter fun j=> !(j == i) && match ops[j]? with
  | some oj=> !(oj.after.any (fun e=>Region.binds md e && e.on == i) || oi.apart ops oj)
  | none=>false

def gC (md:Region.Mode) (ops:Array Oper):Bool×List (List Nat×List Nat):=(Region.noSelect ops,(List.range ops.size).map fun i=>match ops[i]? with
  | some o=>(AV md o,KQ md ops i o)
  | none=>([],[]))
def wT (T:List (List Nat×List Nat)) (l:List Bool) (i:Nat):Bool:= !l.getD i true && match T[i]? with
  | some r=>r.1.all (fun j=>l.getD j false)
  | none=>false
def y7 (T:List (List Nat×List Nat)) (l:List Bool):List Nat:=(List.range T.length).filter (wT T l)
def DL (T:List (List Nat×List Nat)) (l:List Bool) (i:Nat):Bool:=match T[i]? with
  | some r=>r.2.all (fun j=>l.getD j true)
  | none=>false
def F5 (T:List (List Nat×List Nat)) (l:List Bool):Bool:=(List.range T.length).all fun j=> !l.getD j false || match T[j]? with
  | some r=>r.1.all (fun k=>l.getD k false)
  | none=>true
def AW (T:List (List Nat×List Nat)) (i:Nat):Nat→Nat→Bool
  | 0,_=>false
  | fuel+1,d=>match T[d]? with
    | some r=>r.1.any fun j=>j == i || AW T i fuel j
    | none=>false
def F6 (T:List (List Nat×List Nat)) (l:List Bool) (ds:List Nat) (i:Nat):Bool:=ds.all fun d=>l.getD d true || AW T i T.length d
section
variable {md:Region.Mode} {ops:Array Oper} {T:Bool×List (List Nat×List Nat)} {l l' li lj lk:Array Bool} {ds:List Nat} {i j k:Nat}
theorem gd (l:Array Bool) (j:Nat) (b:Bool):l.getD j b=l.toList.getD j b:=by simp[Array.getD_eq_getD_getElem?,List.getD_eq_getElem?_getD]
theorem Qv (o:Oper) (p:Nat→Bool):o.after.all (fun e=> !Region.binds md e || p e.on)=(AV md o).all p:=by
  unfold AV;rw[← Array.all_toList]
  induction o.after.toList with
  | nil=>rfl
  | cons e r ih=>
    rw[List.all_cons,ih,List.filter_cons];cases h:Region.binds md e<;>simp
theorem aeK (o:Oper) (p:Nat→Bool):o.after.any (fun e=>Region.binds md e && p e.on)=(AV md o).any p:=by
  unfold AV;rw[← Array.any_toList]
  induction o.after.toList with
  | nil=>rfl
  | cons e r ih=>
    rw[List.any_cons,ih,List.filter_cons];cases h:Region.binds md e<;>simp
theorem F7:(gC md ops).2.length=ops.size:=by simp[gC]
theorem F8 {o:Oper} (h:ops[i]? =some o):(gC md ops).2[i]? =some (AV md o,KQ md ops i o):=by
  have hi:=(Array.getElem?_eq_some_iff.1 h).1;unfold gC;rw[List.getElem?_map,List.getElem?_range hi,Option.map_some,h]
theorem F9 (h:ops[i]? =none):(gC md ops).2[i]? =none:=by
  have hi:ops.size≤i:=Array.getElem?_eq_none_iff.1 h;exact List.getElem?_eq_none (by rw[F7];exact hi)
theorem aeL:wT (gC md ops).2 l.toList i=(!l.getD i true && ((ops[i]?).map (·.after.all fun e=> !Region.binds md e || l.getD e.on false)).getD false):=by
  unfold wT;rw[gd];cases h:ops[i]? with
  | none=>rw[F9 h];rfl
  | some o=>
    rw[F8 h];simp only[Option.map_some,Option.getD_some];rw[← Qv];simp only[gd]
theorem DM:Region.ready md ops l=y7 (gC md ops).2 l.toList:=by
  unfold Region.ready y7;rw[F7];refine List.filter_congr (fun i _=> ?_);rw[aeL]
theorem Qw:Region.free md ops l i=DL (gC md ops).2 l.toList i:=by
  unfold Region.free DL;cases h:ops[i]? with
  | none=>rw[F9 h]
  | some oi=>
    rw[F8 h];simp only[KQ];rw[List.all_filter]
    congr 1
    funext j
    rw[gd];cases hj:ops[j]? with
    | none=>cases (j == i)<;>cases (l.toList.getD j true)<;>simp
    | some oj=>
      cases (j == i)<;>cases (l.toList.getD j true)<;>cases (oj.after.any (fun e=>Region.binds md e && e.on == i) || oi.apart ops oj)<;>simp_all
theorem aeM:Region.DE md ops l=F5 (gC md ops).2 l.toList:=by
  unfold Region.DE F5;rw[F7]
  congr 1
  funext j
  rw[gd];cases h:ops[j]? with
  | none=>rw[F9 h]
  | some o=>
    rw[F8 h];simp only;rw[← Qv];simp only[gd]
theorem Qx: ∀(fuel d:Nat),Region.rz md ops i fuel d=AW (gC md ops).2 i fuel d
  | 0,_=>rfl
  | fuel+1,d=>by
    unfold Region.rz AW;cases h:ops[d]? with
    | none=>rw[F9 h]
    | some o=>
      rw[F8 h];simp only;rw[← aeK]
      congr 1
      funext e
      rw[Qx fuel]
theorem aeN:Region.FT md ops l ds i=F6 (gC md ops).2 l.toList ds i:=by
  unfold Region.FT F6;rw[F7]
  congr 1
  funext d
  rw[gd,Qx]
theorem Qy (h:wT T.2 l.toList i=true) (hT:gC md ops=T):(Region.ready md ops l).contains i=true:=by
  subst hT;rw[DM];unfold y7;rw[List.contains_iff_mem,List.mem_filter,List.mem_range];refine⟨?_,h⟩;unfold wT at h;rw[Bool.and_eq_true]at h;cases hq:(gC md ops).2[i]? with
  | none=>rw[hq]at h;simp at h
  | some r=>exact(List.getElem?_eq_some_iff.1 hq).1
theorem wU (h:(l.toList.set i true == l'.toList)=true):(l.setIfInBounds i true == l')=true:=by
  rw[beq_iff_eq]at h ⊢;apply Array.ext';rw[Array.toList_setIfInBounds];exact h
def Qz (T:Bool×List (List Nat×List Nat)) (l l':List Bool) (i:Nat):Bool:=T.1 && DL T.2 l i && wT T.2 l i && (l.set i true == l')

theorem P4 (hT:gC md ops=T) (h:Qz T l.toList l'.toList i=true):AL md ops l l' i=true:=by
  simp only[Qz,Bool.and_eq_true]at h;obtain⟨⟨⟨h1,h2⟩,h3⟩,h4⟩:=h;have h5:=Qy h3 hT;have h6:=wU h4;subst hT;simp only[AL,Bool.and_eq_true];exact⟨⟨⟨h1,by rw[Qw];exact h2⟩,h5⟩,h6⟩
def KR (T:Bool×List (List Nat×List Nat)) (ds:List Nat) (l l':List Bool) (i:Nat):Bool:=T.1 && DL T.2 l i && wT T.2 l i && F5 T.2 l && F6 T.2 l ds i && (l.set i true == l')

theorem aeO (hT:gC md ops=T) (h:KR T ds l.toList l'.toList i=true):AO md ops ds l l' i=true:=by
  simp only[KR,Bool.and_eq_true]at h;obtain⟨⟨⟨⟨⟨h1,h2⟩,h3⟩,h4⟩,h5⟩,h6⟩:=h;have h7:=Qy h3 hT;have h8:=wU h6;subst hT;simp only[AO,Bool.and_eq_true];exact⟨⟨⟨⟨⟨h1,by rw[Qw];exact h2⟩,h7⟩,by rw[aeM];exact h4⟩,by rw[aeN];exact h5⟩,h8⟩

theorem tV (hT:gC md ops=T) (h:(y7 T.2 l.toList == [i] && l.toList.set i true == l'.toList)=true):yZ md ops l l' i=true:=by
  simp only[Bool.and_eq_true]at h;obtain⟨h1,h2⟩:=h;subst hT;simp only[yZ,Bool.and_eq_true];exact⟨by rw[DM];exact h1,wU h2⟩
theorem zL (hT:gC md ops=T) (h:(y7 T.2 l.toList == [i,j] && l.toList.set i true == li.toList && l.toList.set j true == lj.toList)=true):(Region.ready md ops l == [i,j] && l.setIfInBounds i true == li && l.setIfInBounds j true == lj)=true:=by
  simp only[Bool.and_eq_true]at h ⊢;obtain⟨⟨h1,h2⟩,h3⟩:=h;subst hT;exact⟨⟨by rw[DM];exact h1,wU h2⟩,wU h3⟩
theorem acM (hT:gC md ops=T) (h:(y7 T.2 l.toList == [i,j,k] && l.toList.set i true == li.toList && l.toList.set j true == lj.toList && l.toList.set k true == lk.toList)=true):
    (Region.ready md ops l == [i,j,k] && l.setIfInBounds i true == li && l.setIfInBounds j true == lj && l.setIfInBounds k true == lk)=true:=by
  simp only[Bool.and_eq_true]at h ⊢;obtain⟨⟨⟨h1,h2⟩,h3⟩,h4⟩:=h;subst hT;exact⟨⟨⟨by rw[DM];exact h1,wU h2⟩,wU h3⟩,wU h4⟩

theorem jC (hT:gC md ops=T) (h:(y7 T.2 l.toList == [])=true):(Region.ready md ops l == [])=true:=by
  subst hT;rw[DM];exact h

def y8 (B:List Nat) (d:Nat):List Nat→Nat
  | []=>0
  | n :: r=>(2 ^ n ||| (if n<d then B.getD n 0 else 0)) ||| y8 B d r
def kY (T:List (List Nat×List Nat)) (B:List Nat):Bool:=(List.range T.length).all fun d=>match T[d]? with
  | some r=>(B.getD d 0 ||| y8 B d r.1) == y8 B d r.1
  | none=>false
theorem QA {B:List Nat} {d i:Nat}: ∀{ns:List Nat},(y8 B d ns).testBit i=true→∃n∈ns,n=i∨(n<d∧(B.getD n 0).testBit i=true)
  | [],h=>by simp[y8]at h
  | n :: r,h=>by
    unfold y8 at h;rw[Nat.testBit_or,Nat.testBit_or,Bool.or_eq_true,Bool.or_eq_true]at h;rcases h with (h|h)|h
    · rw[Nat.testBit_two_pow]at h
      exact⟨n,List.mem_cons_self, .inl (by simpa using h)⟩
    · by_cases hn:n<d
      · rw[if_pos hn]at h
        exact⟨n,List.mem_cons_self, .inr ⟨hn,h⟩⟩
      · rw[if_neg hn]at h
        simp at h
    · obtain⟨m,hm,h2⟩:=QA h
      exact⟨m,List.mem_cons_of_mem _ hm,h2⟩
theorem QB {T:List (List Nat×List Nat)} {B:List Nat} (hB:kY T B=true): ∀(fuel d:Nat),d<fuel→d<T.length→(B.getD d 0).testBit i=true→AW T i fuel d=true
  | 0,d,h,_,_=>by omega
  | fuel+1,d,h,hd,hb=>by
    have h1:=List.all_eq_true.1 hB d (List.mem_range.2 hd);cases hr:T[d]? with
    | none=>rw[hr]at h1;simp at h1
    | some r=>
      rw[hr]at h1;simp only[beq_iff_eq]at h1;have h2:(y8 B d r.1).testBit i=true:=by rw[← h1,Nat.testBit_or,hb,Bool.true_or]
      obtain⟨n,hn,h3⟩:=QA h2;unfold AW;rw[hr];simp only;rw[List.any_eq_true];refine⟨n,hn, ?_⟩;rcases h3 with rfl|⟨h4,h5⟩
      · simp
      · rw[QB hB fuel n (by omega) (by omega) h5,Bool.or_true]
def QC (T:List (List Nat×List Nat)) (B:List Nat) (l:List Bool) (ds:List Nat) (i:Nat):Bool:=ds.all fun d=>l.getD d true || (decide (d<T.length) && (B.getD d 0).testBit i)
def QD (T:Bool×List (List Nat×List Nat)) (B:List Nat) (ds:List Nat) (l l':List Bool) (i:Nat):Bool:=T.1 && DL T.2 l i && wT T.2 l i && F5 T.2 l && QC T.2 B l ds i && (l.set i true == l')

theorem adv {B:List Nat} (hT:gC md ops=T) (hB:kY T.2 B=true) (h:QD T B ds l.toList l'.toList i=true):AO md ops ds l l' i=true:=by
  refine aeO hT ?_;simp only[QD,KR,Bool.and_eq_true]at h ⊢;obtain⟨⟨⟨⟨⟨h1,h2⟩,h3⟩,h4⟩,h5⟩,h6⟩:=h;refine⟨⟨⟨⟨⟨h1,h2⟩,h3⟩,h4⟩, ?_⟩,h6⟩;unfold QC at h5;unfold F6;rw[List.all_eq_true]at h5 ⊢;intro d hd;have h7:=h5 d hd;rw[Bool.or_eq_true,Bool.and_eq_true,decide_eq_true_eq]at h7;rcases h7 with h7|⟨h8,h9⟩
  · rw[h7,Bool.true_or]
  · rw[QB hB _ d h8 h8 h9,Bool.or_true]
theorem jU {P:Program} {Q:Exit→Act→World→Prop} {S:World→Prop} {n:Nat} {a:Act} {w:World} {B:List Nat} (hT:gC md ops=T) (hB:kY T.2 B=true) (h:au (gC md ops=T)→au (kY T.2 B=true)→fo P md ops Q S ds n l a w):fo P md ops Q S ds n l a w:=h ⟨hT⟩ ⟨hB⟩
end

def tq:Code→Nat→Option (Array Oper)
  | .region id ops _,k=>if id == k then some ops else none
  | .seq a b,k=>match tq a k with
    | some o=>some o
    | none=>tq b k
  | .cond _ a b,k=>match tq a k with
    | some o=>some o
    | none=>tq b k
  | .block _ c,k=>tq c k
  | .loop c,k=>tq c k
  | .scope c,k=>tq c k
  | .rangeFunc _ _ a b,k=>match tq a k with
    | some o=>some o
    | none=>tq b k
  | _,_=>none
def opsOf (f:Func) (k:Nat):Array Oper:=((f.body.bind fun c=>tq c k)).getD #[]
end Go.Proofs.YtkadhadceongiaaW.PrintLast
