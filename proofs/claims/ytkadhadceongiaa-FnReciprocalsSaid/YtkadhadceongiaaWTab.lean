/- Words of the kit's print, only those that this claim uses. -/
import Derived.Test.YtkadhadceongiaaWLast
import Derived.Test.YtkadhadceongiaaWWords
namespace Go.Proofs.YtkadhadceongiaaW.PrintLast
open Go.Proofs.YtkadhadceongiaaW.PrintWords (ah)
def xT (md:Region.Mode) (o:Oper):List Nat:=(o.after.toList.filter (fun e=>Region.binds md e)).map (fun e=>e.on)
def Gm (md:Region.Mode) (ops:Array Oper) (i:Nat) (oi:Oper):List Nat:=(List.range ops.size).filter fun j=> !(j == i) && match ops[j]? with
  | some oj=> !(oj.after.any (fun e=>Region.binds md e && e.on == i) || oi.apart ops oj)
  | none=>false
/-- No select in it; for each operation: what must have come up before it, and what may not come up behind it if it is taken first. -/
def gG (md:Region.Mode) (ops:Array Oper):Bool×List (List Nat×List Nat):=(Region.noSelect ops,(List.range ops.size).map fun i=>match ops[i]? with
  | some o=>(xT md o,Gm md ops i o)
  | none=>([],[]))
def tG (T:List (List Nat×List Nat)) (l:List Bool) (i:Nat):Bool:= !l.getD i true && match T[i]? with
  | some r=>r.1.all (fun j=>l.getD j false)
  | none=>false
def Ai (T:List (List Nat×List Nat)) (l:List Bool):List Nat:=(List.range T.length).filter (tG T l)
def Aj (T:List (List Nat×List Nat)) (l:List Bool) (i:Nat):Bool:=match T[i]? with
  | some r=>r.2.all (fun j=>l.getD j true)
  | none=>false
def CI (T:List (List Nat×List Nat)) (l:List Bool):Bool:=(List.range T.length).all fun j=> !l.getD j false || match T[j]? with
  | some r=>r.1.all (fun k=>l.getD k false)
  | none=>true
def xU (T:List (List Nat×List Nat)) (i:Nat):Nat→Nat→Bool
  | 0,_=>false
  | fuel+1,d=>match T[d]? with
    | some r=>r.1.any fun j=>j == i || xU T i fuel j
    | none=>false
def CJ (T:List (List Nat×List Nat)) (l:List Bool) (ds:List Nat) (i:Nat):Bool:=ds.all fun d=>l.getD d true || xU T i T.length d
section
variable {md:Region.Mode} {ops:Array Oper} {T:Bool×List (List Nat×List Nat)} {l l' li lj lk:Array Bool} {ds:List Nat} {i j k:Nat}
theorem gd (l:Array Bool) (j:Nat) (b:Bool):l.getD j b=l.toList.getD j b:=by simp[Array.getD_eq_getD_getElem?,List.getD_eq_getElem?_getD]
theorem Lc (o:Oper) (p:Nat→Bool):o.after.all (fun e=> !Region.binds md e || p e.on)=(xT md o).all p:=by
  unfold xT;rw[← Array.all_toList]
  induction o.after.toList with
  | nil=>rfl
  | cons e r ih=>
    rw[List.all_cons,ih,List.filter_cons];cases h:Region.binds md e<;>simp
theorem UE (o:Oper) (p:Nat→Bool):o.after.any (fun e=>Region.binds md e && p e.on)=(xT md o).any p:=by
  unfold xT;rw[← Array.any_toList]
  induction o.after.toList with
  | nil=>rfl
  | cons e r ih=>
    rw[List.any_cons,ih,List.filter_cons];cases h:Region.binds md e<;>simp
theorem CK:(gG md ops).2.length=ops.size:=by simp[gG]
theorem CL {o:Oper} (h:ops[i]? =some o):(gG md ops).2[i]? =some (xT md o,Gm md ops i o):=by
  have hi:=(Array.getElem?_eq_some_iff.1 h).1;unfold gG;rw[List.getElem?_map,List.getElem?_range hi,Option.map_some,h]
theorem CM (h:ops[i]? =none):(gG md ops).2[i]? =none:=by
  have hi:ops.size≤i:=Array.getElem?_eq_none_iff.1 h;exact List.getElem?_eq_none (by rw[CK];exact hi)
theorem UF:tG (gG md ops).2 l.toList i=(!l.getD i true && ((ops[i]?).map (·.after.all fun e=> !Region.binds md e || l.getD e.on false)).getD false):=by
  unfold tG;rw[gd];cases h:ops[i]? with
  | none=>rw[CM h];rfl
  | some o=>
    rw[CL h];simp only[Option.map_some,Option.getD_some];rw[← Lc];simp only[gd]
theorem Gn:Region.ready md ops l=Ai (gG md ops).2 l.toList:=by
  unfold Region.ready Ai;rw[CK];refine List.filter_congr (fun i _=> ?_);rw[UF]
theorem Ld:Region.free md ops l i=Aj (gG md ops).2 l.toList i:=by
  unfold Region.free Aj;cases h:ops[i]? with
  | none=>rw[CM h]
  | some oi=>
    rw[CL h];simp only[Gm];rw[List.all_filter]
    congr 1
    funext j
    rw[gd];cases hj:ops[j]? with
    | none=>cases (j == i)<;>cases (l.toList.getD j true)<;>simp
    | some oj=>
      cases (j == i)<;>cases (l.toList.getD j true)<;>cases (oj.after.any (fun e=>Region.binds md e && e.on == i) || oi.apart ops oj)<;>simp_all
theorem UG:Region.Ad md ops l=CI (gG md ops).2 l.toList:=by
  unfold Region.Ad CI;rw[CK]
  congr 1
  funext j
  rw[gd];cases h:ops[j]? with
  | none=>rw[CM h]
  | some o=>
    rw[CL h];simp only;rw[← Lc];simp only[gd]
theorem Le: ∀(fuel d:Nat),Region.pE md ops i fuel d=xU (gG md ops).2 i fuel d
  | 0,_=>rfl
  | fuel+1,d=>by
    unfold Region.pE xU;cases h:ops[d]? with
    | none=>rw[CM h]
    | some o=>
      rw[CL h];simp only;rw[← UE]
      congr 1
      funext e
      rw[Le fuel]
theorem UH:Region.CC md ops l ds i=CJ (gG md ops).2 l.toList ds i:=by
  unfold Region.CC CJ;rw[CK]
  congr 1
  funext d
  rw[gd,Le]
theorem Lh (h:tG T.2 l.toList i=true) (hT:gG md ops=T):(Region.ready md ops l).contains i=true:=by
  subst hT;rw[Gn];unfold Ai;rw[List.contains_iff_mem,List.mem_filter,List.mem_range];refine⟨?_,h⟩;unfold tG at h;rw[Bool.and_eq_true]at h;cases hq:(gG md ops).2[i]? with
  | none=>rw[hq]at h;simp at h
  | some r=>exact(List.getElem?_eq_some_iff.1 hq).1
theorem Gp (h:(l.toList.set i true == l'.toList)=true):(l.setIfInBounds i true == l')=true:=by
  rw[beq_iff_eq]at h ⊢;apply Array.ext';rw[Array.toList_setIfInBounds];exact h
def Lj (T:Bool×List (List Nat×List Nat)) (l l':List Bool) (i:Nat):Bool:=T.1 && Aj T.2 l i && tG T.2 l i && (l.set i true == l')
/-- pure_'s condition out of the table. -/
theorem Kv (hT:gG md ops=T) (h:Lj T l.toList l'.toList i=true):xM md ops l l' i=true:=by
  simp only[Lj,Bool.and_eq_true]at h;obtain⟨⟨⟨h1,h2⟩,h3⟩,h4⟩:=h;have h5:=Lh h3 hT;have h6:=Gp h4;subst hT;simp only[xM,Bool.and_eq_true];exact⟨⟨⟨h1,by rw[Ld];exact h2⟩,h5⟩,h6⟩
def Gq (T:Bool×List (List Nat×List Nat)) (ds:List Nat) (l l':List Bool) (i:Nat):Bool:=T.1 && Aj T.2 l i && tG T.2 l i && CI T.2 l && CJ T.2 l ds i && (l.set i true == l')
/-- take_'s. -/
theorem UI (hT:gG md ops=T) (h:Gq T ds l.toList l'.toList i=true):xN md ops ds l l' i=true:=by
  simp only[Gq,Bool.and_eq_true]at h;obtain⟨⟨⟨⟨⟨h1,h2⟩,h3⟩,h4⟩,h5⟩,h6⟩:=h;have h7:=Lh h3 hT;have h8:=Gp h6;subst hT;simp only[xN,Bool.and_eq_true];exact⟨⟨⟨⟨⟨h1,by rw[Ld];exact h2⟩,h7⟩,by rw[UG];exact h4⟩,by rw[UH];exact h5⟩,h8⟩
/-- one_'s and last_'s. -/
theorem nF (hT:gG md ops=T) (h:(Ai T.2 l.toList == [i] && l.toList.set i true == l'.toList)=true):vP md ops l l' i=true:=by
  simp only[Bool.and_eq_true]at h;obtain⟨h1,h2⟩:=h;subst hT;simp only[vP,Bool.and_eq_true];exact⟨by rw[Gn];exact h1,Gp h2⟩
/-- done_'s. -/
theorem kz (hT:gG md ops=T) (h:(Ai T.2 l.toList == [])=true):(Region.ready md ops l == [])=true:=by
  subst hT;rw[Gn];exact h
/-- What d waits for, as_ bits: told in the table (B), checked in one pass: each bit is a need of d, or a bit of an earlier need's. -/
def vT (B:List Nat) (d:Nat):List Nat→Nat
  | []=>0
  | n :: r=>(2 ^ n ||| (if n<d then B.getD n 0 else 0)) ||| vT B d r
def ko (T:List (List Nat×List Nat)) (B:List Nat):Bool:=(List.range T.length).all fun d=>match T[d]? with
  | some r=>(B.getD d 0 ||| vT B d r.1) == vT B d r.1
  | none=>false
theorem Ll {B:List Nat} {d i:Nat}: ∀{ns:List Nat},(vT B d ns).testBit i=true→∃n∈ns,n=i∨(n<d∧(B.getD n 0).testBit i=true)
  | [],h=>by simp[vT]at h
  | n :: r,h=>by
    unfold vT at h;rw[Nat.testBit_or,Nat.testBit_or,Bool.or_eq_true,Bool.or_eq_true]at h;rcases h with (h | h) | h
    · rw[Nat.testBit_two_pow]at h
      exact⟨n,List.mem_cons_self, .inl (by simpa using h)⟩
    · by_cases hn:n<d
      · rw[if_pos hn]at h
        exact⟨n,List.mem_cons_self, .inr ⟨hn,h⟩⟩
      · rw[if_neg hn]at h
        simp at h
    · obtain⟨m,hm,h2⟩:=Ll h
      exact⟨m,List.mem_cons_of_mem _ hm,h2⟩
theorem Lm {T:List (List Nat×List Nat)} {B:List Nat} (hB:ko T B=true): ∀(fuel d:Nat),d<fuel→d<T.length→(B.getD d 0).testBit i=true→xU T i fuel d=true
  | 0,d,h,_,_=>by omega
  | fuel+1,d,h,hd,hb=>by
    have h1:=List.all_eq_true.1 hB d (List.mem_range.2 hd);cases hr:T[d]? with
    | none=>rw[hr]at h1;simp at h1
    | some r=>
      rw[hr]at h1;simp only[beq_iff_eq]at h1;have h2:(vT B d r.1).testBit i=true:=by rw[← h1,Nat.testBit_or,hb,Bool.true_or]
      obtain⟨n,hn,h3⟩:=Ll h2;unfold xU;rw[hr];simp only;rw[List.any_eq_true];refine⟨n,hn, ?_⟩;rcases h3 with rfl | ⟨h4,h5⟩
      · simp
      · rw[Lm hB fuel n (by omega) (by omega) h5,Bool.or_true]
def Lo (T:List (List Nat×List Nat)) (B:List Nat) (l:List Bool) (ds:List Nat) (i:Nat):Bool:=ds.all fun d=>l.getD d true || (decide (d<T.length) && (B.getD d 0).testBit i)
def Lp (T:Bool×List (List Nat×List Nat)) (B:List Nat) (ds:List Nat) (l l':List Bool) (i:Nat):Bool:=T.1 && Aj T.2 l i && tG T.2 l i && CI T.2 l && Lo T.2 B l ds i && (l.set i true == l')
/-- take_'s, by the bits. -/
theorem SX {B:List Nat} (hT:gG md ops=T) (hB:ko T.2 B=true) (h:Lp T B ds l.toList l'.toList i=true):xN md ops ds l l' i=true:=by
  refine UI hT ?_;simp only[Lp,Gq,Bool.and_eq_true]at h ⊢;obtain⟨⟨⟨⟨⟨h1,h2⟩,h3⟩,h4⟩,h5⟩,h6⟩:=h;refine⟨⟨⟨⟨⟨h1,h2⟩,h3⟩,h4⟩, ?_⟩,h6⟩;unfold Lo at h5;unfold CJ;rw[List.all_eq_true]at h5 ⊢;intro d hd;have h7:=h5 d hd;rw[Bool.or_eq_true,Bool.and_eq_true,decide_eq_true_eq]at h7;rcases h7 with h7 | ⟨h8,h9⟩
  · rw[h7,Bool.true_or]
  · rw[Lm hB _ d h8 h8 h9,Bool.or_true]
theorem kr {P:Program} {Q:Exit→Act→World→Prop} {S:World→Prop} {n:Nat} {a:Act} {w:World} {B:List Nat} (hT:gG md ops=T) (hB:ko T.2 B=true) (h:ah (gG md ops=T)→ah (ko T.2 B=true)→fA P md ops Q S ds n l a w):fA P md ops Q S ds n l a w:=h ⟨hT⟩ ⟨hB⟩
end
/-- The operations of a region, by its number. -/
def qP:Code→Nat→Option (Array Oper)
  | .region id ops _,k=>if id == k then some ops else none
  | .seq a b,k=>match qP a k with
    | some o=>some o
    | none=>qP b k
  | .cond _ a b,k=>match qP a k with
    | some o=>some o
    | none=>qP b k
  | .block _ c,k=>qP c k
  | .loop c,k=>qP c k
  | .scope c,k=>qP c k
  | .rangeFunc _ _ a b,k=>match qP a k with
    | some o=>some o
    | none=>qP b k
  | _,_=>none
def opsOf (f:Func) (k:Nat):Array Oper:=((f.body.bind fun c=>qP c k)).getD #[]
end Go.Proofs.YtkadhadceongiaaW.PrintLast
