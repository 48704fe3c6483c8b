/- Words of the kit's print, only those that this claim uses. -/
import Derived.Test.YtkadhadceongiaaWLast
import Derived.Test.YtkadhadceongiaaWWords
namespace Go.Proofs.YtkadhadceongiaaW.PrintLast
open Go.Proofs.YtkadhadceongiaaW.PrintWords (ah)
def vS (md:Region.Mode) (o:Oper):List Nat:=(o.after.toList.filter (fun e=>Region.binds md e)).map (fun e=>e.on)
def D6 (md:Region.Mode) (ops:Array Oper) (i:Nat) (oi:Oper):List Nat:=(List.range ops.size).filter fun j=> !(j == i) && match ops[j]? with
  | some oj=> !(oj.after.any (fun e=>Region.binds md e && e.on == i) || oi.apart ops oj)
  | none=>false
/-- No select in it; for each operation: what must have come up before it, and what may not come up behind it if it is taken first. -/
def fu (md:Region.Mode) (ops:Array Oper):Bool×List (List Nat×List Nat):=(Region.noSelect ops,(List.range ops.size).map fun i=>match ops[i]? with
  | some o=>(vS md o,D6 md ops i o)
  | none=>([],[]))
def rF (T:List (List Nat×List Nat)) (l:List Bool) (i:Nat):Bool:= !l.getD i true && match T[i]? with
  | some r=>r.1.all (fun j=>l.getD j false)
  | none=>false
def yt (T:List (List Nat×List Nat)) (l:List Bool):List Nat:=(List.range T.length).filter (rF T l)
def yu (T:List (List Nat×List Nat)) (l:List Bool) (i:Nat):Bool:=match T[i]? with
  | some r=>r.2.all (fun j=>l.getD j true)
  | none=>false
def Aa (T:List (List Nat×List Nat)) (l:List Bool):Bool:=(List.range T.length).all fun j=> !l.getD j false || match T[j]? with
  | some r=>r.1.all (fun k=>l.getD k false)
  | none=>true
def vT (T:List (List Nat×List Nat)) (i:Nat):Nat→Nat→Bool
  | 0,_=>false
  | fuel+1,d=>match T[d]? with
    | some r=>r.1.any fun j=>j == i || vT T i fuel j
    | none=>false
def Ab (T:List (List Nat×List Nat)) (l:List Bool) (ds:List Nat) (i:Nat):Bool:=ds.all fun d=>l.getD d true || vT T i T.length d
section
variable {md:Region.Mode} {ops:Array Oper} {T:Bool×List (List Nat×List Nat)} {l l' li lj lk:Array Bool} {ds:List Nat} {i j k:Nat}
theorem gd (l:Array Bool) (j:Nat) (b:Bool):l.getD j b=l.toList.getD j b:=by simp[Array.getD_eq_getD_getElem?,List.getD_eq_getElem?_getD]
theorem Ih (o:Oper) (p:Nat→Bool):o.after.all (fun e=> !Region.binds md e || p e.on)=(vS md o).all p:=by
  unfold vS;rw[← Array.all_toList]
  induction o.after.toList with
  | nil=>rfl
  | cons e r ih=>
    rw[List.all_cons,ih,List.filter_cons];cases h:Region.binds md e<;>simp
theorem Qy (o:Oper) (p:Nat→Bool):o.after.any (fun e=>Region.binds md e && p e.on)=(vS md o).any p:=by
  unfold vS;rw[← Array.any_toList]
  induction o.after.toList with
  | nil=>rfl
  | cons e r ih=>
    rw[List.any_cons,ih,List.filter_cons];cases h:Region.binds md e<;>simp
theorem Ac:(fu md ops).2.length=ops.size:=by simp[fu]
theorem Ad {o:Oper} (h:ops[i]? =some o):(fu md ops).2[i]? =some (vS md o,D6 md ops i o):=by
  have hi:=(Array.getElem?_eq_some_iff.1 h).1;unfold fu;rw[List.getElem?_map,List.getElem?_range hi,Option.map_some,h]
theorem Ae (h:ops[i]? =none):(fu md ops).2[i]? =none:=by
  have hi:ops.size≤i:=Array.getElem?_eq_none_iff.1 h;exact List.getElem?_eq_none (by rw[Ac];exact hi)
theorem Qz:rF (fu md ops).2 l.toList i=(!l.getD i true && ((ops[i]?).map (·.after.all fun e=> !Region.binds md e || l.getD e.on false)).getD false):=by
  unfold rF;rw[gd];cases h:ops[i]? with
  | none=>rw[Ae h];rfl
  | some o=>
    rw[Ad h];simp only[Option.map_some,Option.getD_some];rw[← Ih];simp only[gd]
theorem D7:Region.ready md ops l=yt (fu md ops).2 l.toList:=by
  unfold Region.ready yt;rw[Ac];refine List.filter_congr (fun i _=> ?_);rw[Qz]
theorem Ii:Region.free md ops l i=yu (fu md ops).2 l.toList i:=by
  unfold Region.free yu;cases h:ops[i]? with
  | none=>rw[Ae h]
  | some oi=>
    rw[Ad h];simp only[D6];rw[List.all_filter]
    congr 1
    funext j
    rw[gd];cases hj:ops[j]? with
    | none=>cases (j == i)<;>cases (l.toList.getD j true)<;>simp
    | some oj=>
      cases (j == i)<;>cases (l.toList.getD j true)<;>cases (oj.after.any (fun e=>Region.binds md e && e.on == i) || oi.apart ops oj)<;>simp_all
theorem QA:Region.yh md ops l=Aa (fu md ops).2 l.toList:=by
  unfold Region.yh Aa;rw[Ac]
  congr 1
  funext j
  rw[gd];cases h:ops[j]? with
  | none=>rw[Ae h]
  | some o=>
    rw[Ad h];simp only;rw[← Ih];simp only[gd]
theorem Ij: ∀(fuel d:Nat),Region.nA md ops i fuel d=vT (fu md ops).2 i fuel d
  | 0,_=>rfl
  | fuel+1,d=>by
    unfold Region.nA vT;cases h:ops[d]? with
    | none=>rw[Ae h]
    | some o=>
      rw[Ad h];simp only;rw[← Qy]
      congr 1
      funext e
      rw[Ij fuel]
theorem QB:Region.zW md ops l ds i=Ab (fu md ops).2 l.toList ds i:=by
  unfold Region.zW Ab;rw[Ac]
  congr 1
  funext d
  rw[gd,Ij]
theorem Ik (h:rF T.2 l.toList i=true) (hT:fu md ops=T):(Region.ready md ops l).contains i=true:=by
  subst hT;rw[D7];unfold yt;rw[List.contains_iff_mem,List.mem_filter,List.mem_range];refine⟨?_,h⟩;unfold rF at h;rw[Bool.and_eq_true]at h;cases hq:(fu md ops).2[i]? with
  | none=>rw[hq]at h;simp at h
  | some r=>exact(List.getElem?_eq_some_iff.1 hq).1
theorem D8 (h:(l.toList.set i true == l'.toList)=true):(l.setIfInBounds i true == l')=true:=by
  rw[beq_iff_eq]at h ⊢;apply Array.ext';rw[Array.toList_setIfInBounds];exact h
def Il (T:Bool×List (List Nat×List Nat)) (l l':List Bool) (i:Nat):Bool:=T.1 && yu T.2 l i && rF T.2 l i && (l.set i true == l')
/-- pure_'s condition out of the table. -/
theorem Hy (hT:fu md ops=T) (h:Il T l.toList l'.toList i=true):vL md ops l l' i=true:=by
  simp only[Il,Bool.and_eq_true]at h;obtain⟨⟨⟨h1,h2⟩,h3⟩,h4⟩:=h;have h5:=Ik h3 hT;have h6:=D8 h4;subst hT;simp only[vL,Bool.and_eq_true];exact⟨⟨⟨h1,by rw[Ii];exact h2⟩,h5⟩,h6⟩
def D9 (T:Bool×List (List Nat×List Nat)) (ds:List Nat) (l l':List Bool) (i:Nat):Bool:=T.1 && yu T.2 l i && rF T.2 l i && Aa T.2 l && Ab T.2 l ds i && (l.set i true == l')
/-- take_'s. -/
theorem QC (hT:fu md ops=T) (h:D9 T ds l.toList l'.toList i=true):vM md ops ds l l' i=true:=by
  simp only[D9,Bool.and_eq_true]at h;obtain⟨⟨⟨⟨⟨h1,h2⟩,h3⟩,h4⟩,h5⟩,h6⟩:=h;have h7:=Ik h3 hT;have h8:=D8 h6;subst hT;simp only[vM,Bool.and_eq_true];exact⟨⟨⟨⟨⟨h1,by rw[Ii];exact h2⟩,h7⟩,by rw[QA];exact h4⟩,by rw[QB];exact h5⟩,h8⟩
/-- one_'s and last_'s. -/
theorem pT (hT:fu md ops=T) (h:(yt T.2 l.toList == [i] && l.toList.set i true == l'.toList)=true):tO md ops l l' i=true:=by
  simp only[Bool.and_eq_true]at h;obtain⟨h1,h2⟩:=h;subst hT;simp only[tO,Bool.and_eq_true];exact⟨by rw[D7];exact h1,D8 h2⟩
/-- done_'s. -/
theorem iI (hT:fu md ops=T) (h:(yt T.2 l.toList == [])=true):(Region.ready md ops l == [])=true:=by
  subst hT;rw[D7];exact h
/-- What d waits for, as_ bits: told in the table (B), checked in one pass: each bit is a need of d, or a bit of an earlier need's. -/
def tR (B:List Nat) (d:Nat):List Nat→Nat
  | []=>0
  | n :: r=>(2 ^ n ||| (if n<d then B.getD n 0 else 0)) ||| tR B d r
def jv (T:List (List Nat×List Nat)) (B:List Nat):Bool:=(List.range T.length).all fun d=>match T[d]? with
  | some r=>(B.getD d 0 ||| tR B d r.1) == tR B d r.1
  | none=>false
theorem Io {B:List Nat} {d i:Nat}: ∀{ns:List Nat},(tR B d ns).testBit i=true→∃n∈ns,n=i∨(n<d∧(B.getD n 0).testBit i=true)
  | [],h=>by simp[tR]at h
  | n :: r,h=>by
    unfold tR at h;rw[Nat.testBit_or,Nat.testBit_or,Bool.or_eq_true,Bool.or_eq_true]at h;rcases h with (h | h) | h
    · rw[Nat.testBit_two_pow]at h
      exact⟨n,List.mem_cons_self, .inl (by simpa using h)⟩
    · by_cases hn:n<d
      · rw[if_pos hn]at h
        exact⟨n,List.mem_cons_self, .inr ⟨hn,h⟩⟩
      · rw[if_neg hn]at h
        simp at h
    · obtain⟨m,hm,h2⟩:=Io h
      exact⟨m,List.mem_cons_of_mem _ hm,h2⟩
theorem Ip {T:List (List Nat×List Nat)} {B:List Nat} (hB:jv T B=true): ∀(fuel d:Nat),d<fuel→d<T.length→(B.getD d 0).testBit i=true→vT T i fuel d=true
  | 0,d,h,_,_=>by omega
  | fuel+1,d,h,hd,hb=>by
    have h1:=List.all_eq_true.1 hB d (List.mem_range.2 hd);cases hr:T[d]? with
    | none=>rw[hr]at h1;simp at h1
    | some r=>
      rw[hr]at h1;simp only[beq_iff_eq]at h1;have h2:(tR B d r.1).testBit i=true:=by rw[← h1,Nat.testBit_or,hb,Bool.true_or]
      obtain⟨n,hn,h3⟩:=Io h2;unfold vT;rw[hr];simp only;rw[List.any_eq_true];refine⟨n,hn, ?_⟩;rcases h3 with rfl | ⟨h4,h5⟩
      · simp
      · rw[Ip hB fuel n (by omega) (by omega) h5,Bool.or_true]
def Iq (T:List (List Nat×List Nat)) (B:List Nat) (l:List Bool) (ds:List Nat) (i:Nat):Bool:=ds.all fun d=>l.getD d true || (decide (d<T.length) && (B.getD d 0).testBit i)
def Ir (T:Bool×List (List Nat×List Nat)) (B:List Nat) (ds:List Nat) (l l':List Bool) (i:Nat):Bool:=T.1 && yu T.2 l i && rF T.2 l i && Aa T.2 l && Iq T.2 B l ds i && (l.set i true == l')
/-- take_'s, by the bits. -/
theorem Dh {B:List Nat} (hT:fu md ops=T) (hB:jv T.2 B=true) (h:Ir T B ds l.toList l'.toList i=true):vM md ops ds l l' i=true:=by
  refine QC hT ?_;simp only[Ir,D9,Bool.and_eq_true]at h ⊢;obtain⟨⟨⟨⟨⟨h1,h2⟩,h3⟩,h4⟩,h5⟩,h6⟩:=h;refine⟨⟨⟨⟨⟨h1,h2⟩,h3⟩,h4⟩, ?_⟩,h6⟩;unfold Iq at h5;unfold Ab;rw[List.all_eq_true]at h5 ⊢;intro d hd;have h7:=h5 d hd;rw[Bool.or_eq_true,Bool.and_eq_true,decide_eq_true_eq]at h7;rcases h7 with h7 | ⟨h8,h9⟩
  · rw[h7,Bool.true_or]
  · rw[Ip hB _ d h8 h8 h9,Bool.or_true]
theorem iH {P:Program} {Q:Exit→Act→World→Prop} {S:World→Prop} {n:Nat} {a:Act} {w:World} {B:List Nat} (hT:fu md ops=T) (hB:jv T.2 B=true) (h:ah (fu md ops=T)→ah (jv T.2 B=true)→ee P md ops Q S ds n l a w):ee P md ops Q S ds n l a w:=h ⟨hT⟩ ⟨hB⟩
end
/-- The operations of a region, by its number. -/
def o5:Code→Nat→Option (Array Oper)
  | .region id ops _,k=>if id == k then some ops else none
  | .seq a b,k=>match o5 a k with
    | some o=>some o
    | none=>o5 b k
  | .cond _ a b,k=>match o5 a k with
    | some o=>some o
    | none=>o5 b k
  | .block _ c,k=>o5 c k
  | .loop c,k=>o5 c k
  | .scope c,k=>o5 c k
  | .rangeFunc _ _ a b,k=>match o5 a k with
    | some o=>some o
    | none=>o5 b k
  | _,_=>none
def opsOf (f:Func) (k:Nat):Array Oper:=((f.body.bind fun c=>o5 c k)).getD #[]
end Go.Proofs.YtkadhadceongiaaW.PrintLast
