/- Words of the kit's print, only those that this claim uses. -/
import Derived.Test.YtkadhadceongiaaWTab
namespace Go.Proofs.YtkadhadceongiaaW.PrintLast

def up (b:Nat→Bool) (i:Nat):Nat→Bool:=fun j=>if j=i then true else b j
theorem q6 (b:Nat→Bool) (i:Nat):up b i i=true:=by simp[up]
theorem zw {b:Nat→Bool} {i j:Nat} (h:j≠i):up b i j=b j:=by simp[up,h]

def mW (n:Nat) (O:List Nat) (b:Nat→Bool):List Bool:=(List.range n).map fun j=>if O.contains j then b j else true

def ke (a:Act) (b:Nat→Bool):List (Nat×Tmp×Value)→Act
  | []=>a
  | e :: r=>ke (if b e.1=true then a.put (some e.2.1) e.2.2 else a) b r
section
variable {P:Program} {ops:Array Oper} {Q:Exit→Act→World→Prop} {md:Region.Mode} {T:Bool×List (List Nat×List Nat)} {B:List Nat} {O:List Nat} {b:Nat→Bool} {i j n:Nat}
theorem adk:(mW n O b).length=n:=by simp[mW]
theorem Gq {d:Bool} (hj:j<n):(mW n O b).getD j d=if O.contains j then b j else true:=by
  simp[mW,List.getD_eq_getElem?_getD,hj]
theorem adl (hi:O.contains i=true):(mW n O b).set i true=mW n O (up b i):=by
  apply List.ext_getElem?;intro j
  by_cases hj:j<n
  · by_cases hij:i=j
    · subst hij
      have hl:i<(mW n O b).length:=by rw[adk];exact hj
      rw[List.getElem?_set_self hl];simp only[mW,List.getElem?_map,List.getElem?_range hj,Option.map_some,hi,if_true,q6]
    · rw[List.getElem?_set_ne hij]
      simp only[mW,List.getElem?_map,List.getElem?_range hj,Option.map_some];rw[zw (Ne.symm hij)]
  · rw[List.getElem?_eq_none (by simp[mW];omega),List.getElem?_eq_none (by simp[mW];omega)]

def zx (P:Program) (ops:Array Oper) (Q:Exit→Act→World→Prop) (B:List Nat) (O:List Nat) (I:(Nat→Bool)→Act→World→Prop) (i:Nat):Prop:=
  ∀b a w,I b a w→b i=false→(∀j,(O.contains j && (B.getD i 0).testBit j)=true→b j=true)→(∀d,(O.contains d && (B.getD d 0).testBit i)=true→b d=false)→
    ∃oi,ops[i]? =some oi∧∀K:Act→World→Prop,Shut (∀a' w',I (up b i) a' w'→K a' w')→if Region.wanted oi (yielded ops a.tmps)=true then Oper.wp P oi a w K Q else K (a.put oi.dst undef) w
theorem Oc {I:(Nat→Bool)→Act→World→Prop}: ∀i∈([]:List Nat),zx P ops Q B O I i:=fun _ h=>by cases h
theorem oB {I:(Nat→Bool)→Act→World→Prop} {rs:List Nat} (h:zx P ops Q B O I i) (hs: ∀j∈rs,zx P ops Q B O I j): ∀j∈i :: rs,zx P ops Q B O I j:=fun j hj=>by
  rcases List.mem_cons.1 hj with rfl|hj
  · exact h
  · exact hs j hj

def sG (T:List (List Nat×List Nat)) (O:List Nat):Bool:=
  (List.range T.length).all (fun d=>match T[d]? with
    | some r=>(O.contains d || r.1.all fun n=> !O.contains n) && r.1.all fun n=>decide (n<d)
    | none=>false) && O.all (fun i=>decide (i<T.length)) && decide O.Nodup
theorem Bv {T:List (List Nat×List Nat)} (h:sG T O=true) {d:Nat} {r:List Nat×List Nat} (hr:T[d]? =some r):(O.contains d=false→∀n∈r.1,O.contains n=false)∧∀n∈r.1,n<d:=by
  simp only[sG,Bool.and_eq_true]at h;have h1:=List.all_eq_true.1 h.1.1 d (List.mem_range.2 (List.getElem?_eq_some_iff.1 hr).1);rw[hr]at h1;simp only[Bool.and_eq_true,Bool.or_eq_true,List.all_eq_true,decide_eq_true_eq]at h1;refine⟨fun hd n hn=> ?_,h1.2⟩;rcases h1.1 with h2|h2
  · rw[hd]at h2;cases h2
  · simpa using h2 n hn
theorem Qe {T:List (List Nat×List Nat)} (h:sG T O=true) {i:Nat} (hi:i∈O):i<T.length:=by
  simp only[sG,Bool.and_eq_true]at h
  simpa using List.all_eq_true.1 h.1.2 i hi
theorem adm {T:List (List Nat×List Nat)} (h:sG T O=true):O.Nodup:=by
  simp only[sG,Bool.and_eq_true]at h;exact of_decide_eq_true h.2
def Closed (T:List (List Nat×List Nat)) (O:List Nat) (b:Nat→Bool):Prop:=∀d r,T[d]? =some r→O.contains d=true→b d=true→∀n∈r.1,O.contains n=true→b n=true

theorem Qf {T:List (List Nat×List Nat)} (hw:iV T B=true) (hk:sG T O=true): ∀(m d:Nat),d≤m→d<T.length→O.contains d=false→∀j,(B.getD d 0).testBit j=true→O.contains j=false:=by
  intro m
  induction m with
  | zero=>
    intro d hd hl hO j hj;have hd0:d=0:=by omega
    subst hd0;have hr:T[0]? =some T[0]:=List.getElem?_eq_getElem hl;have h1:=List.all_eq_true.1 hw 0 (List.mem_range.2 hl);rw[hr]at h1;simp only[beq_iff_eq]at h1;have h2:(rI B 0 T[0].1).testBit j=true:=by rw[← h1,Nat.testBit_or,hj,Bool.true_or]
    obtain⟨n,hn,h3⟩:=zu h2;have:=(Bv hk hr).2 n hn
    omega
  | succ m ih=>
    intro d hd hl hO j hj;have hr:T[d]? =some T[d]:=List.getElem?_eq_getElem hl;have h1:=List.all_eq_true.1 hw d (List.mem_range.2 hl);rw[hr]at h1;simp only[beq_iff_eq]at h1;have h2:(rI B d T[d].1).testBit j=true:=by rw[← h1,Nat.testBit_or,hj,Bool.true_or]
    obtain⟨n,hn,h3⟩:=zu h2;have tZ:=(Bv hk hr).1 hO n hn;rcases h3 with rfl|⟨h4,h5⟩
    · exact tZ
    · exact ih n (by omega) (by omega) tZ j h5
theorem Qg {T:List (List Nat×List Nat)} (hw:iV T B=true) (hk:sG T O=true) (hc:Closed T O b): ∀(m d:Nat),d≤m→d<T.length→O.contains d=true→b d=true→∀j,O.contains j=true→(B.getD d 0).testBit j=true→b j=true:=by
  intro m
  induction m with
  | zero=>
    intro d hd hl hO hb j U7 hj;have hd0:d=0:=by omega
    subst hd0;have hr:T[0]? =some T[0]:=List.getElem?_eq_getElem hl;have h1:=List.all_eq_true.1 hw 0 (List.mem_range.2 hl);rw[hr]at h1;simp only[beq_iff_eq]at h1;have h2:(rI B 0 T[0].1).testBit j=true:=by rw[← h1,Nat.testBit_or,hj,Bool.true_or]
    obtain⟨n,hn,h3⟩:=zu h2;have:=(Bv hk hr).2 n hn
    omega
  | succ m ih=>
    intro d hd hl hO hb j U7 hj;have hr:T[d]? =some T[d]:=List.getElem?_eq_getElem hl;have h1:=List.all_eq_true.1 hw d (List.mem_range.2 hl);rw[hr]at h1;simp only[beq_iff_eq]at h1;have h2:(rI B d T[d].1).testBit j=true:=by rw[← h1,Nat.testBit_or,hj,Bool.true_or]
    obtain⟨n,hn,h3⟩:=zu h2;rcases h3 with rfl|⟨h4,h5⟩
    · exact hc d _ hr hO hb n hn U7
    · cases tZ:O.contains n with
      | true=>exact ih n (by omega) (by omega) tZ (hc d _ hr hO hb n hn tZ) j U7 h5
      | false=>
        have:=Qf hw hk n n (Nat.le_refl _) (by omega) tZ j h5;rw[U7]at this;cases this
theorem Qh: ∀{O:List Nat},O.Nodup→i∈O→b i=false→(O.filter fun j=> !up b i j).length+1=(O.filter fun j=> !b j).length
  | [],_,hi,_=>by cases hi
  | x :: r,hn,hi,hb=>by
    rw[List.nodup_cons]at hn;rcases List.mem_cons.1 hi with rfl|hi
    · have h1:(r.filter fun j=> !up b i j)=r.filter fun j=> !b j:=by
        refine List.filter_congr (fun j hj=> ?_);rw[zw (fun e=>hn.1 (by rw[← e];exact hj))]
      rw[List.filter_cons,List.filter_cons];simp[q6,hb,h1]
    · have U7:x≠i:=fun e=>hn.1 (e▸hi)
      have h1:=Qh hn.2 hi hb;rw[List.filter_cons,List.filter_cons,zw U7];cases hbx:b x
      · simp only[Bool.not_false,if_true,List.length_cons]
        omega
      · simpa using h1
theorem adn (hT:e7 md ops=T) (hw:iV T.2 B=true) (hk:sG T.2 O=true) (I:(Nat→Bool)→Act→World→Prop) (hs: ∀i∈O,zx P ops Q B O I i)
    (hend: ∀b a w,(∀j,O.contains j=true→b j=true)→I b a w→Q .normal a w):
    ∀(m:Nat) (b:Nat→Bool) (a:Act) (w:World),(O.filter fun j=> !b j).length=m→Closed T.2 O b→I b a w→fK P md ops Q (fun _=>True) [] m (mW T.2.length O b).toArray a w:=by
  subst hT;have Va: ∀{b:Nat→Bool} {i:Nat},i∈Region.ready md ops (mW (e7 md ops).2.length O b).toArray→i<(e7 md ops).2.length∧O.contains i=true∧b i=false∧∀r,(e7 md ops).2[i]? =some r→∀n∈r.1,n<(e7 md ops).2.length→O.contains n=true→b n=true:=by
    intro b i hi;rw[Ez]at hi;unfold zq at hi;rw[List.mem_filter,List.mem_range]at hi;obtain⟨hl,h1⟩:=hi;unfold tX at h1;rw[Bool.and_eq_true,Gq hl]at h1;obtain⟨h2,h3⟩:=h1;have h4:O.contains i=true:=by
      cases h:O.contains i with
      | true=>rfl
      | false=>rw[h]at h2;simp at h2
    rw[h4]at h2;refine⟨hl,h4,by simpa using h2,fun r hr n hn vp hO=> ?_⟩;rw[hr]at h3;simp only[List.all_eq_true]at h3;have h5:=h3 n hn;rw[Gq vp,hO]at h5
    simpa using h5
  intro m
  induction m with
  | zero=>
    intro b a w hm hc hI;have hall: ∀j,O.contains j=true→b j=true:=by
      intro j hj;cases hb:b j with
      | true=>rfl
      | false=>
        have:j∈O.filter fun j=> !b j:=List.mem_filter.2 ⟨List.contains_iff_mem.1 hj,by simp[hb]⟩
        rw[List.eq_nil_of_length_eq_zero hm]at this;cases this
    refine⟨?_,hend b a w hall hI⟩;refine List.eq_nil_iff_forall_not_mem.2 (fun i hi=> ?_);obtain⟨_,h1,h2,_⟩:=Va hi;rw[hall i h1]at h2;cases h2
  | succ m ih=>
    intro b a w hm hc hI;refine⟨fun hr=> ?_,fun i hi=> ?_⟩
    · exfalso

      have hex: ∃i,O.contains i=true∧b i=false:=by
        cases hf:O.filter (fun j=> !b j) with
        | nil=>rw[hf]at hm;simp at hm
        | cons x r=>
          have hx:x∈O.filter (fun j=> !b j):=by rw[hf];exact List.mem_cons_self
          rw[List.mem_filter]at hx;exact⟨x,List.contains_iff_mem.2 hx.1,by simpa using hx.2⟩
      have hmin: ∀k,(∃i,i≤k∧O.contains i=true∧b i=false)→∃i,O.contains i=true∧b i=false∧∀j,j<i→O.contains j=true→b j=true:=by
        intro k
        induction k with
        | zero=>
          rintro⟨i,hi,h1,h2⟩;exact⟨i,h1,h2,fun j hj=>by omega⟩
        | succ k Vc=>
          rintro⟨i,hi,h1,h2⟩
          by_cases hlow: ∃j,j≤k∧O.contains j=true∧b j=false
          · exact Vc hlow
          · refine⟨i,h1,h2,fun j hj hO=> ?_⟩
            cases hb:b j with
            | true=>rfl
            | false=>exact absurd ⟨j,by omega,hO,hb⟩ hlow
      obtain⟨i0,h1,h2⟩:=hex;obtain⟨i,hO,hb,hlow⟩:=hmin i0 ⟨i0,Nat.le_refl _,h1,h2⟩;have hl:=Qe hk (List.contains_iff_mem.1 hO);have hin:i∈Region.ready md ops (mW (e7 md ops).2.length O b).toArray:=by
        rw[Ez];unfold zq;rw[List.mem_filter,List.mem_range];refine⟨hl, ?_⟩;unfold tX;rw[Gq hl,hO,hb];have oF:(e7 md ops).2[i]? =some (e7 md ops).2[i]:=List.getElem?_eq_getElem hl;rw[oF];simp only[if_true,Bool.not_false,Bool.true_and,List.all_eq_true];intro n hn;have hni:=(Bv hk oF).2 n hn;rw[Gq (by omega)];cases U7:O.contains n with
        | true=>simpa using hlow n hni U7
        | false=>simp
      rw[hr]at hin;cases hin
    · obtain⟨hl,hO,hb,U8⟩:=Va hi
      have dI: ∀j,(O.contains j && (B.getD i 0).testBit j)=true→b j=true:=by
        intro j hj;rw[Bool.and_eq_true]at hj;have oF:(e7 md ops).2[i]? =some (e7 md ops).2[i]:=List.getElem?_eq_getElem hl;have h1:=List.all_eq_true.1 hw i (List.mem_range.2 hl);rw[oF]at h1;simp only[beq_iff_eq]at h1;have h2:(rI B i (e7 md ops).2[i].1).testBit j=true:=by rw[← h1,Nat.testBit_or,hj.2,Bool.true_or]
        obtain⟨n,hn,h3⟩:=zu h2;have hni:=(Bv hk oF).2 n hn;rcases h3 with rfl|⟨h4,h5⟩
        · exact U8 _ oF n hn (by omega) hj.1
        · cases tZ:O.contains n with
          | true=>exact Qg hw hk hc n n (Nat.le_refl _) (by omega) tZ (U8 _ oF n hn (by omega) tZ) j hj.1 h5
          | false=>
            have:=Qf hw hk n n (Nat.le_refl _) (by omega) tZ j h5;rw[hj.1]at this;cases this
      have hoff: ∀d,(O.contains d && (B.getD d 0).testBit i)=true→b d=false:=by
        intro d hd;rw[Bool.and_eq_true]at hd;cases hbd:b d with
        | false=>rfl
        | true=>
          have Vb:=Qe hk (List.contains_iff_mem.1 hd.1);have:=Qg hw hk hc d d (Nat.le_refl _) Vb hd.1 hbd i hO hd.2;rw[hb]at this;cases this
      obtain⟨oi,KQ,hK⟩:=hs i (List.contains_iff_mem.1 hO) b a w hI hb dI hoff;refine wpOp_step KQ (fun K' hK'=>hK K' (fun a' w' hI'=>hK' a' w' ⟨fun _ _=>trivial, ?_⟩));have hset:(mW (e7 md ops).2.length O b).toArray.setIfInBounds i true=(mW (e7 md ops).2.length O (up b i)).toArray:=by
        apply Array.ext';rw[Array.toList_setIfInBounds];exact adl hO
      rw[hset];refine ih (up b i) a' w' ?_ ?_ hI'
      · have:=Qh (adm hk) (List.contains_iff_mem.1 hO) hb
        omega
      · intro d r hr Vd hbd n hn U7
        by_cases hni:n=i
        · rw[hni,q6]
        · rw[zw hni]
          by_cases U9:d=i
          · subst U9
            exact U8 r hr n hn (by have:=(Bv hk hr).2 n hn;omega) U7
          · rw[zw U9]at hbd
            exact hc d r hr Vd hbd n hn U7

theorem pz {b:Nat→Bool} {t:Tmp}: ∀{L:List (Nat×Tmp×Value)} {a:Act},(L.all fun e=> !(e.2.1 == t))=true→(ke a b L).tmps[t]? =a.tmps[t]?
  | [],_,_=>rfl
  | e :: r,a,h=>by
    rw[List.all_cons,Bool.and_eq_true]at h;have he:e.2.1≠t:=by simpa using h.1
    unfold ke
    by_cases hb:b e.1=true
    · rw[if_pos hb,pz h.2]
      simp[Act.put,Array.getElem?_setIfInBounds_ne he]
    · rw[if_neg hb]
      exact pz h.2

theorem qx {b:Nat→Bool} {e:Nat×Tmp×Value}: ∀{L:List (Nat×Tmp×Value)} {a:Act} (k:Nat),L[k]? =some e→((L.drop (k+1)).all fun x=> !(x.2.1 == e.2.1))=true→b e.1=true→Nat.ble (e.2.1+1) a.tmps.size=true→(ke a b L).tmps[e.2.1]? =some e.2.2
  | [],_,_,h,_,_,_=>by cases h
  | x :: r,a,0,h,hd,hb,ht=>by
    simp only[List.getElem?_cons_zero,Option.some.injEq]at h;subst h;unfold ke;rw[if_pos hb,pz (by simpa using hd)];have KM:x.2.1<a.tmps.size:=Nat.le_of_ble_eq_true ht;simp[Act.put,KM]
  | x :: r,a,k+1,h,hd,hb,ht=>by
    unfold ke;refine qx k (by simpa using h) (by simpa using hd) hb ?_
    by_cases hx:b x.1=true
    · rw[if_pos hx]
      simpa [Act.put] using ht
    · rw[if_neg hx]
      exact ht
theorem put_comm {a:Act} {s t:Tmp} {u v:Value} (h:s≠t):(a.put (some s) u).put (some t) v=(a.put (some t) v).put (some s) u:=by
  simp only[Act.put];rw[Array.setIfInBounds_comm _ _ h]
theorem Lu {b:Nat→Bool} {t:Tmp} {v:Value}: ∀{L:List (Nat×Tmp×Value)} {a:Act},(L.all fun e=> !(e.2.1 == t))=true→(ke a b L).put (some t) v=ke (a.put (some t) v) b L
  | [],_,_=>rfl
  | e :: r,a,h=>by
    rw[List.all_cons,Bool.and_eq_true]at h;have he:e.2.1≠t:=by simpa using h.1
    unfold ke
    by_cases hb:b e.1=true
    · rw[if_pos hb,if_pos hb,Lu h.2,put_comm he]
    · rw[if_neg hb,if_neg hb]
      exact Lu h.2
theorem Lx {b:Nat→Bool} {i:Nat}: ∀{L:List (Nat×Tmp×Value)} {a:Act},(L.all fun e=> !(e.1 == i))=true→ke a (up b i) L=ke a b L
  | [],_,_=>rfl
  | e :: r,a,h=>by
    rw[List.all_cons,Bool.and_eq_true]at h;have he:e.1≠i:=by simpa using h.1
    unfold ke;rw[zw he];exact Lx h.2

theorem Qi {b:Nat→Bool} {i:Nat} {t:Tmp} {v0 v:Value}: ∀{L1 L2:List (Nat×Tmp×Value)} {a:Act},b i=false→((L1++L2).all fun e=> !(e.1 == i) && !(e.2.1 == t))=true→
    (ke a b (L1++(i,t,v0) :: L2)).put (some t) v=ke a (up b i) (L1++(i,t,v) :: L2)
  | [],L2,a,hb,h=>by
    simp only[List.nil_append]at h ⊢;have h1:(L2.all fun e=> !(e.1 == i))=true:=List.all_eq_true.2 (fun e he=>by have:=List.all_eq_true.1 h e he;simp only[Bool.and_eq_true]at this;exact this.1);have h2:(L2.all fun e=> !(e.2.1 == t))=true:=List.all_eq_true.2 (fun e he=>by have:=List.all_eq_true.1 h e he;simp only[Bool.and_eq_true]at this;exact this.2);unfold ke;rw[if_neg (by rw[hb];decide),if_pos (q6 b i),Lu h2,Lx h1]
  | e :: r,L2,a,hb,h=>by
    simp only[List.cons_append,List.all_cons,Bool.and_eq_true]at h;have he:e.1≠i:=by simpa using h.1.1
    simp only[List.cons_append];unfold ke;rw[zw he];exact Qi hb h.2

theorem qa {b:Nat→Bool} {i:Nat} {t:Tmp} {v0 v:Value} {a:Act} {L L':List (Nat×Tmp×Value)} (k:Nat) (hb:b i=false) (hL:L[k]? =some (i,t,v0)) (hL':L.set k (i,t,v)=L') (hd:((L.take k++L.drop (k+1)).all fun e=> !(e.1 == i) && !(e.2.1 == t))=true):
    (ke a b L).put (some t) v=ke a (up b i) L':=by
  have hk:=(List.getElem?_eq_some_iff.1 hL).1;have h1:L=L.take k++(i,t,v0) :: L.drop (k+1):=by
    have h2:L[k]=(i,t,v0):=(List.getElem?_eq_some_iff.1 hL).2;rw[← h2,List.getElem_cons_drop,List.take_append_drop]
  have h3:L'=L.take k++(i,t,v) :: L.drop (k+1):=by rw[← hL',List.set_eq_take_append_cons_drop,if_pos hk]
  rw[h3]
  conv=>lhs;rw[h1]
  exact Qi hb hd

theorem Ob {b:Nat→Bool} {i:Nat} {L:List (Nat×Tmp×Value)} {a:Act} {v:Value} (h:(L.all fun e=> !(e.1 == i))=true):(ke a b L).put none v=ke a (up b i) L:=(Lx h).symm

theorem ado {l:Array Bool} {fuel:Nat} {a:Act} {w:World} (O:List Nat) (I:(Nat→Bool)→Act→World→Prop) (hT:e7 md ops=T) (hw:iV T.2 B=true) (hk:sG T.2 O=true)
    (hl:(mW T.2.length O (fun _=>false) == l.toList && O.length == fuel)=true) (h0:I (fun _=>false) a w) (hs: ∀i∈O,zx P ops Q B O I i)
    (hend: ∀b a w,(∀j,O.contains j=true→b j=true)→I b a w→Q .normal a w):fK P md ops Q (fun _=>True) [] fuel l a w:=by
  rw[Bool.and_eq_true,beq_iff_eq,beq_iff_eq]at hl;have h1:=adn hT hw hk I hs hend fuel (fun _=>false) a w (by rw[← hl.2];simp) (fun d r _ _ hb=>by cases hb) h0;have h2:(mW T.2.length O (fun _=>false)).toArray=l:=by apply Array.ext';exact hl.1
  rw[h2]at h1;exact h1

theorem NZ {l:Array Bool} {fuel:Nat} {a:Act} {w:World} (O:List Nat) (I:Act→(Nat→Bool)→Act→World→Prop) (hT:e7 md ops=T) (hw:iV T.2 B=true) (hk:sG T.2 O=true)
    (hl:(mW T.2.length O (fun _=>false) == l.toList && O.length == fuel)=true) (h0:I a (fun _=>false) a w) (hs: ∀i∈O,zx P ops Q B O (I a) i)
    (hend: ∀b a' w,(∀j,O.contains j=true→b j=true)→I a b a' w→Q .normal a' w):fK P md ops Q (fun _=>True) [] fuel l a w:=ado O (I a) hT hw hk hl h0 hs hend
end
end Go.Proofs.YtkadhadceongiaaW.PrintLast
