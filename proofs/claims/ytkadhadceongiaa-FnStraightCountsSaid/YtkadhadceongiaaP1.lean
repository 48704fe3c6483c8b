/- The plain proofs for this law. -/
import Derived.Test.YtkadhadceongiaaP
import Derived.Test.YtkadhadceongiaaAux
namespace Go.Proofs.Ytkadhadceongiaa.Pure
open Go.RowKit Go.Proofs.Ytkadhadceongiaa.G Go.Proofs.YtkadhadceongiaaW.PrintWords Go.Proofs.YtkadhadceongiaaW.PrintLast Go.Proofs.YtkadhadceongiaaW.PrintMore Go.Proofs.Ytkadhadceongiaa.Aux
set_option linter.unusedVariables false
set_option linter.unusedSimpArgs false

theorem Af (c:UInt8) (s:List UInt8):kW c (gb c s)=s:=by
  induction s with
  | nil=>rfl
  | cons b s ih=>
    by_cases h:b=c
    · subst h
      rw[vU,Ag _ (rG _ _),ih]
      rfl
    · rw[tS h,Ix _ _ (rG _ _),ih]
      rfl

theorem Ah {c:UInt8} {x:List UInt8} (h: ∀b∈x,b≠c):gb c x= [x]:=by
  induction x with
  | nil=>rfl
  | cons b x ih=>
    rw[tS (h b (List.mem_cons_self)),ih (fun y hy=>h y (List.mem_cons_of_mem _ hy))]
    rfl

theorem Ai {c:UInt8} {x:List UInt8} (h: ∀b∈x,b≠c) (s:List UInt8):gb c (x++c :: s)=x :: gb c s:=by
  induction x with
  | nil=>exact vU c s
  | cons b x ih=>
    rw[List.cons_append,tS (h b (List.mem_cons_self)),ih (fun y hy=>h y (List.mem_cons_of_mem _ hy))]
    rfl

theorem Iy {c:UInt8} (xs:List (List UInt8)) (hne:xs≠[]) (h: ∀x∈xs,∀b∈x,b≠c):gb c (kW c xs)=xs:=by
  induction xs with
  | nil=>exact absurd rfl hne
  | cons x xs ih=>
    cases xs with
    | nil=>exact Ah (h x (List.mem_cons_self))
    | cons y r=>
      rw[Ag _ (by simp),Ai (h x (List.mem_cons_self)),ih (by simp) (fun z hz=>h z (List.mem_cons_of_mem _ hz))]

/-- A figure. -/
def dg (n:Int):UInt8:=UInt8.ofNat (48+n.toNat)

theorem Eb {n:Int} (h0:0≤n) (h1:n<10):((dg n).toNat:Int)=48+n:=by
  unfold dg;rw[UInt8.toNat_ofNat',Nat.mod_eq_of_lt (by omega)]
  omega

theorem vV {n:Int} (h0:0≤n) (h1:n<10) {c:UInt8} (h:c.toNat<48∨57<c.toNat):dg n≠c:=by
  intro e;have:=Eb h0 h1;rw[e]at this
  omega

theorem Iz {b:UInt8} (h:48≤b.toNat):dg ((b.toNat:Int) - 48)=b:=by
  unfold dg;apply UInt8.toNat_inj.1;have:=b.toNat_lt;rw[UInt8.toNat_ofNat',Nat.mod_eq_of_lt (by omega)]
  omega

def word (e:List Int):List UInt8:=[dg (rd e 0),45,dg (rd e 1)]

/-- The text of a graph. -/
def txt (n:Int) (l:List (List Int)):List UInt8:=dg n :: 58 :: kW 44 (l.map word)

section
variable {n:Int} {l:List (List Int)} (h:eN n l=true)
include h

theorem yw {e:List Int} (he:e∈l): ∃a b:Int,e= [a,b]∧rd e 0=a∧rd e 1=b∧0≤a∧a<8∧0≤b∧b<8:=by
  obtain⟨h1,h2,h3,h4⟩:=(vW n l).1 h;obtain⟨a,b,rfl,ha,ha',hb,hb'⟩:=h4 e he;exact⟨a,b,rfl,rfl,rfl,ha,by omega,hb,by omega⟩

theorem Ec {c:UInt8} (hc:(c.toNat<48∨57<c.toNat)∧c≠45): ∀x∈l.map word,∀b∈x,b≠c:=by
  intro x hx b hb;obtain⟨e,he,rfl⟩:=List.mem_map.1 hx;obtain⟨p,q,_,e0,e1,h0,h1,h2,h3⟩:=yw h he;unfold word at hb;rw[e0,e1]at hb;simp only[List.mem_cons,List.not_mem_nil,or_false]at hb;rcases hb with rfl | rfl | rfl
  · exact vV h0 (by omega) hc.1
  · exact fun e=>hc.2 e.symm
  · exact vV h2 (by omega) hc.1

theorem IA (hl:l≠[]):gb 44 (kW 44 (l.map word))=l.map word:=
  Iy _ (by simpa using hl) (Ec h (c:=44) (by decide))

theorem IB {c d:UInt8} (hd:(d.toNat<48∨57<d.toNat)∧d≠45) (hcd:c≠d): ∀b∈kW c (l.map word),b≠d:=by
  have hf:=Ec h hd;clear h;generalize l.map word=xs at hf
  induction xs with
  | nil=>intro b hb;cases hb
  | cons x xs ih=>
    intro b hb;cases xs with
    | nil=>exact hf x (List.mem_cons_self) b hb
    | cons y r=>
      rw[Ag _ (by simp)]at hb;rcases List.mem_append.1 hb with hb | hb
      · exact hf x (List.mem_cons_self) b hb
      · rcases List.mem_cons.1 hb with rfl | hb
        · exact hcd
        · exact ih (fun z hz=>hf z (List.mem_cons_of_mem _ hz)) b hb

theorem Ed:gb 58 (txt n l)= [[dg n],kW 44 (l.map word)]:=by
  obtain⟨h1,h2,h3,h4⟩:=(vW n l).1 h;have e:txt n l= [dg n]++58 :: kW 44 (l.map word):=rfl;rw[e,Ai (by simp;exact vV (by omega) (by omega) (by decide)),Ah (IB h (by decide) (by decide))]

theorem Ee {e:List Int} (he:e∈l):gb 45 (word e)= [[dg (rd e 0)],[dg (rd e 1)]]:=by
  obtain⟨p,q,_,e0,e1,h0,h1,h2,h3⟩:=yw h he;unfold word;rw[e0,e1];have e: [dg p,45,dg q]= [dg p]++45 :: [dg q]:=rfl;rw[e,Ai (by simp;exact vV h0 (by omega) (by decide)),Ah (by simp;exact vV h2 (by omega) (by decide))]

end

/-- A run ends, and its answer has a property. -/
def Dr {α:Type} (g:Nat→Option α) (P:α→Prop):Prop:=∃r,Ev g r∧P r

theorem Dr.bind {α β:Type} {g:Nat→Option α} {f:Nat→α→Option β} {P:α→Prop} {Q:β→Prop} (h:Dr g P) (k: ∀a,P a→Dr (fun n=>f n a) Q):Dr (fun n=>(g n).bind (f n)) Q:=by
  obtain⟨a,h,p⟩:=h;obtain⟨r,e,q⟩:=k a p;exact⟨r,Ev.bind h e,q⟩

theorem Dr.now {α:Type} {r:α} {P:α→Prop} (p:P r):Dr (fun _=>some r) P:=⟨r,Ev.now _,p⟩

theorem Dr.eq {α:Type} {o:Option α} {P:α→Prop} (h: ∃r,o=some r∧P r):Dr (fun _=>o) P:=by
  obtain⟨r,e,p⟩:=h;exact⟨r,Ev.eq e,p⟩

theorem Dr.ite {α:Type} {c:Prop} [Decidable c] {f g:Nat→Option α} {P:α→Prop} (h1:c→Dr f P) (h2: ¬c→Dr g P):Dr (fun k=>if c then f k else g k) P:=by
  by_cases h:c
  · obtain⟨r,e,p⟩:=h1 h
    exact⟨r,Ev.pos h e,p⟩
  · obtain⟨r,e,p⟩:=h2 h
    exact⟨r,Ev.neg h e,p⟩

theorem Dr.pos {α:Type} {c:Prop} [Decidable c] {f g:Nat→Option α} {P:α→Prop} (h:c) (h1:Dr f P):Dr (fun k=>if c then f k else g k) P:=Dr.ite (fun _=>h1) (fun x=>absurd h x)

theorem Dr.neg {α:Type} {c:Prop} [Decidable c] {f g:Nat→Option α} {P:α→Prop} (h: ¬c) (h1:Dr g P):Dr (fun k=>if c then f k else g k) P:=Dr.ite (fun x=>absurd x h) (fun _=>h1)

theorem Dr.succ {α:Type} {g:Nat→Option α} {P:α→Prop} (e:Dr (fun k=>g (k+1)) P):Dr g P:=by
  obtain⟨r,e,p⟩:=e;exact⟨r,Ev.succ e,p⟩

theorem Dr.mono {α:Type} {g:Nat→Option α} {P Q:α→Prop} (e:Dr g P) (h: ∀r,P r→Q r):Dr g Q:=by
  obtain⟨r,e,p⟩:=e;exact⟨r,e,h r p⟩

/-- A code of bytes. -/
def Code (c:List Int):Prop:=c.length≤4096∧∀y∈c,0≤y∧y≤255

theorem IC (c:List Int) (hc:Code c): ∀(d i:Nat) (h:Int),i+d=c.length→Dr (fun k=>gY.l0 k c (i:Int) c 0 h) (fun r=>r.1=c∧0≤r.2.1):=by
  intro d
  induction d with
  | zero=>
    intro i h hi;refine Dr.succ ?_;simp only[gY.l0];exact Dr.neg (by omega) (Dr.now ⟨rfl,Int.le_refl _⟩)
  | succ d ih=>
    intro i h hi;have:=hc.1;refine Dr.succ ?_;simp only[gY.l0];refine Dr.pos (by omega) (Dr.pos (by omega) (Dr.pos (by omega) ?_));rw[dD (by omega)];exact ih (i+1) _ (by omega)

theorem Ef (c:List Int) (hc:Code c):Dr (fun k=>gY.f k c) (fun r=>r.1=c∧0≤r.2.1):=IC c hc c.length 0 _ (by omega)

theorem ID (x:Int):0≤Go.bits .and .u64 (IntKind.u64.wrap x / 2147483648) 1073741823∧Go.bits .and .u64 (IntKind.u64.wrap x / 2147483648) 1073741823≤1073741823:=by
  have e0:IntKind.u64.wrap x=x % 18446744073709551616:=by rw[IntKind.wrap_u64]
  rw[e0];have h:=bits_mask .u64 63 (by decide) (fun n h₀ h₁=>by rw[IntKind.wrap_u64];omega) 30 (by decide) (x % 18446744073709551616 / 2147483648) (by omega) (by omega);rw[show((2:Int) ^ 30 - 1)=1073741823 by decide,show((2:Int) ^ 30)=1073741824 by decide]at h;rw[h]
  omega

theorem Aj {x n:Int} (hx:0≤x) (hn:1≤n):0≤Int.tmod x n∧Int.tmod x n<n:=by
  rw[Int.tmod_eq_emod_of_nonneg hx];exact⟨Int.emod_nonneg _ (by omega),Int.emod_lt_of_pos _ (by omega)⟩

theorem jr {c:List Int} (hc:Code c) {a:Int} (ha:0≤a) (h n:Int): ∃r:Int×Int×Int,cZ.f c a h n=some r∧0≤r.2.1∧0≤r.1∧(1≤n→r.1<n)∧(n<1→r.1=0):=by
  unfold cZ.f;have hl:=hc.1;have hb:=ID (IntKind.u64.wrap (h*6364136223846793005)+1442695040888963407)
  by_cases hn:n<1
  · exact⟨_,if_pos hn,ha,Int.le_refl _,fun x=>absurd x (by omega),fun _=>rfl⟩
  · rw[if_neg hn]
    generalize Go.bits .and .u64 (IntKind.u64.wrap (IntKind.u64.wrap (h*6364136223846793005)+1442695040888963407) / 2147483648) 1073741823=b at hb
    by_cases hl2:a<(c.length:Int)
    · rw[if_pos hl2,if_pos ha,if_neg (by omega)]
      obtain⟨i,rfl⟩:=Int.eq_ofNat_of_zero_le ha;have hy:=hc.2 _ (Ak (show i<c.length by omega));have e:wrap64 (wrap64 b+wrap64 (rd c (i:Int)))=b+rd c (i:Int):=by
        rw[bg (x:=b) (by omega) (by omega),bg (x:=rd c (i:Int)) (by omega) (by omega),bg (by omega) (by omega)]
      have e2:wrap64 ((i:Int)+1)=i+1:=bg (by omega) (by omega);have ht:=Aj (x:=b+rd c (i:Int)) (n:=n) (by omega) (by omega);refine⟨_,rfl, ?_, ?_,fun _=> ?_,fun x=>absurd x hn⟩
      · show 0≤wrap64 ((i:Int)+1)
        omega
      · show 0≤Int.tmod _ n
        rw[e];exact ht.1
      · show Int.tmod _ n<n
        rw[e];exact ht.2
    · rw[if_neg hl2,if_neg (by omega)]
      have ht:=Aj (x:=b) (n:=n) (by omega) (by omega);refine⟨_,rfl,ha, ?_,fun _=> ?_,fun x=>absurd x hn⟩
      · show 0≤Int.tmod (wrap64 b) n
        rw[bg (by omega) (by omega)];exact ht.1
      · show Int.tmod (wrap64 b) n<n
        rw[bg (by omega) (by omega)];exact ht.2

theorem vX {c:List Int} (hc:Code c) {a:Int} (ha:0≤a) (h:Int) (l:List Int) (hl:0<l.length): ∃r:Int×Int×Int,kX.f c a h l=some r∧0≤r.2.1∧r.1∈l:=by
  unfold kX.f;obtain⟨r,e,h1,h2,h3,_⟩:=jr hc ha h (l.length:Int);have h4:=h3 (by omega);rw[e];simp only[Option.bind_some];rw[if_pos h2,if_pos h4];obtain⟨i,hi⟩:=Int.eq_ofNat_of_zero_le h2;exact⟨_,rfl,h1,by rw[hi];exact Ak (by omega)⟩

theorem IE (l:List Int) (hl:l.length≤1048576):l8.f l=some l:=vY l hl

theorem IG (s:List UInt8) (c:UInt8) (hs:s.length≤1048576): ∀(d i j:Nat) (acc:List ByteArray),i+d=s.length→j≤i→acc.length≤i→
    Ev (fun k=>gR.l0 k (bs s) (c.toNat:Int) acc (j:Int) (i:Int)) (acc++(glue ((s.take i).drop j) (gb c (s.drop i))).map bs):=by
  intro d
  induction d with
  | zero=>
    intro i j acc hi hj ha;have e:i=s.length:=by omega
    subst e;refine Ev.succ ?_;simp only[gR.l0];refine Ev.neg (by rw[fX];omega) ?_;refine Ev.pos (by omega) ?_;refine Ev.pos (by rw[fX];omega) ?_;refine Ev.pos (by omega) ?_;rw[fX,Eg,List.drop_length,gb];refine Ev.eq (congrArg some ?_);simp[glue]
  | succ d ih=>
    intro i j acc hi hj ha;have hil:i<s.length:=by omega
    refine Ev.succ ?_;simp only[gR.l0];refine Ev.pos (by rw[fX];omega) ?_;refine Ev.pos (by omega) ?_;rw[tT hil,List.drop_eq_getElem_cons hil]
    by_cases h:s[i]=c
    · refine Ev.pos (by rw[h]) ?_
      refine Ev.pos (by omega) ?_;refine Ev.pos (by omega) ?_;refine Ev.pos (by rw[fX];omega) ?_;refine Ev.pos (by omega) ?_;rw[dD (by omega),Eg,h,vU];have h1:=ih (i+1) (i+1) (acc++[bs ((s.take i).drop j)]) (by omega) (Nat.le_refl _) (by simp;omega);rw[List.drop_eq_nil_of_le (show(s.take (i+1)).length≤i+1 by rw[List.length_take];omega),Eh (rG _ _)]at h1;refine Ev.conv h1 ?_;simp[glue]
    · refine Ev.neg (fun e=>h (UInt8.toNat_inj.1 (by omega))) ?_
      rw[dD (by omega),tS h,II];have h1:=ih (i+1) j acc (by omega) (by omega) (by omega);rw[List.take_succ_eq_append_getElem hil,List.drop_append_of_le_length (by simp;omega)]at h1;exact h1

theorem Al (s:List UInt8) (c:UInt8) (hs:s.length≤1048576):Ev (fun k=>gR.f k (bs s) (c.toNat:Int)) ((gb c s).map bs):=by
  unfold gR.f;have h:=IG s c hs s.length 0 0 [] (by omega) (by omega) (by simp);rw[List.drop_zero,List.take_zero,Eh (rG _ _),List.nil_append]at h;exact h

theorem IJ (s:List UInt8) (hs:s.length≤9): ∀(d i x:Nat),i+d=s.length→1≤i→1≤x→(2≤i→10≤x)→2≤s.length→x<10 ^ i→
    ∃v:Int,Ev (fun k=>dS.l0 k (bs s) (x:Int) (i:Int)) v∧(v= -1∨10≤v):=by
  intro d
  induction d with
  | zero=>
    intro i x hi h1 hx h2 hl hp;refine⟨x, ?_,Or.inr (by have:=h2 (by omega);omega)⟩;refine Ev.succ ?_;simp only[dS.l0];refine Ev.neg (by rw[fX];omega) ?_;exact Ev.now _
  | succ d ih=>
    intro i x hi h1 hx h2 hl hp;have hil:i<s.length:=by omega
    have U7:(10:Nat) ^ i≤10 ^ 9:=Nat.pow_le_pow_right (by omega) (by omega)
    by_cases c1:s[i].toNat<48
    · refine⟨-1, ?_,Or.inl rfl⟩
      refine Ev.succ ?_;simp only[dS.l0];refine Ev.pos (by rw[fX];omega) ?_;refine Ev.pos (by omega) ?_;rw[tT hil];refine Ev.pos (by omega) ?_;exact Ev.now _
    by_cases c2:57<s[i].toNat
    · refine⟨-1, ?_,Or.inl rfl⟩
      refine Ev.succ ?_;simp only[dS.l0];refine Ev.pos (by rw[fX];omega) ?_;refine Ev.pos (by omega) ?_;rw[tT hil];refine Ev.neg (by omega) ?_;refine Ev.pos (by omega) ?_;exact Ev.now _
    obtain⟨v,h3,h4⟩:=ih (i+1) (x*10+(s[i].toNat - 48)) (by omega) (by omega) (by omega) (by omega) hl (by rw[Nat.pow_succ];omega);refine⟨v, ?_,h4⟩;refine Ev.succ ?_;simp only[dS.l0];refine Ev.pos (by rw[fX];omega) ?_;refine Ev.pos (by omega) ?_;rw[tT hil];refine Ev.neg (by omega) ?_;refine Ev.neg (by omega) ?_;have e:wrap64 (wrap64 ((x:Int)*10)+((s[i].toNat:Int) - 48) % 256)=((x*10+(s[i].toNat - 48):Nat):Int):=by
      rw[bg (x:=(x:Int)*10) (by omega) (by omega),bg (by omega) (by omega)]
      omega
    rw[e,dD (by omega)];exact h3

theorem Ei (b:UInt8):Ev (fun k=>dS.f k (bs [b])) (if 48≤b.toNat∧b.toNat≤57 then (b.toNat:Int) - 48 else -1):=by
  have e0:bt (bs [b]) 0=(b.toNat:Int):=tT (l:=[b]) (i:=0) (by simp);unfold dS.f;refine Ev.neg (by rw[fX];simp) ?_;refine Ev.neg (by rw[fX];simp) ?_;refine Ev.neg (by rw[fX];simp) ?_;refine Ev.succ ?_;simp only[dS.j0];refine Ev.neg (by decide) ?_;refine Ev.succ ?_;simp only[dS.l0];refine Ev.pos (by rw[fX];simp) ?_;refine Ev.pos (by omega) ?_;rw[e0]
  by_cases c1:b.toNat<48
  · refine Ev.pos (by omega) ?_
    rw[if_neg (by omega)];exact Ev.now _
  by_cases c2:57<b.toNat
  · refine Ev.neg (by omega) ?_
    refine Ev.pos (by omega) ?_;rw[if_neg (by omega)];exact Ev.now _
  refine Ev.neg (by omega) ?_;refine Ev.neg (by omega) ?_;refine Ev.succ ?_;simp only[dS.l0];refine Ev.neg (by rw[fX,bg (by omega) (by omega)];simp) ?_;rw[if_pos (by omega)];refine Ev.eq (congrArg some ?_);rw[bg (x:=(0:Int)*10) (by omega) (by omega),bg (by omega) (by omega)]
  omega

theorem Am {a:Int} (h0:0≤a) (h1:a<10):Ev (fun k=>dS.f k (bs [dg a])) a:=by
  have h:=Ei (dg a);have:=Eb h0 h1;rw[if_pos (by omega)]at h;refine Ev.conv h (by omega)

theorem Ao (s:List UInt8): ∃v:Int,Ev (fun k=>dS.f k (bs s)) v∧(0≤v→v<10→s= [dg v]):=by
  have fail: ∀k,dS.j0 (k+1) (bs s) true=some (-1):=fun k=>by simp[dS.j0]
  by_cases c0:s.length=0
  · refine⟨-1, ?_,by omega⟩
    unfold dS.f;refine Ev.pos (by rw[fX];omega) ?_;exact Ev.succ ⟨0,fun k _=>fail k⟩
  by_cases c9:9<s.length
  · refine⟨-1, ?_,by omega⟩
    unfold dS.f;refine Ev.neg (by rw[fX];omega) ?_;refine Ev.pos (by rw[fX];omega) ?_;exact Ev.succ ⟨0,fun k _=>fail k⟩
  by_cases c1:s.length=1
  · match s,c1 with
    | [b],_=>
      refine⟨_,Ei b,fun h0 h1=> ?_⟩
      by_cases c:48≤b.toNat∧b.toNat≤57
      · rw[if_pos c,Iz c.1]
      · rw[if_neg c]at h0
        omega
  have h0:0<s.length:=by omega
  have e0:bt (bs s) 0=(s[0].toNat:Int):=tT h0
  by_cases c2:s[0].toNat=48
  · refine⟨-1, ?_,by omega⟩
    unfold dS.f;refine Ev.neg (by rw[fX];omega) ?_;refine Ev.neg (by rw[fX];omega) ?_;refine Ev.pos (by rw[fX];omega) ?_;refine Ev.pos (by rw[fX];omega) ?_;rw[e0,c2];exact Ev.succ ⟨0,fun k _=>fail k⟩
  have e1:(((s[0].toNat:Nat):Int) == 48)=false:=by
    apply beq_eq_false_iff_ne.2
    omega
  by_cases c3:s[0].toNat<48∨57<s[0].toNat
  · refine⟨-1, ?_,by omega⟩
    unfold dS.f;refine Ev.neg (by rw[fX];omega) ?_;refine Ev.neg (by rw[fX];omega) ?_;refine Ev.pos (by rw[fX];omega) ?_;refine Ev.pos (by rw[fX];omega) ?_;rw[e0,e1];refine Ev.succ ?_;simp only[dS.j0];refine Ev.neg (by decide) ?_;refine Ev.succ ?_;simp only[dS.l0];refine Ev.pos (by rw[fX];omega) ?_;refine Ev.pos (by omega) ?_;rw[e0]
    by_cases c4:s[0].toNat<48
    · refine Ev.pos (by omega) ?_
      exact Ev.now _
    · refine Ev.neg (by omega) ?_
      refine Ev.pos (by omega) ?_;exact Ev.now _
  · obtain⟨v,h3,h4⟩:=IJ s (by omega) (s.length - 1) 1 (s[0].toNat - 48) (by omega) (by omega) (by omega) (by omega) (by omega) (by omega)
    refine⟨v, ?_,by omega⟩;unfold dS.f;refine Ev.neg (by rw[fX];omega) ?_;refine Ev.neg (by rw[fX];omega) ?_;refine Ev.pos (by rw[fX];omega) ?_;refine Ev.pos (by rw[fX];omega) ?_;rw[e0,e1];refine Ev.succ ?_;simp only[dS.j0];refine Ev.neg (by decide) ?_;refine Ev.succ ?_;simp only[dS.l0];refine Ev.pos (by rw[fX];omega) ?_;refine Ev.pos (by omega) ?_;rw[e0];refine Ev.neg (by omega) ?_;refine Ev.neg (by omega) ?_;have e:wrap64 (wrap64 ((0:Int)*10)+((s[0].toNat:Int) - 48) % 256)=((s[0].toNat - 48:Nat):Int):=by
      rw[bg (x:=(0:Int)*10) (by omega) (by omega),bg (by omega) (by omega)]
      omega
    rw[e,show wrap64 ((0:Int)+1)=((1:Nat):Int) from bg (by omega) (by omega)];exact h3
theorem Ej {xs:List (List UInt8)} {i:Nat} (h:i<xs.length):eu ByteArray.empty (xs.map bs) (i:Int)=bs xs[i]:=by
  simp[eu,List.getD_eq_getElem?_getD,h]

theorem IK (ps:List (List UInt8)) (hps:ps.length≤1048576) (hpl: ∀p∈ps,p.length≤1048576) (n:Int): ∀(d i:Nat) (E:List (List Int)),i+d=ps.length→E.length=i→(∀r∈E,r.length=2)→
    ∃r,Ev (fun k=>eO.l0 k (ps.map bs) (i:Int) n E) r∧
      ((r=(0,[],false)∧∀l,eN n (E++l)=true→ps.drop i≠l.map word)∨
       ∃l,r=(n,E++l,true)∧eN n (E++l)=true∧ps.drop i=l.map word):=by
  intro d
  induction d with
  | zero=>
    intro i E hi hE hr;have hm:Mod E:=⟨by omega,fun r h=>by rw[hr r h];omega⟩;have e:ps.drop i= []:=List.drop_eq_nil_of_le (by omega)
    by_cases g:eN n E=true
    · refine⟨(n,E,true), ?_,Or.inr ⟨[],by rw[List.append_nil],by rw[List.append_nil];exact g,e⟩⟩
      refine Ev.succ ?_;simp only[eO.l0];refine Ev.neg (by rw[List.length_map];omega) ?_;refine Ev.bind (vZ n E hm) ?_;rw[g]
      repeat (first | with_reducible exact Ev.now _ | dsimp only | refine Ev.cr ?_ | refine Ev.cu ?_ | simp only[bne_self_eq_false,Bool.not_true,Bool.not_false,List.length_cons,List.length_nil] | rw[bg (by omega) (by omega)] | ((with_reducible refine Ev.eq (congrArg some ?_));rfl))
    · refine⟨(0,[],false), ?_,Or.inl ⟨rfl,fun l hg hl=> ?_⟩⟩
      · refine Ev.succ ?_;simp only[eO.l0]
        refine Ev.neg (by rw[List.length_map];omega) ?_;refine Ev.bind (vZ n E hm) ?_;rw[Bool.eq_false_iff.2 g]
        repeat (first | with_reducible exact Ev.now _ | dsimp only | refine Ev.cr ?_ | refine Ev.cu ?_ | simp only[bne_self_eq_false,Bool.not_true,Bool.not_false,List.length_cons,List.length_nil] | rw[bg (by omega) (by omega)] | ((with_reducible refine Ev.eq (congrArg some ?_));rfl))
      · rw[e]at hl
        have:l= []:=by simpa using hl.symm
        rw[this,List.append_nil]at hg;exact g hg
  | succ d ih=>
    intro i E hi hE hr;have hil:i<ps.length:=by omega
    have hp:=hpl ps[i] (List.getElem_mem hil);have hsp:=Al ps[i] 45 hp;have U8:(((45:UInt8).toNat:Nat):Int)=45:=rfl;rw[U8]at hsp;have hd:ps.drop i=ps[i] :: ps.drop (i+1):=List.drop_eq_getElem_cons hil
    by_cases h2:(gb 45 ps[i]).length=2
    · obtain⟨u,v,huv⟩:=Ap h2
      obtain⟨a,ha,ha'⟩:=Ao u;obtain⟨b,hb,hb'⟩:=Ao v;obtain⟨r,h3,h4⟩:=ih (i+1) (E++[[a,b]]) (by omega) (by simp[hE]) (fun r h=>by
        rcases List.mem_append.1 h with h | h
        · exact hr r h
        · rw[List.mem_singleton.1 h];rfl)
      have hj:ps[i]=u++45 :: v:=by rw[← Af 45 ps[i],huv];rfl
      refine⟨r, ?_, ?_⟩
      · refine Ev.succ ?_;simp only[eO.l0]
        refine Ev.pos (by rw[List.length_map];omega) ?_;refine Ev.pos (by omega) ?_;rw[Ej hil];refine Ev.bind hsp ?_;rw[huv];refine Ev.pos (by simp) ?_;refine Ev.pos (by simp) ?_;refine Ev.bind (f:=fun k t=>_) (show Ev (fun k=>dS.f k (eu ByteArray.empty (List.map bs [u,v]) 0)) a from ha) ?_;refine Ev.pos (by simp) ?_;refine Ev.bind (f:=fun k t=>_) (show Ev (fun k=>dS.f k (eu ByteArray.empty (List.map bs [u,v]) 1)) b from hb) ?_;refine Ev.pos (by omega) ?_;rw[dD (by omega)];exact h3
      · rcases h4 with ⟨rfl,h4⟩ | ⟨l,rfl,h5,h6⟩
        · refine Or.inl ⟨rfl,fun l hg hl=> ?_⟩
          cases l with
          | nil=>rw[hd]at hl;cases hl
          | cons e l=>
            rw[hd,List.map_cons]at hl
            injection hl with hl1 hl2
            have hw:=Ee hg (e:=e) (by simp);rw[← hl1,huv]at hw
            injection hw with hw1 U7
            injection U7 with U7 _
            obtain⟨x,y,rfl,ex,ey,x0,x1,y0,y1⟩:=yw hg (e:=e) (by simp);rw[ex]at hw1;rw[ey]at U7;subst hw1 U7;have ea:=Ev.uniq ha (Am x0 (by omega));have eb:=Ev.uniq hb (Am y0 (by omega));subst ea eb;exact h4 l (by rw[List.append_assoc];exact hg) hl2
        · have hg:eN n (E++([a,b] :: l))=true:=by rw[List.append_assoc]at h5;exact h5
          refine Or.inr ⟨[a,b] :: l,by rw[List.append_assoc];rfl,hg, ?_⟩;obtain⟨x,y,e,ex,ey,x0,x1,y0,y1⟩:=yw hg (e:=[a,b]) (by simp)
          injection e with e1 e2
          injection e2 with e2 _
          subst e1 e2;rw[hd,List.map_cons,h6,hj,ha' x0 (by omega),hb' y0 (by omega)]
          rfl
    · refine⟨(0,[],false), ?_,Or.inl ⟨rfl,fun l hg hl=> ?_⟩⟩
      · refine Ev.succ ?_;simp only[eO.l0]
        refine Ev.pos (by rw[List.length_map];omega) ?_;refine Ev.pos (by omega) ?_;rw[Ej hil];refine Ev.bind hsp ?_;refine Ev.neg (by rw[List.length_map];omega) ?_;exact Ev.now _
      · cases l with
        | nil=>rw[hd]at hl;cases hl
        | cons e l=>
          rw[hd,List.map_cons]at hl
          injection hl with hl1 hl2
          have hw:=Ee hg (e:=e) (by simp);rw[← hl1]at hw;rw[hw]at h2;exact h2 rfl

theorem IL (c:UInt8) (s:List UInt8):(gb c s).length≤s.length+1:=by
  rw[IM];have:=List.count_le_length (a:=c) (l:=s)
  omega

theorem IP {c:UInt8} {s p:List UInt8} (h:p∈gb c s):p.length≤s.length:=by
  induction s generalizing p with
  | nil=>simp[gb]at h;simp[h]
  | cons b s ih=>
    by_cases e:b=c
    · subst e
      rw[vU]at h;rcases List.mem_cons.1 h with rfl | h
      · simp
      · have:=ih h;simp;omega
    · rw[tS e]at h
      cases hs:gb c s with
      | nil=>exact absurd hs (rG c s)
      | cons x xs=>
        rw[hs]at h ih;rcases List.mem_cons.1 h with rfl | h
        · have:=ih (List.mem_cons_self)
          simp at this ⊢
          omega
        · have:=ih (List.mem_cons_of_mem _ h)
          simp;omega

theorem IQ (s:List UInt8) (hs:s.length≤1048576): ∃r,Ev (fun k=>eO.f k (bs s)) r∧
    ((r=(0,[],false)∧∀n l,eN n l=true→s≠txt n l)∨∃n l,r=(n,l,true)∧eN n l=true∧s=txt n l):=by
  have hsp:=Al s 58 hs;have U9:(((58:UInt8).toNat:Nat):Int)=58:=rfl;rw[U9]at hsp
  by_cases h2:(gb 58 s).length=2
  · obtain⟨u,v,huv⟩:=Ap h2
    have hj:s=u++58 :: v:=by rw[← Af 58 s,huv];rfl
    have hv:v.length+1≤s.length:=by rw[hj,List.length_append,List.length_cons];omega
    obtain⟨n,hn,hn'⟩:=Ao u;have U7:=Al v 44 (by omega);have U8:(((44:UInt8).toNat:Nat):Int)=44:=rfl;rw[U8]at U7;have hc:=IL 44 v;obtain⟨ps,hpe,hps,hpl,hem⟩: ∃ps:List (List UInt8),ps=(if v= [] then [] else gb 44 v)∧ps.length≤1048576∧(∀p∈ps,p.length≤1048576)∧kW 44 ps=v:=by
      refine⟨_,rfl, ?_, ?_, ?_⟩
      · split
        · simp
        · omega
      · intro p hp
        split at hp
        · cases hp
        · have:=IP hp;omega
      · split
        · next h=>rw[h];rfl
        · exact Af 44 v
    obtain⟨r,h3,h4⟩:=IK ps hps hpl n ps.length 0 [] (by omega) rfl (by simp);refine⟨r, ?_, ?_⟩
    · unfold eO.f
      refine Ev.bind hsp ?_;rw[huv];refine Ev.pos (by simp) ?_;refine Ev.pos (by simp) ?_;refine Ev.bind (f:=fun k t=>_) (show Ev (fun k=>dS.f k (eu ByteArray.empty (List.map bs [u,v]) 0)) n from hn) ?_;refine Ev.bind (Ev.now _) ?_;refine Ev.pos (by simp) ?_;refine Ev.bind (f:=fun k t=>_) (show Ev (fun k=>gR.f k (eu ByteArray.empty (List.map bs [u,v]) 1) 44) _ from U7) ?_;have ev:(eu ByteArray.empty (List.map bs [u,v]) 1).toList=v:=IU v;rw[ev]
      by_cases hv0:v= []
      · refine Ev.pos hv0 ?_
        rw[if_pos hv0]at hpe;refine Ev.succ ?_;simp only[eO.j0];rw[hpe]at h3;exact h3
      · refine Ev.neg hv0 ?_
        rw[if_neg hv0]at hpe;refine Ev.succ ?_;simp only[eO.j0];rw[hpe]at h3;exact h3
    · rw[List.drop_zero]at h4
      rcases h4 with ⟨rfl,h4⟩ | ⟨l,rfl,h5,h6⟩
      · refine Or.inl ⟨rfl,fun n' l hg hs'=> ?_⟩
        have hts:=Ed hg;rw[← hs',huv]at hts
        injection hts with t1 t2
        injection t2 with t2 _
        subst t1;obtain⟨g1,g2,g3⟩:=iD hg;have en:=Ev.uniq hn (Am (a:=n') (by omega) (by omega));subst en;refine h4 l hg ?_;rw[hpe];cases l with
        | nil=>
          rw[if_pos (by rw[t2];rfl)]
          rfl
        | cons e l=>
          rw[if_neg,t2,IA hg (by simp)];rw[t2];cases l<;>simp[kW,word]
      · rw[List.nil_append]at h5
        refine Or.inr ⟨n,l,rfl,h5, ?_⟩;obtain⟨g1,g2,g3⟩:=iD h5;rw[hj,hn' (by omega) (by omega),← hem,h6]
        rfl
  · refine⟨(0,[],false), ?_,Or.inl ⟨rfl,fun n l hg hs'=> ?_⟩⟩
    · unfold eO.f
      refine Ev.bind hsp ?_;refine Ev.neg (by rw[List.length_map];omega) ?_;exact Ev.now _
    · rw[hs',Ed hg]at h2
      exact h2 rfl
/-- At most so many edges, each of at most two numbers. -/
def Ge (a:Nat) (l:List (List Int)):Prop:=l.length≤a∧∀r∈l,r.length≤2
def Gd (l:List (List Int)):Prop:=l.length≤11∧∀r∈l,r.length≤3

theorem Ge.nil (a:Nat):Ge a []:=⟨Nat.zero_le _,fun r h=>absurd h (by simp)⟩

theorem Ge.snoc {a:Nat} {l:List (List Int)} (h:Ge a l) (hl:l.length<a) (x y:Int):Ge a (l++[[x,y]]):=by
  refine⟨by simp;omega,fun r hr=> ?_⟩;rcases List.mem_append.1 hr with hr | hr
  · exact h.2 r hr
  · rw[List.mem_singleton.1 hr];exact Nat.le_refl _

theorem Ge.gd {l:List (List Int)} (h:Ge 11 l):Gd l:=⟨h.1,fun r hr=>by have:=h.2 r hr;omega⟩
theorem Ge.mono {a b:Nat} {l:List (List Int)} (h:Ge a l) (hab:a≤b):Ge b l:=⟨Nat.le_trans h.1 hab,h.2⟩
theorem Gd.mod {l:List (List Int)} (h:Gd l):Mod l:=⟨by have:=h.1;omega,fun r hr=>by have:=h.2 r hr;omega⟩

theorem IV (n:Int) (l:List (List Int)) (hl:Ge 10 l): ∀(d i:Nat),i+d=l.length→Ev (fun k=>gf.l0 k (i:Int) n l n (l.take i)) (n,l):=by
  have h10:=hl.1;intro d
  induction d with
  | zero=>
    intro i hi;refine Ev.succ ?_;simp only[gf.l0];refine Ev.neg (by omega) ?_;rw[List.take_of_length_le (by omega)];exact Ev.now _
  | succ d ih=>
    intro i hi;refine Ev.succ ?_;simp only[gf.l0];have hr:(aG l (i:Int)).length≤2:=by
      rw[mW (by omega)];exact hl.2 _ (List.getElem_mem _)
    refine Ev.pos (by omega) (Ev.pos (by omega) (Ev.bind (Ev.eq (IE _ (by omega))) (Ev.pos (by simp;omega) ?_)));rw[dD (by omega)];have:=ih (i+1) (by omega);rw[List.take_succ_eq_append_getElem (by omega),← mW (by omega)]at this;exact this

theorem copy_eq (n:Int) (l:List (List Int)) (hl:Ge 10 l):Ev (fun k=>gf.f k n l) (n,l):=IV n l hl l.length 0 (by omega)

section
variable {c:List Int} (hc:Code c)
include hc

omit hc in
theorem IW (n:Int): ∀(d:Nat) (l:List (List Int)) (a h:Int),0≤a→l.length+d=11→Ge 11 l→Dr (fun k=>gZ.l0 k c a h n l) (fun r=>Gd r.2.1∧0≤r.2.2.1):=by
  intro d
  induction d with
  | zero=>
    intro l a h ha hl hg;refine Dr.succ ?_;simp only[gZ.l0];exact Dr.neg (by omega) (Dr.now ⟨hg.gd,ha⟩)
  | succ d ih=>
    intro l a h ha hl hg;refine Dr.succ ?_;simp only[gZ.l0];refine Dr.pos (by omega) (Dr.pos (by omega) ?_);exact ih _ a h ha (by simp;omega) (hg.snoc (by omega) 0 0)

theorem IX {a:Int} (ha:0≤a) (h n:Int) (l:List (List Int)) (hl:Ge 10 l):Dr (fun k=>gZ.f k c a h n l) (fun r=>Gd r.2.1∧0≤r.2.2.1):=by
  unfold gZ.f;have h10:=hl.1;have gd:=(hl.mono (show 10≤11 by omega)).gd;have U7:Dr (fun k=>gf.f k n l) (fun r=>r=(n,l)):=⟨_,copy_eq n l hl,rfl⟩;refine Dr.bind (Dr.eq (jr hc ha h 40)) (fun r hr=> ?_);refine Dr.ite (fun _=> ?_) (fun _=>Dr.ite (fun _=> ?_) (fun _=>Dr.ite (fun _=> ?_) (fun _=>Dr.ite (fun _=> ?_) (fun _=> ?_))))
  · exact Dr.bind (Dr.eq (vX hc hr.1 _ _ (by simp))) (fun p hp=>Dr.now ⟨gd,hp.1⟩)
  · refine Dr.bind U7 (fun q hq=> ?_)
    subst hq;exact Dr.pos (by simp only;omega) (Dr.now ⟨((hl.mono (show 10≤11 by omega)).snoc (by omega) 0 n).gd,hr.1⟩)
  · refine Dr.bind U7 (fun q hq=> ?_)
    subst hq;refine Dr.ite (fun h0=> ?_) (fun _=>Dr.now ⟨gd,hr.1⟩);simp only at h0;refine Dr.bind (Dr.eq (jr hc hr.1 _ _)) (fun p hp=> ?_);have h1:=hp.2.2.1 (by simp only;omega);simp only at h1;obtain⟨i,hi⟩:=Int.eq_ofNat_of_zero_le hp.2.1;have hrow:(aG l p.1).length≤2:=by
      rw[hi,mW (by omega)];exact hl.2 _ (List.getElem_mem _)
    refine Dr.pos hp.2.1 (Dr.pos h1 (Dr.pos (by simp only;omega) (Dr.now ⟨⟨by simp only[List.length_set];omega,fun r hr=> ?_⟩,hp.1⟩)));rcases List.mem_or_eq_of_mem_set hr with h | h
    · have:=hl.2 r h;omega
    · rw[h];simp;omega
  · refine Dr.bind U7 (fun q hq=> ?_)
    subst hq;exact IW n (11 - l.length) l _ _ hr.1 (by omega) (hl.mono (by omega))
  · exact Dr.now ⟨gd,hr.1⟩

theorem IY (n z:Int) (hz:1≤z) (m:Nat) (hm:m≤10): ∀(d:Nat) (l:List (List Int)) (a h:Int),0≤a→d≤100→Ge m l→Dr (fun k=>dM.l1 k z (m:Int) (d:Int) c a h n l) (fun r=>Ge 10 r.2.1∧0≤r.2.2.1):=by
  intro d
  induction d with
  | zero=>
    intro l a h ha hd hl;refine Dr.succ ?_;simp only[dM.l1];refine Dr.neg (by omega) (Dr.succ ?_);simp only[dM.j3];exact Dr.neg (by decide) (Dr.now ⟨hl.mono hm,ha⟩)
  | succ d ih=>
    intro l a h ha hd hl;refine Dr.succ ?_;simp only[dM.l1];refine Dr.pos (by omega) (Dr.succ ?_);simp only[dM.j3];have hlm:=hl.1;refine Dr.ite (fun hx=> ?_) (fun _=>Dr.now ⟨hl.mono hm,ha⟩);have hlt:l.length<m:=by have:=of_decide_eq_true hx;omega
    have e:wrap64 (((d+1:Nat):Int) - 1)=(d:Int):=by rw[bg (by omega) (by omega)];omega
    rw[e];refine Dr.bind (Dr.eq (jr hc ha _ _)) (fun p hp=>Dr.bind (Dr.eq (jr hc hp.1 _ _)) (fun q hq=> ?_));refine Dr.ite (fun _=> ?_) (fun _=>Dr.pos (by omega) (ih _ _ _ hq.1 (by omega) (hl.snoc hlt _ _)));refine Dr.bind (Dr.eq (jr hc hq.1 _ _)) (fun s hs=> ?_);refine Dr.ite (fun _=>Dr.neg (by omega) (Dr.pos (by omega) (ih _ _ _ hs.1 (by omega) (hl.snoc hlt _ _)))) (fun _=>Dr.pos (by omega) (ih _ _ _ hs.1 (by omega) (hl.snoc hlt _ _)))

theorem yx (n z:Int) (hz:1≤z) (m:Nat) (hm:m≤10) (b:Bool) (v:Int) (l:List (List Int)) {a:Int} (ha:0≤a) (h:Int) (hl:Ge m l):Dr (fun k=>dM.j1 k z (m:Int) b v false c a h n l) (fun r=>Ge 10 r.2.1∧0≤r.2.2.1):=by
  refine Dr.succ ?_;simp only[dM.j1];refine Dr.neg (by decide) (Dr.bind (Dr.eq (jr hc ha _ _)) (fun r hr=> ?_));rw[bg (x:=(m:Int)+1) (by omega) (by omega)]at hr;have h2:=hr.2.2.1 (by omega);obtain⟨d,hd⟩:=Int.eq_ofNat_of_zero_le hr.2.1;rw[hd];exact IY hc n z hz m hm d l _ _ hr.1 (by omega) hl

theorem IZ (n z:Int) (hz:1≤z) (Ek:z≤8) (m:Nat) (hm:m≤10) (b:Bool): ∀(d v:Nat) (l:List (List Int)) (a h:Int),0≤a→z≤v+d→v≤100→Ge m l→Dr (fun k=>dM.l0 k z (m:Int) b (v:Int) c a h n l) (fun r=>Ge 10 r.2.1∧0≤r.2.2.1):=by
  intro d
  induction d with
  | zero=>
    intro v l a h ha hv U7 hl;refine Dr.succ ?_;simp only[dM.l0];exact Dr.neg (by omega) (yx hc n z hz m hm b v l ha h hl)
  | succ d ih=>
    intro v l a h ha hv U7 hl;have hlm:=hl.1;refine Dr.succ ?_;simp only[dM.l0];refine Dr.ite (fun U8=> ?_) (fun _=>yx hc n z hz m hm b v l ha h hl);refine Dr.ite (fun _=> ?_) (fun _=>yx hc n z hz m hm b v l ha h hl)
    by_cases hlt:(l.length:Int)<m
    · rw[decide_eq_true hlt]
      refine Dr.succ ?_;simp only[dM.j1];rw[dD (i:=v) (by omega)];refine Dr.pos (by first | exact trivial | rfl) (Dr.bind (Dr.eq (jr hc ha _ _)) (fun p hp=>Dr.bind (Dr.eq (jr hc hp.1 _ _)) (fun q hq=> ?_)));refine Dr.ite (fun _=>Dr.pos (by omega) (ih (v+1) _ _ _ hq.1 (by omega) (by omega) (hl.snoc (by omega) _ _))) (fun _=>Dr.pos (by omega) (ih (v+1) _ _ _ hq.1 (by omega) (by omega) (hl.snoc (by omega) _ _)))
    · rw[decide_eq_false hlt]
      exact yx hc n z hz m hm b v l ha h hl

theorem I0 {a:Int} (ha:0≤a) (h z:Int) (hz:1≤z) (Ek:z≤8) (m:Int) (hm0:0≤m) (hm:m≤10):Dr (fun k=>dM.f k c a h z m) (fun r=>Ge 10 r.2.1∧0≤r.2.2.1):=by
  unfold dM.f;obtain⟨m',rfl⟩:=Int.eq_ofNat_of_zero_le hm0;exact Dr.bind (Dr.eq (jr hc ha _ _)) (fun r hr=>IZ hc z z hz Ek m' (by omega) _ 8 1 [] _ _ hr.1 (by omega) (by omega) (Ge.nil _))

omit hc in
theorem I1 {p:Prop} [Decidable p] {x y:Option ByteArray} (h1: ∃t:ByteArray,x=some t∧t.size≤100) (h2: ∃t:ByteArray,y=some t∧t.size≤100): ∃t:ByteArray,(if p then x else y)=some t∧t.size≤100:=by
  by_cases h:p
  · rw[if_pos h];exact h1
  · rw[if_neg h];exact h2

omit hc in
theorem I2 (a:ByteArray): ∃t:ByteArray,rH.f a=some t∧t.size≤100:=by
  unfold rH.f
  repeat' with_reducible refine I1 ?_ ?_
  all_goals exact⟨_,rfl,by decide⟩

omit hc in
theorem I3 (a:ByteArray):Dr (fun k=>rI.f k a) (fun r=>Ge 10 r.2.1):=by
  unfold rI.f;obtain⟨t,ht,hs⟩:=I2 a;obtain⟨s,rfl⟩:=I4 t;rw[fX]at hs;refine Dr.bind (Dr.eq ⟨_,ht,rfl⟩) (fun x hx=> ?_);rw[← hx];obtain⟨r,he,hr⟩:=IQ s (by omega);refine Dr.bind (P:=fun x=>x=r) ⟨r,he,rfl⟩ (fun x hx=> ?_);subst hx;refine Dr.now ?_;rcases hr with ⟨rfl,_⟩ | ⟨n,l,rfl,hg,_⟩
  · exact Ge.nil _
  · obtain⟨_,_,h3,h4⟩:=(vW n l).1 hg
    refine⟨h3,fun r hr=> ?_⟩;obtain⟨x,y,rfl,_⟩:=h4 r hr;exact Nat.le_refl _

theorem I5 {a:Int} (ha:0≤a) (h:Int):Dr (fun k=>rJ.f k c a h) (fun r=>Ge 10 r.2.1∧0≤r.2.2.1):=by
  unfold rJ.f;refine Dr.bind (Dr.eq (jr hc ha _ _)) (fun r hr=>Dr.ite (fun _=> ?_) (fun _=> ?_))
  · refine Dr.bind (Dr.eq ⟨_,rfl,rfl⟩) (fun x hx=> ?_)
    have U9:x.length=14:=by rw[← hx];rfl
    refine Dr.bind (Dr.eq (jr hc hr.1 _ _)) (fun p hp=> ?_);have h1:=hp.2.2.1 (by omega);exact Dr.pos hp.2.1 (Dr.pos h1 (Dr.bind (I3 _) (fun q hq=>Dr.now ⟨hq,hp.1⟩)))
  · refine Dr.bind (Dr.eq (jr hc hr.1 _ _)) (fun p hp=> ?_)
    have U7:=hp.2.2.1 (by omega);have U8:=hp.2.1;have e:wrap64 (1+p.1)=1+p.1:=bg (by omega) (by omega);rw[e];refine Dr.bind (Dr.eq (vX hc hp.1 _ _ (by simp))) (fun z hz=> ?_);have hz1:1≤z.1∧z.1≤8:=by
      have:=hz.2;simp only[List.mem_cons,List.not_mem_nil,or_false]at this
      omega
    refine Dr.bind (Dr.eq (vX hc hz.1 _ _ (by decide))) (fun m hm=> ?_);have hm1:0≤m.1∧m.1≤10:=by
      have: ∀y∈([2,4,6,6,8,10]:List Int),0≤y∧y≤10:=by decide
      exact this _ hm.2
    exact Dr.bind (I0 hc hm.1 _ _ hz1.1 hz1.2 _ hm1.1 hm1.2) (fun q hq=>Dr.now hq)

theorem Em {a:Int} (ha:0≤a) (h:Int):Dr (fun k=>o6.f k c a h) (fun r=>Gd r.2.1∧0≤r.2.2.1):=by
  unfold o6.f;exact Dr.bind (I5 hc ha h) (fun r hr=>Dr.bind (IX hc hr.2 _ _ _ hr.1) (fun q hq=>Dr.now hq))

end
section
variable {c:List Int} (hc:Code c)
include hc

/-- A drawn cover: of moderate size. -/
def Cd (r:Int×List (List Int)×Int×List (List Int)×Int×Int):Prop:=Gd r.2.1∧r.2.2.2.1.length≤12∧(∀x∈r.2.2.2.1,x.length≤100)∧0≤r.2.2.2.2.1

omit hc in
theorem I6 {l:List (List Int)} {w:List Int} (h:js l w=true) {x:Int} (h0:0≤x) (h1:x<2*(l.length:Int)):js l (w++[x])=true:=by
  unfold js at h ⊢;rw[List.all_append,h,Bool.true_and,List.all_cons,List.all_nil,Bool.and_true];exact decide_eq_true (by omega)

section
variable {n:Int} {l:List (List Int)} (hg:eN n l=true) (Aq:0<l.length)
include hg Aq

omit Aq in
theorem Ar (x:List Int) (m:Int) (d:Nat) (hd:d≤20) (hx:x.length+d≤20) (o7:js l x=true) (o:Int) (ho:0≤o) (mX:o<2*(l.length:Int)) {a:Int} (ha:0≤a) (h:Int) (hm:m=((d+1:Nat):Int))
    (next: ∀(y:List Int) (a h:Int),0≤a→y.length+d≤21→js l y=true→Dr (fun k=>cU.l0 k y (2*(l.length:Int)) (d:Int) c a h n l) (fun r=>r.1.length≤30)):Dr (fun k=>cU.j3 k x (2*(l.length:Int)) m o c a h n l) (fun r=>r.1.length≤30):=by
  refine Dr.succ ?_;simp only[cU.j3];refine Dr.pos (by omega) (Dr.bind (Dr.eq ⟨_,rfl,rfl⟩) (fun y hy=> ?_));have hy1:y.length=x.length+1:=by rw[← hy];simp
  have U7:js l y=true:=by rw[← hy];exact I6 o7 ho mX
  have e:wrap64 (m - 1)=(d:Int):=by rw[hm,bg (by omega) (by omega)];omega
  rw[e];have hcl:Dr (fun k=>dP.f k n l y) (fun _=>True):=by
    unfold dP.f;exact⟨_,En hg U7 (by omega) y.length 0 (by omega),trivial⟩
  refine Dr.bind hcl (fun t _=>Dr.ite (fun _=> ?_) (fun _=>next y _ _ ha (by omega) U7));refine Dr.bind (Dr.eq (jr hc ha _ _)) (fun p hp=>Dr.ite (fun _=> ?_) (fun _=>next y _ _ hp.1 (by omega) U7));refine Dr.bind (Dr.eq (jr hc hp.1 _ _)) (fun q hq=>Dr.ite (fun _=>Dr.pos (by omega) (Dr.now (by simp;omega))) (fun _=>Dr.now (by simp only;omega)))

theorem I7 (x:List Int) (m:Int) (d:Nat) (hd:d≤20) (hx:x.length+d≤20) (o7:js l x=true) (o:Int) (ho:0≤o) (mX:o<2*(l.length:Int)) (z:Int) (hm:m=((d+1:Nat):Int))
    (next: ∀(y:List Int) (a h:Int),0≤a→y.length+d≤21→js l y=true→Dr (fun k=>cU.l0 k y (2*(l.length:Int)) (d:Int) c a h n l) (fun r=>r.1.length≤30)): ∀(e i:Nat) (a h:Int),i+e=2*l.length→0≤a→Dr (fun k=>cU.l1 k x (2*(l.length:Int)) m o z (i:Int) c a h n l) (fun r=>r.1.length≤30):=by
  obtain⟨g1,g2,g3⟩:=iD hg;intro e
  induction e with
  | zero=>
    intro i a h hi ha;refine Dr.succ ?_;simp only[cU.l1];exact Dr.neg (by omega) (Ar hc hg x m d hd hx o7 o ho mX ha h hm next)
  | succ e ih=>
    intro i a h hi ha;refine Dr.succ ?_;simp only[cU.l1];rw[bg (x:=o+i) (by omega) (by omega),dD (i:=i) (by omega)];have ht:=Aj (x:=o+i) (n:=2*(l.length:Int)) (by omega) (by omega);refine Dr.pos (by omega) (Dr.neg (by omega) ?_);generalize Int.tmod (o+i) (2*(l.length:Int))=q at ht;obtain⟨p,rfl⟩:=Int.eq_ofNat_of_zero_le ht.1;refine Dr.bind (Dr.eq ⟨_,tU hg (p:=p) (by omega),rfl⟩) (fun y hy=> ?_);exact Dr.ite (fun _=>Ar hc hg x m d hd hx o7 _ ht.1 ht.2 ha h hm next) (fun _=>ih (i+1) a h (by omega) ha)

theorem I8: ∀(d:Nat) (x:List Int) (a h:Int),0≤a→d≤20→x.length+d≤21→js l x=true→Dr (fun k=>cU.l0 k x (2*(l.length:Int)) (d:Int) c a h n l) (fun r=>r.1.length≤30):=by
  obtain⟨g1,g2,g3⟩:=iD hg;intro d
  induction d with
  | zero=>
    intro x a h ha hd hx o7;refine Dr.succ ?_;simp only[cU.l0];refine Dr.neg (by omega) (Dr.bind (Dr.eq (jr hc ha _ _)) (fun q hq=>Dr.ite (fun _=>Dr.pos (by omega) (Dr.now (by simp;omega))) (fun _=>Dr.now (by simp only;omega))))
  | succ d ih=>
    intro x a h ha hd hx o7;refine Dr.succ ?_;simp only[cU.l0];refine Dr.pos (by omega) (Dr.bind (Dr.eq (jr hc ha _ _)) (fun o ho=> ?_));have mX:=ho.2.2.1 (by omega);have nx: ∀(y:List Int) (a h:Int),0≤a→y.length+d≤21→js l y=true→Dr (fun k=>cU.l0 k y (2*(l.length:Int)) (d:Int) c a h n l) (fun r=>r.1.length≤30):=fun y a h ha hy U7=>ih y a h ha (by omega) hy U7
    refine Dr.ite (fun h0=> ?_) (fun _=>Ar hc hg x _ d (by omega) (by omega) o7 _ ho.2.1 mX ho.1 _ rfl nx);rw[bg (x:=(x.length:Int) - 1) (by omega) (by omega)];have e1:(x.length:Int) - 1=((x.length - 1:Nat):Int):=by omega
    obtain⟨e2,r2⟩:=rK o7 (show x.length - 1<x.length by omega);refine Dr.pos (by omega) (Dr.pos (by omega) ?_);rw[e1,e2];refine Dr.bind (Dr.eq ⟨_,tU hg r2,rfl⟩) (fun y hy=> ?_);exact I7 hc hg Aq x _ d (by omega) (by omega) o7 _ ho.2.1 mX _ rfl nx (2*l.length) 0 _ _ (by omega) ho.1

end

theorem I9 {a:Int} (ha:0≤a) (h n:Int) (l:List (List Int)) (hl:Gd l):Dr (fun k=>cU.f k c a h n l) (fun r=>r.1.length≤30):=by
  have U7:=hl.1;unfold cU.f;have ew:wrap64 (2*(l.length:Int))=2*(l.length:Int):=bg (by omega) (by omega);rw[ew];have stop:Dr (fun k=>cU.j0 k [] (2*(l.length:Int)) true c a h n l) (fun r=>r.1.length≤30):=by
    refine Dr.succ ?_;simp only[cU.j0];exact Dr.pos (by first | exact trivial | rfl) (Dr.now (by simp))
  refine Dr.bind (P:=fun y=>y= []) (Dr.eq ⟨_,rfl,rfl⟩) (fun y hy=> ?_);subst hy;refine Dr.ite (fun _=>stop) (fun h0=> ?_);refine Dr.bind (P:=fun b=>b=eN n l) ⟨_,vZ n l hl.mod,rfl⟩ (fun b hb=> ?_);subst hb;cases hg:eN n l with
  | false=>exact stop
  | true=>
    refine Dr.succ ?_;simp only[cU.j0];refine Dr.neg (by decide) (Dr.bind (Dr.eq (jr hc ha _ _)) (fun p hp=> ?_));have h1:=hp.2.2.1 (by omega);have h2:=hp.2.1;obtain⟨q,hq⟩:=Int.eq_ofNat_of_zero_le h2;have e:wrap64 (1+p.1)=((q+1:Nat):Int):=by rw[bg (by omega) (by omega)];omega
    rw[e];exact I8 hc hg (by omega) (q+1) [] _ _ hp.1 (by omega) (by simp;omega) rfl

end
section
variable {c:List Int} (hc:Code c)
include hc

theorem Ja {a:Int} (ha:0≤a) (h m:Int): ∃r:Int×Int×Int,rL.f c a h m=some r∧0≤r.2.1:=by
  unfold rL.f;obtain⟨r,e,h1,_⟩:=jr hc ha h 14;rw[e];simp only[Option.bind_some]
  by_cases h0:r.1=0
  · rw[if_pos h0]
    obtain⟨p,e2,h2,_⟩:=vX hc h1 r.2.2 [-1,wrap64 (m+1),1099511627776, -4611686018427387904] (by simp);rw[e2];exact⟨_,rfl,h2⟩
  · rw[if_neg h0]
    obtain⟨p,e2,h2,_⟩:=jr hc h1 r.2.2 (wrap64 (m+1));rw[e2];exact⟨_,rfl,h2⟩

theorem Au:Dr (fun k=>nD.f k c) (fun r=>Mod r.2.1):=by
  unfold nD.f;refine Dr.bind (Ef c hc) (fun s hs=> ?_);obtain⟨s0,s1,s2⟩:=s;obtain⟨rfl,hs⟩:=hs;refine Dr.bind (Em hc hs _) (fun g hg=>Dr.bind (Dr.eq (Ja hc hg.2 _ _)) (fun p hp=>Dr.bind (Dr.eq (vX hc hp _ _ (by simp))) (fun q hq=>Dr.now hg.1.mod)))

theorem Jb:Dr (fun k=>rM.f k c) (fun r=>Mod r.2.1∧r.2.2.length≤30):=by
  unfold rM.f;refine Dr.bind (Ef c hc) (fun s hs=> ?_);obtain⟨s0,s1,s2⟩:=s;obtain⟨rfl,hs⟩:=hs;exact Dr.bind (Em hc hs _) (fun g hg=>Dr.bind (I9 hc hg.2 _ _ _ hg.1) (fun q hq=>Dr.now ⟨hg.1.mod,hq⟩))

end
theorem Jc (a b:List Int) (hl:a.length≤1048576) (hab:a.length=b.length): ∀(d i:Nat),i+d=a.length→
    Ev (fun k=>jt.l0 k a b (i:Int)) (decide (a.drop i=b.drop i)):=by
  intro d
  induction d with
  | zero=>
    intro i hi;refine Ev.succ ?_;simp only[jt.l0];rw[List.drop_eq_nil_of_le (by omega),List.drop_eq_nil_of_le (by omega)]
    repeat (first | with_reducible exact Ev.now _ | dsimp only | refine Ev.cr ?_ | refine Ev.cu ?_ | simp only[bne_self_eq_false,Bool.not_true,Bool.not_false,List.length_cons,List.length_nil] | rw[bg (by omega) (by omega)] | ((with_reducible refine Ev.eq (congrArg some ?_));rfl))
  | succ d ih=>
    intro i hi;refine Ev.succ ?_;simp only[jt.l0];rw[List.drop_eq_getElem_cons (by omega:i<a.length),List.drop_eq_getElem_cons (by omega:i<b.length),dD (by omega)]
    by_cases e:rd a i=rd b i
    · repeat (first | with_reducible exact Ev.now _ | dsimp only | refine Ev.cr ?_ | refine Ev.cu ?_ | simp only[bne_self_eq_false,Bool.not_true,Bool.not_false,List.length_cons,List.length_nil] | rw[bg (by omega) (by omega)] | ((with_reducible refine Ev.eq (congrArg some ?_));rfl))
      have:=ih (i+1) (by omega);rw[lA (by omega),lA (by omega)]at e;rw[e,Jd];exact this
    · rw[decide_eq_false (fun h=>e (by rw[lA (by omega),lA (by omega)];exact(List.cons.inj h).1))]
      repeat (first | with_reducible exact Ev.now _ | dsimp only | refine Ev.cr ?_ | refine Ev.cu ?_ | simp only[bne_self_eq_false,Bool.not_true,Bool.not_false,List.length_cons,List.length_nil] | rw[bg (by omega) (by omega)] | ((with_reducible refine Ev.eq (congrArg some ?_));rfl))

theorem Av (a:List Int) (hl:a.length≤1048576):Ev (fun k=>jt.f k a a) true:=by
  unfold jt.f;refine Ev.pos rfl ?_;have:=Jc a a hl rfl a.length 0 (by omega);rw[decide_eq_true rfl]at this;exact this
theorem Je (l:List (List Int)) (p:Nat):W l (flip p) (flip p)=W l p p:=by
  have h: ∀q,(next l q q=true)=(tl l (flip q)=tl l q∧q≠flip q):=fun q=>propext (by
    rw[tV,Eo];exact Iff.rfl)
  have hf:flip (flip p)=p:=by
    unfold flip
    split<;>split<;>omega
  unfold W;simp only[h,hf];have e:(tl l p=tl l (flip p)∧flip p≠p)=(tl l (flip p)=tl l p∧p≠flip p):=propext ⟨fun a=>⟨a.1.symm,a.2.symm⟩,fun a=>⟨a.1.symm,a.2.symm⟩⟩;simp only[e]

theorem Jf (f:Nat→Int) (h: ∀i,f (2*i+1)=f (2*i)): ∀m,∃q,Sm (2*m) f=2*q:=by
  intro m
  induction m with
  | zero=>exact⟨0,rfl⟩
  | succ m ih=>
    obtain⟨q,hq⟩:=ih;refine⟨q+f (2*m), ?_⟩
    show Sm (2*m) f+f (2*m)+f (2*m+1)=_
    rw[hq,h m]
    omega

theorem Jg (l:List (List Int)): ∃q,eT l 0=2*q:=
  Jf (fun p=>W l p p) (fun i=>by
    have:=Je l (2*i);rw[show flip (2*i)=2*i+1 by unfold flip;rw[if_pos (by omega)]]at this;exact this) l.length

/-- The sum over the divisors of m up to j. -/
def o8 (l:List (List Int)) (m j:Nat):Int:=Sm j (fun t=>(cE (eT l) (t+1):Int)*ps (t+1) m)

theorem Jh (l:List (List Int)) (m:Nat) (hm:1≤m∧m≤12):o8 l m m=eT l (m - 1):=
  Aw (eT l) (cE (eT l)) m hm (fun d a b=>Ax l d ⟨a,by omega⟩)

theorem Ji (l:List (List Int)) (m j:Nat) (hm:1≤m) (h:m % (j+1)=0):o8 l m (j+1)=o8 l m j+((j+1:Nat):Int)*(cE (eT l) (j+1):Int):=by
  show o8 l m j+(cE (eT l) (j+1):Int)*ps (j+1) m=_
  unfold ps;rw[if_neg (by omega),if_pos h,Int.mul_comm]

theorem Jj (l:List (List Int)) (m j:Nat) (h: ¬m % (j+1)=0):o8 l m (j+1)=o8 l m j:=by
  show o8 l m j+(cE (eT l) (j+1):Int)*ps (j+1) m=_
  unfold ps;rw[if_neg h]
  split<;>omega
/-- The law's last question on counts. -/
def Az (x4:Int) (x5:List Int) (x6:Int):Option Bool:=if x6=0 then (if (x5.length:Int)=x4 then (if 0<(x5.length:Int) then (some ((Int.tmod (rd x5 0) 2) == 0)) else (none)) else (some false)) else (some ((x5.length:Int) == 0))

theorem Jk (n:Int) (l:List (List Int)) (a:Int):Az a (kG n l a).1 (kG n l a).2=some true:=by
  unfold Az kG
  by_cases c:iE n l a 1=0
  · obtain⟨hg,ha,hb⟩:=qj c
    obtain⟨k,rfl⟩:=Int.eq_ofNat_of_zero_le (show 0≤a by omega);obtain⟨q,hq⟩:=Jg l;have e1:rd (traces l k) ((0:Nat):Int)=eT l 0:=tW _ (by omega);have hl:=rN l k;rw[if_pos c,Int.toNat_natCast]
    show(if (0:Int)=0 then (if ((traces l k).length:Int)=(k:Int) then (if 0<((traces l k).length:Int) then some ((Int.tmod (rd (traces l k) ((0:Nat):Int)) 2) == 0) else none) else some false) else _)=_
    rw[if_pos rfl,hl,if_pos rfl,if_pos (by omega),e1,hq,Int.mul_tmod_right]
    rfl
  · rw[if_neg c]
    show(if iE n l a 1=0 then _ else some ((([]:List Int).length:Int) == 0))=_
    rw[if_neg c]
    rfl

section
variable (x4:Int) (x5:List Int) (x6:Int) (hF:Az x4 x5 x6=some true)
include hF

section
variable {n:Int} {l:List (List Int)} (h:eN n l=true) (m:Nat) (hm:m≤10)
include h hm

omit hF h hm in
theorem Ep {g:Nat→Option Bool} (hg:Ev g true) (j:Nat):Ev (fun k=>if (j:Int)=0 then (if c1 j=1 then (if (j:Int)>0 then (if c1 j=0 then g k else some false) else g k) else some false) else (if (j:Int)>0 then (if c1 j=0 then g k else some false) else g k)) true:=by
  by_cases c:j=0
  · subst c
    exact Ev.pos rfl (Ev.pos rfl (Ev.neg (by omega) hg))
  · exact Ev.neg (by omega) (Ev.pos (by omega) (Ev.pos (if_neg c) hg))

omit hF in
theorem Jl (j:Nat) (hj:j≤m) (hN:Ev (fun k=>bI.l2 k x4 x5 x6 (rowOf (m+1) (zt (rf l))) (iL l) ((j+1:Nat):Int)) true):
    ∀(d i:Nat),i+d=j+1→Ev (fun k=>bI.l3 k x4 x5 x6 (rowOf (m+1) (zt (rf l))) (iL l) (j:Int) (wrap64 (Sm i (fun t=>rf l t*zt (rf l) (j - t)))) (i:Int)) true:=by
  have hlen:(rowOf (m+1) (zt (rf l))).length=m+1:=gh _ _;have stop: ∀i:Nat,i≤j+1→(i=j+1∨(iL l).length≤i)→wrap64 (Sm i (fun t=>rf l t*zt (rf l) (j - t)))=c1 j:=by
    intro i hi hc;have e2:Sm i (fun t=>rf l t*zt (rf l) (j - t))=cw (rf l) (zt (rf l)) j:=by
      rcases hc with hc | hc
      · rw[hc];rfl
      · refine(Es _ hi (fun t ht Jm=> ?_)).symm
        rw[← we h t,AA (by omega),Int.zero_mul]
    rw[e2,Et _ (yy l)];unfold c1
    split<;>exact bg (by decide) (by decide)
  intro d
  induction d with
  | zero=>
    intro i hi;rw[stop i (by omega) (.inl (by omega))];refine Ev.succ ?_;simp only[bI.l3];rw[dD (i:=j) (by omega)];exact Ev.neg (by omega) (Ep hN j)
  | succ d ih=>
    intro i hi
    by_cases c:(iL l).length≤i
    · rw[stop i (by omega) (.inr c)]
      refine Ev.succ ?_;simp only[bI.l3];rw[dD (i:=j) (by omega)];exact Ev.pos (by omega) (Ev.neg (by omega) (Ep hN j))
    · have h2:=ih (i+1) (by omega)
      have e3:rd (rowOf (m+1) (zt (rf l))) ((j - i:Nat):Int)=zt (rf l) (j - i):=jO _ (by omega);refine Ev.succ ?_;simp only[bI.l3];rw[bg (x:=(j:Int) - (i:Int)) (by omega) (by omega),show(j:Int) - (i:Int)=((j - i:Nat):Int) by omega,we h,e3,dD (i:=i) (by omega),nY];exact Ev.pos (by omega) (Ev.pos (by omega) (Ev.pos (by omega) (Ev.pos (by omega) (Ev.pos (by omega) h2))))

theorem Jn: ∀(d j:Nat),j+d=m+1→Ev (fun k=>bI.l2 k x4 x5 x6 (rowOf (m+1) (zt (rf l))) (iL l) (j:Int)) true:=by
  have hlen:(rowOf (m+1) (zt (rf l))).length=m+1:=gh _ _;intro d
  induction d with
  | zero=>
    intro j hj;refine Ev.succ ?_;simp only[bI.l2];exact Ev.neg (by omega) (Ev.eq hF)
  | succ d ih=>
    intro j hj;have h2:=Jl x4 x5 x6 h m hm j (by omega) (ih (j+1) (by omega)) (j+1) 0 (by omega);rw[show wrap64 (Sm 0 (fun t=>rf l t*zt (rf l) (j - t)))=0 from bg (x:=0) (by decide) (by decide)]at h2;refine Ev.succ ?_;simp only[bI.l2];exact Ev.pos (by omega) h2

end

theorem Eu (n:Int) (l:List (List Int)) (a:Int) (hl:Mod l):Ev (fun k=>bI.j6 k x4 x5 x6 a (l9 n l a).1 (l9 n l a).2 n l) true:=by
  refine Ev.succ ?_;simp only[bI.j6];unfold l9
  by_cases c:iE n l a 0=0
  · obtain⟨hg,ha,hb⟩:=qj c
    obtain⟨m,rfl⟩:=Int.eq_ofNat_of_zero_le ha;have hlen:(rowOf (m+1) (zt (rf l))).length=m+1:=gh _ _;rw[if_pos c,Int.toNat_natCast];refine Ev.pos rfl (Ev.bind (Jo hl hg) (Ev.pos rfl ?_));simp only;rw[hlen,dD (i:=m) (by omega),bne_self_eq_false];refine Ev.succ ?_;simp only[bI.j7];exact Ev.neg (by decide) (Jn x4 x5 x6 hF hg m (by omega) (m+1) 0 (by omega))
  · rw[if_neg c]
    exact Ev.neg c (Ev.eq hF)

section
variable (n:Int) (l:List (List Int)) (a:Int) (hl:Mod l) {q:Int} {u:List (List Int)} (hg:eN q u=true) (K:Nat) (hK:K≤10)
include hl hg hK

omit hF hl in
theorem Jp (j:Nat) (hj:1≤j∧j≤K) (ez:Int) (di:List Int) (j8:Int) (hN:Ev (fun k=>bI.l0 k x4 x5 x6 (K:Int) ((List.range K).map (fun i=>ju u (i+1))) ez di j8 (traces u K) ((j+1:Nat):Int) n l) true):
    ∀(d t:Nat),t+d=j→Ev (fun k=>bI.l1 k x4 x5 x6 (K:Int) ((List.range K).map (fun i=>ju u (i+1))) ez di j8 (traces u K) (j:Int) (wrap64 (o8 u j t)) ((t+1:Nat):Int) n l) true:=by
  obtain⟨g1,g2,g3⟩:=iD hg;have hlen:((List.range K).map (fun i=>ju u (i+1))).length=K:=by simp
  have htl:=rN u K;have hrd: ∀t,t<K→rd ((List.range K).map (fun i=>ju u (i+1))) (t:Int)=(cE (eT u) (t+1):Int):=fun t ht=>by
    rw[tW (fun i=>ju u (i+1)) ht];exact Jq g3 (t+1) ⟨by omega,by omega⟩
  intro d
  induction d with
  | zero=>
    intro t ht;obtain rfl:t=j:=by omega
    have hb:=yz u g3 (show t - 1≤12 by omega);have e1:rd (traces u K) ((t - 1:Nat):Int)=eT u (t - 1):=tW _ (by omega);have e2:=hrd (t - 1) (by omega);refine Ev.succ ?_;simp only[bI.l1];rw[bg (x:=(t:Int) - 1) (by omega) (by omega),show(t:Int) - 1=((t - 1:Nat):Int) by omega,e1,e2,Jh u t ⟨by omega,by omega⟩,bg (x:=eT u (t - 1)) (by omega) (by omega),dD (i:=t) (by omega)];exact Ev.neg (by omega) (Ev.pos (by omega) (Ev.pos (by omega) (Ev.neg (by omega) (Ev.pos (by omega) (Ev.pos rfl hN)))))
  | succ d ih=>
    intro t ht;have h2:=ih (t+1) (by omega);refine Ev.succ ?_;simp only[bI.l1];rw[AB,bg (x:=((t+1:Nat):Int) - 1) (by omega) (by omega),show((t+1:Nat):Int) - 1=(t:Int) by omega,hrd t (by omega),dD (i:=t+1) (by omega),nY];refine Ev.pos (by omega) (Ev.neg (by omega) ?_)
    by_cases c:j % (t+1)=0
    · rw[Ji u j t (by omega) c]at h2
      exact Ev.pos (by omega) (Ev.pos (by omega) (Ev.pos (by omega) h2))
    · rw[Jj u j t c]at h2
      exact Ev.neg (by omega) h2

theorem Jr: ∀(d j:Nat),j+d=K→Ev (fun k=>bI.l0 k x4 x5 x6 (K:Int) ((List.range K).map (fun i=>ju u (i+1))) a (l9 n l a).1 (l9 n l a).2 (traces u K) ((j+1:Nat):Int) n l) true:=by
  intro d
  induction d with
  | zero=>
    intro j hj;refine Ev.succ ?_;simp only[bI.l0];exact Ev.neg (by omega) (Eu x4 x5 x6 hF n l a hl)
  | succ d ih=>
    intro j hj;have h2:=Jp x4 x5 x6 n l hg K hK (j+1) ⟨by omega,by omega⟩ _ _ _ (ih (j+1) (by omega)) (j+1) 0 (by omega);rw[show wrap64 (o8 u (j+1) 0)=0 from bg (x:=0) (by decide) (by decide)]at h2;refine Ev.succ ?_;simp only[bI.l0];exact Ev.pos (by omega) h2

end

theorem Js (n:Int) (l:List (List Int)) (a:Int) (hl:Mod l) (q:Int) (u:List (List Int)) (b:Int) (hu:Mod u):Ev (fun k=>bI.j3 k x4 x5 x6 b (nE q u b).1 (nE q u b).2 a (l9 n l a).1 (l9 n l a).2 false q u n l) true:=by
  have hs:=AE q u b hu;refine Ev.succ ?_;simp only[bI.j3];refine Ev.neg (by decide) ?_;unfold kG at hs;unfold nE
  by_cases c:iE q u b 1=0
  · obtain⟨hg,ha,hb⟩:=qj c
    obtain⟨K,rfl⟩:=Int.eq_ofNat_of_zero_le (show 0≤b by omega);rw[if_pos c,Int.toNat_natCast]at hs;rw[if_pos c,Int.toNat_natCast];exact Ev.pos rfl (Ev.bind hs (Ev.pos rfl (Jr x4 x5 x6 hF n l a hl hg K (by omega) K 0 (by omega))))
  · rw[if_neg c]
    exact Ev.neg c (Eu x4 x5 x6 hF n l a hl)

section
variable {c:List Int} (hc:Code c)
include hc

theorem Jt (n:Int) (l:List (List Int)) (a:Int) (hl:Mod l) (q:Int) (u:List (List Int)) (b:Int) (hu:Mod u):Ev (fun k=>bI.j2 k c x4 x5 x6 b (nE q u b).1 (nE q u b).2 a (l9 n l a).1 (l9 n l a).2 false q u n l) true:=by
  obtain⟨⟨v,e,w⟩,hd,he,hw⟩:=Jb hc;simp only at he hw;obtain⟨r,hs,hi⟩:=Ju v e w he (by omega);have h3:=Js x4 x5 x6 hF n l a hl q u b hu;refine Ev.succ ?_;simp only[bI.j2];refine Ev.neg (by decide) (Ev.bind hd (Ev.bind hi (Ev.bind hs (Ev.pos rfl ?_))));rw[bne_self_eq_false];exact h3

theorem Jv (q:Int) (u:List (List Int)) (b:Int) (hu:Mod u):Ev (fun k=>bI.j1 k c x4 x5 x6 b (nE q u b).1 (nE q u b).2 false q u) true:=by
  obtain⟨⟨n,l,a⟩,hd,hl⟩:=Au hc;simp only at hl;obtain⟨r1,hs,hi⟩:=Jw n l a hl;have h3:=Jt x4 x5 x6 hF hc n l a hl q u b hu;have hd':Ev (fun k=>rO.f k c) (n,l,a):=by
    unfold rO.f;exact Ev.bind hd (Ev.now _)
  refine Ev.succ ?_;simp only[bI.j1];refine Ev.neg (by decide) (Ev.bind hd' (Ev.bind hi (Ev.bind hs (Ev.pos rfl (Ev.bind (Av _ r1) h3)))))

theorem Jx:Ev (fun k=>bI.j0 k c x4 x5 x6 false) true:=by
  obtain⟨⟨n,l,a⟩,hd,hl⟩:=Au hc;simp only at hl;obtain⟨r1,hs,hi⟩:=Jy n l a hl;have h3:=Jv x4 x5 x6 hF hc n l a hl;have hd':Ev (fun k=>rP.f k c) (n,l,a):=by
    unfold rP.f;exact Ev.bind hd (Ev.now _)
  refine Ev.succ ?_;simp only[bI.j0];refine Ev.neg (by decide) (Ev.bind hd' (Ev.bind hi (Ev.bind hs (Ev.pos rfl (Ev.bind (Av _ r1) h3)))))

end

end

theorem Jz {x:Int} (h:(Lit.int .u8 x).wf=true):0≤x∧x≤255:=by
  simpa [Lit.wf,IntKind.min,IntKind.max,IntKind.signed,IntKind.bits] using h

theorem FnStraightCounts:bI.Pure:=by
  intro c _ hb;refine Ev.rounds ?_;unfold bI.f rQ.f
  by_cases U7:(c.length:Int)>4096
  · rw[decide_eq_true U7]
    exact Ev.bind (Ev.now _) (Ev.pos rfl (Ev.now _))
  · rw[decide_eq_false U7]
    have hc:Code c:=⟨by omega,fun y hy=>Jz (hb y hy)⟩;refine Ev.bind (Ev.now _) (Ev.neg (by decide) ?_);obtain⟨⟨n,l,a⟩,hd,hl⟩:=Au hc;simp only at hl;have hs:=JA n l a hl;have hi:=AE n l a hl;have h3:=Jx a (kG n l a).1 (kG n l a).2 (Jk n l a) hc;have hd':Ev (fun k=>rR.f k c) (n,l,a):=by
      unfold rR.f;exact Ev.bind hd (Ev.now _)
    have hr:=JB n l a;exact Ev.bind hd' (Ev.bind hi (Ev.bind hs (Ev.pos rfl (Ev.bind (Av _ (by omega)) h3))))
end Go.Proofs.Ytkadhadceongiaa.Pure
