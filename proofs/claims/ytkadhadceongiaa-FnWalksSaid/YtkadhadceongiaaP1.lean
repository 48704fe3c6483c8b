/- The plain proofs for this law. -/
import Derived.Test.YtkadhadceongiaaP
import Derived.Test.YtkadhadceongiaaAux
namespace Go.Proofs.Ytkadhadceongiaa.Pure
open Go.RowKit Go.Proofs.Ytkadhadceongiaa.G Go.Proofs.YtkadhadceongiaaW.PrintWords Go.Proofs.YtkadhadceongiaaW.PrintLast Go.Proofs.YtkadhadceongiaaW.PrintMore Go.Proofs.Ytkadhadceongiaa.Aux
open Int renaming eq_ofNat_of_zero_le → agO, toNat_natCast → agQ, tmod → agZ
open List renaming length_cons → agP, length_nil → agR, mem_cons_self → agS, length_map → agU, getElem_mem → agX, mem_cons_of_mem → ag0, mem_cons → ag1, mem_append → ag2, map → ag3, drop_eq_getElem_cons → ag4, drop_eq_nil_of_le → ag5, mem_singleton → ag6, nil_append → ag9, append_nil → aha, map_cons → ahb, append_assoc → ahc, take_succ_eq_append_getElem → ahd
open _root_.ByteArray renaming empty → agT
open Bool renaming not_true → agV, not_false → agW
open Go.IntKind renaming u64 → agY
open Nat renaming mod_eq_of_lt → ag7
open Option renaming bind_some → ag8
set_option linter.unusedVariables false
set_option linter.unusedSimpArgs false

theorem Qm {l:List (List Int)} {w:List Int} (h:iy l w=true):iy l (rev w)=true∧rev (rev w)=w∧kU l (rev w)=kU l w:=by
  obtain⟨⟨h1,h12⟩,h2,h3⟩:=(Bw l w).1 h;have hl:=EA w;refine⟨(Bw l _).2 ⟨by omega,fun i hi=> ?_,fun i hi=> ?_⟩, ?_, ?_⟩
  · obtain⟨q,hq,e⟩:=h2 (w.length - 1 - i) aa
    exact⟨_,Gs hq,by rw[xo aa,e,agQ]⟩
  · rw[xo (show i<w.length by omega),xo (show i+1<w.length by omega),agQ,agQ,LA]
    have:=h3 (w.length - 1 - (i+1)) aa;rw[show w.length - 1 - (i+1)+1=w.length - 1 - i by omega]at this;exact this
  · refine xp (by rw[EA,hl]) (fun i hi=> ?_)
    rw[EA]at hi;obtain⟨q,hq,e⟩:=h2 i aa;rw[xo aa,xo aa,agQ,inv_inv,hl,show w.length - 1 - (w.length - 1 - i)=i by omega,e,agQ]
  · unfold kU
    have e1:=xo (w:=w) (i:=w.length - 1) aa;have e2:=xo (w:=w) (i:=0) aa;rw[show w.length - 1 - (w.length - 1)=0 by omega]at e1;rw[show((0:Nat):Int)=0 from rfl,Nat.sub_zero]at e2;rw[hl,e1,e2,agQ,agQ,LA]
    rfl

theorem Qn {l:List (List Int)} {w:List Int} (h:iy l w=true) (hc:kU l w=true):CW l w.length w:=by
  obtain⟨⟨h1,h12⟩,h2,h3⟩:=(Bw l w).1 h;refine⟨rfl,fun i=>⟨h2 _ (Nat.mod_lt i (show 0<w.length by omega)), ?_⟩⟩;have hi:=Nat.mod_lt i (show 0<w.length by omega);rw[← zy w i,← zy w (i+1),show(i+1) % w.length=(i % w.length+1) % w.length by rw[Nat.mod_add_mod],kV hi]
  by_cases c:i % w.length+1<w.length
  · rw[ag7 c,kV c]
    exact h3 _ c
  · rw[show i % w.length+1=w.length by omega,Nat.mod_self,kV aa,show i % w.length=w.length - 1 by omega]
    exact hc

theorem Qo {l:List (List Int)} {k:Nat} {w:List Int} (hk:1≤k∧k≤12) (h:CW l k w):iy l w=true∧kU l w=true:=by
  obtain⟨h1,h2⟩:=h;refine⟨(Bw l w).2 ⟨by omega,fun i hi=> ?_,fun i hi=> ?_⟩, ?_⟩
  · have:=(h2 i).1
    rw[kV hi]at this;exact this
  · have:=(h2 i).2
    rw[kV aa,kV hi]at this;exact this
  · unfold kU
    have h4:=(h2 (w.length - 1)).2;rw[kV aa,show w.length - 1+1=0+w.length by omega,sH,kV aa]at h4;exact h4

theorem Qp {l:List (List Int)} {w:List Int} (h:iy l w=true) (hc:kU l w=true):iy l (gB w)=true∧kU l (gB w)=true∧gB (gB w)=gB w∧oM (gB w) ((gB w).length - 1) 1=oM w (w.length - 1) 1:=by
  obtain⟨⟨h1,h12⟩,_,_⟩:=(Bw l w).1 h;obtain⟨j,hj,e⟩:=Bx w aa;obtain⟨a,b⟩:=Qo ⟨h1,h12⟩ (Gt l (Qn h hc) (show j≤w.length by omega));have hl:=lS w j;have e2:=Gu w hj;rw[e]at e2 ⊢;refine⟨a,b,e2, ?_⟩;rw[Bool.eq_iff_iff,EB _ aa,EB w aa,hl,EC aa (show 0<w.length by omega) (fun d=>Gv w aa d)]

theorem LB {l:List (List Int)} {v:Int}: ∀t,t≤11→∀x∈Lw l v t,iy l x=true
  | 0,_=>by
    intro x hx;simp only[Lw,pP,List.mem_map,List.mem_filter,List.mem_range]at hx;obtain⟨q,⟨hq,_⟩,rfl⟩:=hx;exact LC hq
  | t+1,ht=>by
    intro x hx;simp only[Lw,longer,List.mem_flatMap]at hx;obtain⟨ws,hw,hx⟩:=hx;have h1:=LB t aa ws hw;have hg:=(xq l v t ws hw).1;simp only[ext1,List.mem_map,List.mem_filter,List.mem_range]at hx;obtain⟨q,⟨hq,hn⟩,rfl⟩:=hx;exact LF h1 aa hq hn
theorem Qq (l:List Int) (hl:l.length≤1048576):mC.f l=some l:=by
  unfold mC.f;simp only[ag8,agR,ag9];exact aC aa
def bs (l:List UInt8):ByteArray:=⟨l.toArray⟩

theorem Qr (a:ByteArray):bs a.data.toList=a:=by
  obtain⟨⟨l⟩⟩:=a
  rfl

theorem Qs (a:ByteArray): ∃l,a=bs l:=⟨a.data.toList,(Qr a).symm⟩

theorem iz (l:List UInt8):(bs l).size=l.length:=by simp[bs,ByteArray.size]

theorem Qt (l:List UInt8):(bs l).toList=l:=ByteArray.toList_mk l

theorem LG (l:List UInt8) (a b:Nat):(bs l).extract a b=bs ((l.take b).drop a):=by
  apply ByteArray.ext;simp[bs,List.extract_eq_drop_take']

theorem zz {l:List UInt8} {i:Nat} (h:i<l.length):bt (bs l) (i:Int)=(l[i].toNat:Int):=by
  unfold bt;rw[dif_pos (by rw[iz];simpa using h)]
  rfl

theorem Gw {α:Type} {g:Nat→Option α} {r s:α} (h:Ev g r) (k:Ev g s):r=s:=by
  obtain⟨K,h⟩:=h;obtain⟨L,k⟩:=k;have h1:=h (max K L) aa;rw[k (max K L) aa]at h1;exact(Option.some.inj h1).symm

def iJ (c:UInt8):List UInt8→List (List UInt8)
  | []=>[[]]
  | b :: s=>if b=c then [] :: iJ c s else
    match iJ c s with
    | []=>[[b]]
    | x :: xs=>(b :: x) :: xs

def glue (p:List UInt8):List (List UInt8)→List (List UInt8)
  | []=>[p]
  | x :: xs=>(p++x) :: xs

theorem xu (c:UInt8) (s:List UInt8):iJ c s≠[]:=by
  cases s with
  | nil=>simp[iJ]
  | cons b s=>
    unfold iJ
    split
    · simp
    · split<;>simp

theorem Bz (c:UInt8) (s:List UInt8):iJ c (c :: s)= [] :: iJ c s:=by simp[iJ]

theorem zA {b c:UInt8} (h:b≠c) (s:List UInt8):iJ c (b :: s)=glue [b] (iJ c s):=by
  rw[iJ,aA h];cases e:iJ c s with
  | nil=>exact absurd e (xu c s)
  | cons x xs=>rfl

theorem Qu (p q:List UInt8) (xs:List (List UInt8)):glue p (glue q xs)=glue (p++q) xs:=by
  cases xs<;>simp[glue]

theorem LH {xs:List (List UInt8)} (h:xs≠[]):glue [] xs=xs:=by
  cases xs with
  | nil=>exact absurd rfl h
  | cons x xs=>rfl

theorem Qv (c:UInt8) (s:List UInt8):(iJ c s).length=s.count c+1:=by
  induction s with
  | nil=>rfl
  | cons b s ih=>
    by_cases h:b=c
    · subst h
      rw[Bz,agP,ih];simp
    · rw[zA h,List.count_cons_of_ne h,← ih]
      cases e:iJ c s with
      | nil=>exact absurd e (xu c s)
      | cons x xs=>rfl

def oN (c:UInt8):List (List UInt8)→List UInt8
  | []=>[]
  | [x]=>x
  | x :: y :: r=>x++c :: oN c (y :: r)

theorem Gx {c:UInt8} (x:List UInt8) {xs:List (List UInt8)} (h:xs≠[]):oN c (x :: xs)=x++c :: oN c xs:=by
  cases xs with
  | nil=>exact absurd rfl h
  | cons y r=>rfl

theorem Qw (c:UInt8) (p:List UInt8) {xs:List (List UInt8)} (h:xs≠[]):oN c (glue p xs)=p++oN c xs:=by
  cases xs with
  | nil=>exact absurd rfl h
  | cons x xs=>
    cases xs with
    | nil=>rfl
    | cons y r=>simp[glue,oN]

theorem Gy (c:UInt8) (s:List UInt8):oN c (iJ c s)=s:=by
  induction s with
  | nil=>rfl
  | cons b s ih=>
    by_cases h:b=c
    · subst h
      rw[Bz,Gx _ (xu _ _),ih]
      rfl
    · rw[zA h,Qw _ _ (xu _ _),ih]
      rfl

theorem Gz {c:UInt8} {x:List UInt8} (h: ∀b∈x,b≠c):iJ c x= [x]:=by
  induction x with
  | nil=>rfl
  | cons b x ih=>
    rw[zA (h b (agS)),ih (fun y hy=>h y (ag0 _ hy))]
    rfl

theorem GA {c:UInt8} {x:List UInt8} (h: ∀b∈x,b≠c) (s:List UInt8):iJ c (x++c :: s)=x :: iJ c s:=by
  induction x with
  | nil=>exact Bz c s
  | cons b x ih=>
    rw[List.cons_append,zA (h b (agS)),ih (fun y hy=>h y (ag0 _ hy))]
    rfl

theorem Qx {c:UInt8} (xs:List (List UInt8)) (hne:xs≠[]) (h: ∀x∈xs,∀b∈x,b≠c):iJ c (oN c xs)=xs:=by
  induction xs with
  | nil=>exact absurd rfl hne
  | cons x xs ih=>
    cases xs with
    | nil=>exact Gz (h x (agS))
    | cons y r=>
      rw[Gx _ bJ,GA (h x (agS)),ih bJ (fun z hz=>h z (ag0 _ hz))]

def dg (n:Int):UInt8:=UInt8.ofNat (48+n.toNat)

theorem LI {n:Int} (h0:0≤n) (h1:n<10):((dg n).toNat:Int)=48+n:=by
  unfold dg;rw[UInt8.toNat_ofNat',ag7 aa]
  omega

theorem BA {n:Int} (h0:0≤n) (h1:n<10) {c:UInt8} (h:c.toNat<48∨57<c.toNat):dg n≠c:=by
  intro e;have:=LI h0 h1;rw[e]at this
  omega

theorem Qy {b:UInt8} (h:48≤b.toNat):dg ((b.toNat:Int) - 48)=b:=by
  unfold dg;apply UInt8.toNat_inj.1;have:=b.toNat_lt;rw[UInt8.toNat_ofNat',ag7 aa]
  omega

def word (e:List Int):List UInt8:=[dg (rd e 0),45,dg (rd e 1)]

def txt (n:Int) (l:List (List Int)):List UInt8:=dg n :: 58 :: oN 44 (l.map word)

section
variable {n:Int} {l:List (List Int)} (h:e5 n l=true)
include h

theorem ED {e:List Int} (he:e∈l): ∃a b:Int,e= [a,b]∧rd e 0=a∧rd e 1=b∧0≤a∧a<8∧0≤b∧b<8:=by
  obtain⟨h1,h2,h3,h4⟩:=(zB n l).1 h;obtain⟨a,b,rfl,ha,ha',hb,hb'⟩:=h4 e he;exact⟨a,b,rfl,rfl,rfl,ha,by omega,hb,by omega⟩

theorem LJ {c:UInt8} (hc:(c.toNat<48∨57<c.toNat)∧c≠45): ∀x∈l.map word,∀b∈x,b≠c:=by
  intro x hx b hb;obtain⟨e,he,rfl⟩:=List.mem_map.1 hx;obtain⟨p,q,_,e0,e1,h0,h1,h2,h3⟩:=ED h he;unfold word at hb;rw[e0,e1]at hb;simp only[ag1,List.not_mem_nil,or_false]at hb;rcases hb with rfl|rfl|rfl
  · exact BA h0 aa hc.1
  · exact fun e=>hc.2 e.symm
  · exact BA h2 aa hc.1

theorem Qz (hl:l≠[]):iJ 44 (oN 44 (l.map word))=l.map word:=
  Qx _ (by simpa using hl) (LJ h (c:=44) az)

theorem QA {c d:UInt8} (hd:(d.toNat<48∨57<d.toNat)∧d≠45) (hcd:c≠d): ∀b∈oN c (l.map word),b≠d:=by
  have hf:=LJ h hd;clear h;generalize l.map word=xs at hf
  induction xs with
  | nil=>intro b hb;cases hb
  | cons x xs ih=>
    intro b hb;cases xs with
    | nil=>exact hf x (agS) b hb
    | cons y r=>
      rw[Gx _ bJ]at hb;rcases ag2.1 hb with hb|hb
      · exact hf x (agS) b hb
      · rcases ag1.1 hb with rfl|hb
        · exact hcd
        · exact ih (fun z hz=>hf z (ag0 _ hz)) b hb

theorem LK:iJ 58 (txt n l)= [[dg n],oN 44 (l.map word)]:=by
  obtain⟨h1,h2,h3,h4⟩:=(zB n l).1 h;have e:txt n l= [dg n]++58 :: oN 44 (l.map word):=rfl;rw[e,GA (by simp;exact BA aa aa az),Gz (QA h az az)]

theorem LL {e:List Int} (he:e∈l):iJ 45 (word e)= [[dg (rd e 0)],[dg (rd e 1)]]:=by
  obtain⟨p,q,_,e0,e1,h0,h1,h2,h3⟩:=ED h he;unfold word;rw[e0,e1];have e: [dg p,45,dg q]= [dg p]++45 :: [dg q]:=rfl;rw[e,GA (by simp;exact BA h0 aa az),Gz (by simp;exact BA h2 aa az)]

end

theorem QB (s:List UInt8) (c:UInt8) (hs:s.length≤1048576): ∀(d i j:Nat) (acc:List ByteArray),i+d=s.length→j≤i→acc.length≤i→
    Ev (fun k=>jO.l0 k (bs s) (c.toNat:Int) acc (j:Int) (i:Int)) (acc++(glue ((s.take i).drop j) (iJ c (s.drop i))).map bs):=by
  intro d
  induction d with
  | zero=>
    intro i j acc hi hj ha;have e:i=s.length:=by omega
    subst e;refine bZ ?_;simp only[jO.l0];refine cD (by rw[iz];omega) ?_;refine bq aa ?_;refine bq (by rw[iz];omega) ?_;refine bq aa ?_;rw[iz,LG,List.drop_length,iJ];refine bQ (congrArg some ?_);simp[glue]
  | succ d ih=>
    intro i j acc hi hj ha;have hil:i<s.length:=by omega
    refine bZ ?_;simp only[jO.l0];refine bq (by rw[iz];omega) ?_;refine bq aa ?_;rw[zz hil,ag4 hil]
    by_cases h:s[i]=c
    · refine bq (by rw[h]) ?_
      refine bq aa ?_;refine bq aa ?_;refine bq (by rw[iz];omega) ?_;refine bq aa ?_;rw[ep aa,LG,h,Bz];have h1:=ih (i+1) (i+1) (acc++[bs ((s.take i).drop j)]) aa (Nat.le_refl _) (by simp;omega);rw[ag5 (show(s.take (i+1)).length≤i+1 by rw[List.length_take];omega),LH (xu _ _)]at h1;refine LN h1 ?_;simp[glue]
    · refine cD (fun e=>h (UInt8.toNat_inj.1 aa)) ?_
      rw[ep aa,zA h,Qu];have h1:=ih (i+1) j acc aa aa aa;rw[ahd hil,List.drop_append_of_le_length (by simp;omega)]at h1;exact h1

theorem GD (s:List UInt8) (c:UInt8) (hs:s.length≤1048576):Ev (fun k=>jO.f k (bs s) (c.toNat:Int)) ((iJ c s).map bs):=by
  unfold jO.f;have h:=QB s c hs s.length 0 0 [] aa aa bJ;rw[List.drop_zero,List.take_zero,LH (xu _ _),ag9]at h;exact h

theorem QC (s:List UInt8) (hs:s.length≤9): ∀(d i x:Nat),i+d=s.length→1≤i→1≤x→(2≤i→10≤x)→2≤s.length→x<10 ^ i→
    ∃v:Int,Ev (fun k=>fJ.l0 k (bs s) (x:Int) (i:Int)) v∧(v= -1∨10≤v):=by
  intro d
  induction d with
  | zero=>
    intro i x hi h1 hx h2 hl hp;refine⟨x, ?_,Or.inr (by have:=h2 aa;omega)⟩;refine bZ ?_;simp only[fJ.l0];refine cD (by rw[iz];omega) ?_;exact bD _
  | succ d ih=>
    intro i x hi h1 hx h2 hl hp;have hil:i<s.length:=by omega
    have U7:(10:Nat) ^ i≤10 ^ 9:=Nat.pow_le_pow_right aa aa
    by_cases c1:s[i].toNat<48
    · refine⟨-1, ?_,Or.inl rfl⟩
      refine bZ ?_;simp only[fJ.l0];refine bq (by rw[iz];omega) ?_;refine bq aa ?_;rw[zz hil];refine bq aa ?_;exact bD _
    by_cases c2:57<s[i].toNat
    · refine⟨-1, ?_,Or.inl rfl⟩
      refine bZ ?_;simp only[fJ.l0];refine bq (by rw[iz];omega) ?_;refine bq aa ?_;rw[zz hil];refine cD aa ?_;refine bq aa ?_;exact bD _
    obtain⟨v,h3,h4⟩:=ih (i+1) (x*10+(s[i].toNat - 48)) aa aa aa aa hl (by rw[Nat.pow_succ];omega);refine⟨v, ?_,h4⟩;refine bZ ?_;simp only[fJ.l0];refine bq (by rw[iz];omega) ?_;refine bq aa ?_;rw[zz hil];refine cD aa ?_;refine cD aa ?_;have e:wrap64 (wrap64 ((x:Int)*10)+((s[i].toNat:Int) - 48) % 256)=((x*10+(s[i].toNat - 48):Nat):Int):=by
      rw[bU (x:=(x:Int)*10) aa aa,bU aa aa]
      omega
    rw[e,ep aa];exact h3

theorem LO (b:UInt8):Ev (fun k=>fJ.f k (bs [b])) (if 48≤b.toNat∧b.toNat≤57 then (b.toNat:Int) - 48 else -1):=by
  have e0:bt (bs [b]) 0=(b.toNat:Int):=zz (l:=[b]) (i:=0) bJ;unfold fJ.f;refine cD (by rw[iz];simp) ?_;refine cD (by rw[iz];simp) ?_;refine cD (by rw[iz];simp) ?_;refine bZ ?_;simp only[fJ.j0];refine cD az ?_;refine bZ ?_;simp only[fJ.l0];refine bq (by rw[iz];simp) ?_;refine bq aa ?_;rw[e0]
  by_cases c1:b.toNat<48
  · refine bq aa ?_
    rw[aA aa];exact bD _
  by_cases c2:57<b.toNat
  · refine cD aa ?_
    refine bq aa ?_;rw[aA aa];exact bD _
  refine cD aa ?_;refine cD aa ?_;refine bZ ?_;simp only[fJ.l0];refine cD (by rw[iz,bU aa aa];simp) ?_;rw[aC aa];refine bQ (congrArg some ?_);rw[bU (x:=(0:Int)*10) aa aa,bU aa aa]
  omega

theorem GF {a:Int} (h0:0≤a) (h1:a<10):Ev (fun k=>fJ.f k (bs [dg a])) a:=by
  have h:=LO (dg a);have:=LI h0 h1;rw[aC aa]at h;refine LN h aa

theorem GG (s:List UInt8): ∃v:Int,Ev (fun k=>fJ.f k (bs s)) v∧(0≤v→v<10→s= [dg v]):=by
  have fail: ∀k,fJ.j0 (k+1) (bs s) true=some (-1):=fun k=>by simp[fJ.j0]
  by_cases c0:s.length=0
  · refine⟨-1, ?_,by omega⟩
    unfold fJ.f;refine bq (by rw[iz];omega) ?_;exact bZ ⟨0,fun k _=>fail k⟩
  by_cases c9:9<s.length
  · refine⟨-1, ?_,by omega⟩
    unfold fJ.f;refine cD (by rw[iz];omega) ?_;refine bq (by rw[iz];omega) ?_;exact bZ ⟨0,fun k _=>fail k⟩
  by_cases c1:s.length=1
  · match s,c1 with
    | [b],_=>
      refine⟨_,LO b,fun h0 h1=> ?_⟩
      by_cases c:48≤b.toNat∧b.toNat≤57
      · rw[aC c,Qy c.1]
      · rw[aA c]at h0
        omega
  have h0:0<s.length:=by omega
  have e0:bt (bs s) 0=(s[0].toNat:Int):=zz h0
  by_cases c2:s[0].toNat=48
  · refine⟨-1, ?_,by omega⟩
    unfold fJ.f;refine cD (by rw[iz];omega) ?_;refine cD (by rw[iz];omega) ?_;refine bq (by rw[iz];omega) ?_;refine bq (by rw[iz];omega) ?_;rw[e0,c2];exact bZ ⟨0,fun k _=>fail k⟩
  have e1:(((s[0].toNat:Nat):Int) == 48)=false:=by
    apply beq_eq_false_iff_ne.2
    omega
  by_cases c3:s[0].toNat<48∨57<s[0].toNat
  · refine⟨-1, ?_,by omega⟩
    unfold fJ.f;refine cD (by rw[iz];omega) ?_;refine cD (by rw[iz];omega) ?_;refine bq (by rw[iz];omega) ?_;refine bq (by rw[iz];omega) ?_;rw[e0,e1];refine bZ ?_;simp only[fJ.j0];refine cD az ?_;refine bZ ?_;simp only[fJ.l0];refine bq (by rw[iz];omega) ?_;refine bq aa ?_;rw[e0]
    by_cases c4:s[0].toNat<48
    · refine bq aa ?_
      exact bD _
    · refine cD aa ?_
      refine bq aa ?_;exact bD _
  · obtain⟨v,h3,h4⟩:=QC s aa (s.length - 1) 1 (s[0].toNat - 48) aa aa aa aa aa aa
    refine⟨v, ?_,by omega⟩;unfold fJ.f;refine cD (by rw[iz];omega) ?_;refine cD (by rw[iz];omega) ?_;refine bq (by rw[iz];omega) ?_;refine bq (by rw[iz];omega) ?_;rw[e0,e1];refine bZ ?_;simp only[fJ.j0];refine cD az ?_;refine bZ ?_;simp only[fJ.l0];refine bq (by rw[iz];omega) ?_;refine bq aa ?_;rw[e0];refine cD aa ?_;refine cD aa ?_;have e:wrap64 (wrap64 ((0:Int)*10)+((s[0].toNat:Int) - 48) % 256)=((s[0].toNat - 48:Nat):Int):=by
      rw[bU (x:=(0:Int)*10) aa aa,bU aa aa]
      omega
    rw[e,show wrap64 ((0:Int)+1)=((1:Nat):Int) from bU aa aa];exact h3
theorem LP {xs:List (List UInt8)} {i:Nat} (h:i<xs.length):eW agT (xs.map bs) (i:Int)=bs xs[i]:=by
  simp[eW,List.getD_eq_getElem?_getD,h]

theorem QD (ps:List (List UInt8)) (hps:ps.length≤1048576) (hpl: ∀p∈ps,p.length≤1048576) (n:Int): ∀(d i:Nat) (E:List (List Int)),i+d=ps.length→E.length=i→(∀r∈E,r.length=2)→
    ∃r,Ev (fun k=>gr.l0 k (ps.map bs) (i:Int) n E) r∧
      ((r=(0,[],false)∧∀l,e5 n (E++l)=true→ps.drop i≠l.map word)∨
       ∃l,r=(n,E++l,true)∧e5 n (E++l)=true∧ps.drop i=l.map word):=by
  intro d
  induction d with
  | zero=>
    intro i E hi hE hr;have hm:Mod E:=⟨by omega,fun r h=>by rw[hr r h];omega⟩;have e:ps.drop i= []:=ag5 aa
    by_cases g:e5 n E=true
    · refine⟨(n,E,true), ?_,Or.inr ⟨[],by rw[aha],by rw[aha];exact g,e⟩⟩
      refine bZ ?_;simp only[gr.l0];refine cD (by rw[agU];omega) ?_;refine bw (zC n E hm) ?_;rw[g]
      repeat (first|with_reducible exact bD _ |dsimp only |refine cS ?_ |refine cT ?_ |simp only[bne_self_eq_false,agV,agW,agP,agR]|rw[bU aa aa]|((with_reducible refine bQ (congrArg some ?_));rfl))
    · refine⟨(0,[],false), ?_,Or.inl ⟨rfl,fun l hg hl=> ?_⟩⟩
      · refine bZ ?_;simp only[gr.l0]
        refine cD (by rw[agU];omega) ?_;refine bw (zC n E hm) ?_;rw[Bool.eq_false_iff.2 g]
        repeat (first|with_reducible exact bD _ |dsimp only |refine cS ?_ |refine cT ?_ |simp only[bne_self_eq_false,agV,agW,agP,agR]|rw[bU aa aa]|((with_reducible refine bQ (congrArg some ?_));rfl))
      · rw[e]at hl
        have:l= []:=by simpa using hl.symm
        rw[this,aha]at hg;exact g hg
  | succ d ih=>
    intro i E hi hE hr;have hil:i<ps.length:=by omega
    have hp:=hpl ps[i] (agX hil);have hsp:=GD ps[i] 45 hp;have U8:(((45:UInt8).toNat:Nat):Int)=45:=rfl;rw[U8]at hsp;have hd:ps.drop i=ps[i] :: ps.drop (i+1):=ag4 hil
    by_cases h2:(iJ 45 ps[i]).length=2
    · obtain⟨u,v,huv⟩:=GH h2
      obtain⟨a,ha,ha'⟩:=GG u;obtain⟨b,hb,hb'⟩:=GG v;obtain⟨r,h3,h4⟩:=ih (i+1) (E++[[a,b]]) aa (by simp[hE]) (fun r h=>by
        rcases ag2.1 h with h|h
        · exact hr r h
        · rw[ag6.1 h];rfl)
      have hj:ps[i]=u++45 :: v:=by rw[← Gy 45 ps[i],huv];rfl
      refine⟨r, ?_, ?_⟩
      · refine bZ ?_;simp only[gr.l0]
        refine bq (by rw[agU];omega) ?_;refine bq aa ?_;rw[LP hil];refine bw hsp ?_;rw[huv];refine bq bJ ?_;refine bq bJ ?_;refine bw (f:=fun k t=>_) (show Ev (fun k=>fJ.f k (eW agT (ag3 bs [u,v]) 0)) a from ha) ?_;refine bq bJ ?_;refine bw (f:=fun k t=>_) (show Ev (fun k=>fJ.f k (eW agT (ag3 bs [u,v]) 1)) b from hb) ?_;refine bq aa ?_;rw[ep aa];exact h3
      · rcases h4 with ⟨rfl,h4⟩|⟨l,rfl,h5,h6⟩
        · refine Or.inl ⟨rfl,fun l hg hl=> ?_⟩
          cases l with
          | nil=>rw[hd]at hl;cases hl
          | cons e l=>
            rw[hd,ahb]at hl
            injection hl with hl1 hl2
            have hw:=LL hg (e:=e) bJ;rw[← hl1,huv]at hw
            injection hw with hw1 U7
            injection U7 with U7 _
            obtain⟨x,y,rfl,ex,ey,x0,x1,y0,y1⟩:=ED hg (e:=e) bJ;rw[ex]at hw1;rw[ey]at U7;subst hw1 U7;have ea:=Gw ha (GF x0 aa);have eb:=Gw hb (GF y0 aa);subst ea eb;exact h4 l (by rw[ahc];exact hg) hl2
        · have hg:e5 n (E++([a,b] :: l))=true:=by rw[ahc]at h5;exact h5
          refine Or.inr ⟨[a,b] :: l,by rw[ahc];rfl,hg, ?_⟩;obtain⟨x,y,e,ex,ey,x0,x1,y0,y1⟩:=ED hg (e:=[a,b]) bJ
          injection e with e1 e2
          injection e2 with e2 _
          subst e1 e2;rw[hd,ahb,h6,hj,ha' x0 aa,hb' y0 aa]
          rfl
    · refine⟨(0,[],false), ?_,Or.inl ⟨rfl,fun l hg hl=> ?_⟩⟩
      · refine bZ ?_;simp only[gr.l0]
        refine bq (by rw[agU];omega) ?_;refine bq aa ?_;rw[LP hil];refine bw hsp ?_;refine cD (by rw[agU];omega) ?_;exact bD _
      · cases l with
        | nil=>rw[hd]at hl;cases hl
        | cons e l=>
          rw[hd,ahb]at hl
          injection hl with hl1 hl2
          have hw:=LL hg (e:=e) bJ;rw[← hl1]at hw;rw[hw]at h2;exact h2 rfl

theorem QE (c:UInt8) (s:List UInt8):(iJ c s).length≤s.length+1:=by
  rw[Qv];have:=List.count_le_length (a:=c) (l:=s)
  omega

theorem QF {c:UInt8} {s p:List UInt8} (h:p∈iJ c s):p.length≤s.length:=by
  induction s generalizing p with
  | nil=>simp[iJ]at h;simp[h]
  | cons b s ih=>
    by_cases e:b=c
    · subst e
      rw[Bz]at h;rcases ag1.1 h with rfl|h
      · simp
      · have:=ih h;simp;omega
    · rw[zA e]at h
      cases hs:iJ c s with
      | nil=>exact absurd hs (xu c s)
      | cons x xs=>
        rw[hs]at h ih;rcases ag1.1 h with rfl|h
        · have:=ih (agS)
          simp at this ⊢
          omega
        · have:=ih (ag0 _ h)
          simp;omega

theorem QG (s:List UInt8) (hs:s.length≤1048576): ∃r,Ev (fun k=>gr.f k (bs s)) r∧
    ((r=(0,[],false)∧∀n l,e5 n l=true→s≠txt n l)∨∃n l,r=(n,l,true)∧e5 n l=true∧s=txt n l):=by
  have hsp:=GD s 58 hs;have U8:(((58:UInt8).toNat:Nat):Int)=58:=rfl;rw[U8]at hsp
  by_cases h2:(iJ 58 s).length=2
  · obtain⟨u,v,huv⟩:=GH h2
    have hj:s=u++58 :: v:=by rw[← Gy 58 s,huv];rfl
    have hv:v.length+1≤s.length:=by rw[hj,List.length_append,agP];omega
    obtain⟨n,hn,hn'⟩:=GG u;have U7:=GD v 44 aa;have GI:(((44:UInt8).toNat:Nat):Int)=44:=rfl;rw[GI]at U7;have hc:=QE 44 v;obtain⟨ps,hpe,hps,hpl,hem⟩: ∃ps:List (List UInt8),ps=(if v= [] then [] else iJ 44 v)∧ps.length≤1048576∧(∀p∈ps,p.length≤1048576)∧oN 44 ps=v:=by
      refine⟨_,rfl, ?_, ?_, ?_⟩
      · split
        · simp
        · omega
      · intro p hp
        split at hp
        · cases hp
        · have:=QF hp;omega
      · split
        · next h=>rw[h];rfl
        · exact Gy 44 v
    obtain⟨r,h3,h4⟩:=QD ps hps hpl n ps.length 0 [] aa rfl bJ;refine⟨r, ?_, ?_⟩
    · unfold gr.f
      refine bw hsp ?_;rw[huv];refine bq bJ ?_;refine bq bJ ?_;refine bw (f:=fun k t=>_) (show Ev (fun k=>fJ.f k (eW agT (ag3 bs [u,v]) 0)) n from hn) ?_;refine bw (bD _) ?_;refine bq bJ ?_;refine bw (f:=fun k t=>_) (show Ev (fun k=>jO.f k (eW agT (ag3 bs [u,v]) 1) 44) _ from U7) ?_;have ev:(eW agT (ag3 bs [u,v]) 1).toList=v:=Qt v;rw[ev]
      by_cases hv0:v= []
      · refine bq hv0 ?_
        rw[aC hv0]at hpe;refine bZ ?_;simp only[gr.j0];rw[hpe]at h3;exact h3
      · refine cD hv0 ?_
        rw[aA hv0]at hpe;refine bZ ?_;simp only[gr.j0];rw[hpe]at h3;exact h3
    · rw[List.drop_zero]at h4
      rcases h4 with ⟨rfl,h4⟩|⟨l,rfl,h5,h6⟩
      · refine Or.inl ⟨rfl,fun n' l hg hs'=> ?_⟩
        have hts:=LK hg;rw[← hs',huv]at hts
        injection hts with t1 t2
        injection t2 with t2 _
        subst t1;obtain⟨g1,g2,g3⟩:=fL hg;have en:=Gw hn (GF (a:=n') aa aa);subst en;refine h4 l hg ?_;rw[hpe];cases l with
        | nil=>
          rw[aC (by rw[t2];rfl)]
          rfl
        | cons e l=>
          rw[aA,t2,Qz hg bJ];rw[t2];cases l<;>simp[oN,word]
      · rw[ag9]at h5
        refine Or.inr ⟨n,l,rfl,h5, ?_⟩;obtain⟨g1,g2,g3⟩:=fL h5;rw[hj,hn' aa aa,← hem,h6]
        rfl
  · refine⟨(0,[],false), ?_,Or.inl ⟨rfl,fun n l hg hs'=> ?_⟩⟩
    · unfold gr.f
      refine bw hsp ?_;refine cD (by rw[agU];omega) ?_;exact bD _
    · rw[hs',LK hg]at h2
      exact h2 rfl

def Dr {α:Type} (g:Nat→Option α) (P:α→Prop):Prop:=∃r,Ev g r∧P r

theorem fk {α β:Type} {g:Nat→Option α} {f:Nat→α→Option β} {P:α→Prop} {Q:β→Prop} (h:Dr g P) (k: ∀a,P a→Dr (fun n=>f n a) Q):Dr (fun n=>(g n).bind (f n)) Q:=by
  obtain⟨a,h,p⟩:=h;obtain⟨r,e,q⟩:=k a p;exact⟨r,bw h e,q⟩

theorem kD {α:Type} {r:α} {P:α→Prop} (p:P r):Dr (fun _=>some r) P:=⟨r,bD _,p⟩

theorem gY {α:Type} {o:Option α} {P:α→Prop} (h: ∃r,o=some r∧P r):Dr (fun _=>o) P:=by
  obtain⟨r,e,p⟩:=h;exact⟨r,bQ e,p⟩

theorem kW {α:Type} {c:Prop} [Decidable c] {f g:Nat→Option α} {P:α→Prop} (h1:c→Dr f P) (h2: ¬c→Dr g P):Dr (fun k=>if c then f k else g k) P:=by
  by_cases h:c
  · obtain⟨r,e,p⟩:=h1 h
    exact⟨r,bq h e,p⟩
  · obtain⟨r,e,p⟩:=h2 h
    exact⟨r,cD h e,p⟩

theorem iA {α:Type} {c:Prop} [Decidable c] {f g:Nat→Option α} {P:α→Prop} (h:c) (h1:Dr f P):Dr (fun k=>if c then f k else g k) P:=kW (fun _=>h1) (fun x=>absurd h x)

theorem uc {α:Type} {c:Prop} [Decidable c] {f g:Nat→Option α} {P:α→Prop} (h: ¬c) (h1:Dr g P):Dr (fun k=>if c then f k else g k) P:=kW (fun x=>absurd x h) (fun _=>h1)

theorem mX {α:Type} {g:Nat→Option α} {P:α→Prop} (e:Dr (fun k=>g (k+1)) P):Dr g P:=by
  obtain⟨r,e,p⟩:=e;exact⟨r,bZ e,p⟩

theorem adq {α:Type} {g:Nat→Option α} {P Q:α→Prop} (e:Dr g P) (h: ∀r,P r→Q r):Dr g Q:=by
  obtain⟨r,e,p⟩:=e;exact⟨r,e,h r p⟩

def Code (c:List Int):Prop:=c.length≤4096∧∀y∈c,0≤y∧y≤255

theorem QH (c:List Int) (hc:Code c): ∀(d i:Nat) (h:Int),i+d=c.length→Dr (fun k=>gH.l0 k c (i:Int) c 0 h) (fun r=>r.1=c∧0≤r.2.1):=by
  intro d
  induction d with
  | zero=>
    intro i h hi;refine mX ?_;simp only[gH.l0];exact uc aa (kD ⟨rfl,Int.le_refl _⟩)
  | succ d ih=>
    intro i h hi;have:=hc.1;refine mX ?_;simp only[gH.l0];refine iA aa (iA aa (iA aa ?_));rw[ep aa];exact ih (i+1) _ aa

theorem GJ (c:List Int) (hc:Code c):Dr (fun k=>gH.f k c) (fun r=>r.1=c∧0≤r.2.1):=QH c hc c.length 0 _ aa

theorem QI (x:Int):0≤Go.bits .and .u64 (agY.wrap x / 2147483648) 1073741823∧Go.bits .and .u64 (agY.wrap x / 2147483648) 1073741823≤1073741823:=by
  have e0:agY.wrap x=x % 18446744073709551616:=by rw[IntKind.wrap_u64]
  rw[e0];have h:=bits_mask .u64 63 az (fun n h₀ h₁=>by rw[IntKind.wrap_u64];omega) 30 az (x % 18446744073709551616 / 2147483648) aa aa;rw[show((2:Int) ^ 30 - 1)=1073741823 by decide,show((2:Int) ^ 30)=1073741824 by decide]at h;rw[h]
  omega

theorem GK {x n:Int} (hx:0≤x) (hn:1≤n):0≤agZ x n∧agZ x n<n:=by
  rw[Int.tmod_eq_emod_of_nonneg hx];exact⟨Int.emod_nonneg _ aa,Int.emod_lt_of_pos _ aa⟩

theorem lH {c:List Int} (hc:Code c) {a:Int} (ha:0≤a) (h n:Int): ∃r:Int×Int×Int,dY.f c a h n=some r∧0≤r.2.1∧0≤r.1∧(1≤n→r.1<n)∧(n<1→r.1=0):=by
  unfold dY.f;have hl:=hc.1;have hb:=QI (agY.wrap (h*6364136223846793005)+1442695040888963407)
  by_cases hn:n<1
  · exact⟨_,aC hn,ha,Int.le_refl _,fun x=>absurd x aa,fun _=>rfl⟩
  · rw[aA hn]
    generalize Go.bits .and .u64 (agY.wrap (agY.wrap (h*6364136223846793005)+1442695040888963407) / 2147483648) 1073741823=b at hb
    by_cases hl2:a<(c.length:Int)
    · rw[aC hl2,aC ha,aA aa]
      obtain⟨i,rfl⟩:=agO ha;have hy:=hc.2 _ (BB (show i<c.length by omega));have e:wrap64 (wrap64 b+wrap64 (rd c (i:Int)))=b+rd c (i:Int):=by
        rw[bU (x:=b) aa aa,bU (x:=rd c (i:Int)) aa aa,bU aa aa]
      have e2:wrap64 ((i:Int)+1)=i+1:=bU aa aa;have ht:=GK (x:=b+rd c (i:Int)) (n:=n) aa aa;refine⟨_,rfl, ?_, ?_,fun _=> ?_,fun x=>absurd x hn⟩
      · show 0≤wrap64 ((i:Int)+1)
        omega
      · show 0≤agZ _ n
        rw[e];exact ht.1
      · show agZ _ n<n
        rw[e];exact ht.2
    · rw[aA hl2,aA aa]
      have ht:=GK (x:=b) (n:=n) aa aa;refine⟨_,rfl,ha, ?_,fun _=> ?_,fun x=>absurd x hn⟩
      · show 0≤agZ (wrap64 b) n
        rw[bU aa aa];exact ht.1
      · show agZ (wrap64 b) n<n
        rw[bU aa aa];exact ht.2

theorem ud {c:List Int} (hc:Code c) {a:Int} (ha:0≤a) (h:Int) (l:List Int) (hl:0<l.length): ∃r:Int×Int×Int,jP.f c a h l=some r∧0≤r.2.1∧r.1∈l:=by
  unfold jP.f;obtain⟨r,e,h1,h2,h3,_⟩:=lH hc ha h (l.length:Int);have h4:=h3 aa;rw[e];simp only[ag8];rw[aC h2,aC h4];obtain⟨i,hi⟩:=agO h2;exact⟨_,rfl,h1,by rw[hi];exact BB aa⟩

theorem QJ (l:List Int) (hl:l.length≤1048576):mC.f l=some l:=Qq l hl

def Ge (a:Nat) (l:List (List Int)):Prop:=l.length≤a∧∀r∈l,r.length≤2
def Gd (l:List (List Int)):Prop:=l.length≤11∧∀r∈l,r.length≤3

theorem Ge.nil (a:Nat):Ge a []:=⟨Nat.zero_le _,fun r h=>absurd h bJ⟩

theorem Ge.snoc {a:Nat} {l:List (List Int)} (h:Ge a l) (hl:l.length<a) (x y:Int):Ge a (l++[[x,y]]):=by
  refine⟨by simp;omega,fun r hr=> ?_⟩;rcases ag2.1 hr with hr|hr
  · exact h.2 r hr
  · rw[ag6.1 hr];exact Nat.le_refl _

theorem Ge.gd {l:List (List Int)} (h:Ge 11 l):Gd l:=⟨h.1,fun r hr=>by have:=h.2 r hr;omega⟩

def Eg (z:Int) (a:Nat) (l:List (List Int)):Prop:=l.length≤a∧∀r∈l,∃x y:Int,r= [x,y]∧0≤x∧x<z∧0≤y∧y<z

theorem Eg.nil (z:Int) (a:Nat):Eg z a []:=⟨Nat.zero_le _,fun r h=>absurd h bJ⟩

theorem Eg.snoc {z:Int} {a:Nat} {l:List (List Int)} (h:Eg z a l) (hl:l.length<a) {x y:Int} (hx:0≤x∧x<z) (hy:0≤y∧y<z):Eg z a (l++[[x,y]]):=by
  refine⟨by simp;omega,fun r hr=> ?_⟩;rcases ag2.1 hr with hr|hr
  · exact h.2 r hr
  · exact⟨x,y,ag6.1 hr,hx.1,hx.2,hy.1,hy.2⟩

theorem Eg.mono {z:Int} {a b:Nat} {l:List (List Int)} (h:Eg z a l) (hab:a≤b):Eg z b l:=⟨Nat.le_trans h.1 hab,h.2⟩

theorem Eg.ge {z:Int} {a:Nat} {l:List (List Int)} (h:Eg z a l):Ge a l:=⟨h.1,fun r hr=>by
  obtain⟨x,y,rfl,_⟩:=h.2 r hr;exact Nat.le_refl _⟩

theorem GL {n:Int} {l:List (List Int)} (h:e5 n l=true∨l= []):Ge 10 l:=by
  rcases h with h|h
  · obtain⟨_,_,h3,h4⟩:=(zB n l).1 h
    exact Eg.ge ⟨h3,h4⟩
  · rw[h]
    exact Ge.nil _

theorem Ge.mono {a b:Nat} {l:List (List Int)} (h:Ge a l) (hab:a≤b):Ge b l:=⟨Nat.le_trans h.1 hab,h.2⟩
theorem Gd.mod {l:List (List Int)} (h:Gd l):Mod l:=⟨by have:=h.1;omega,fun r hr=>by have:=h.2 r hr;omega⟩

theorem QK (n:Int) (l:List (List Int)) (hl:Ge 10 l): ∀(d i:Nat),i+d=l.length→Ev (fun k=>iK.l0 k (i:Int) n l n (l.take i)) (n,l):=by
  have h10:=hl.1;intro d
  induction d with
  | zero=>
    intro i hi;refine bZ ?_;simp only[iK.l0];refine cD aa ?_;rw[List.take_of_length_le aa];exact bD _
  | succ d ih=>
    intro i hi;refine bZ ?_;simp only[iK.l0];have hr:(aM l (i:Int)).length≤2:=by
      rw[oO aa];exact hl.2 _ (agX _)
    refine bq aa (bq aa (bw (bQ (QJ _ aa)) (bq (by simp;omega) ?_)));rw[ep aa];have:=ih (i+1) aa;rw[ahd aa,← oO aa]at this;exact this

theorem copy_eq (n:Int) (l:List (List Int)) (hl:Ge 10 l):Ev (fun k=>iK.f k n l) (n,l):=QK n l hl l.length 0 aa

section
variable {c:List Int} (hc:Code c)
include hc

omit hc in
theorem QL (n:Int): ∀(d:Nat) (l:List (List Int)) (a h:Int),0≤a→l.length+d=11→Ge 11 l→Dr (fun k=>iB.l0 k c a h n l) (fun r=>Gd r.2.1∧0≤r.2.2.1):=by
  intro d
  induction d with
  | zero=>
    intro l a h ha hl hg;refine mX ?_;simp only[iB.l0];exact uc aa (kD ⟨hg.gd,ha⟩)
  | succ d ih=>
    intro l a h ha hl hg;refine mX ?_;simp only[iB.l0];refine iA aa (iA aa ?_);exact ih _ a h ha (by simp;omega) (hg.snoc aa 0 0)

theorem GM {a:Int} (ha:0≤a) (h n:Int) (l:List (List Int)) (hl:Ge 10 l):Dr (fun k=>iB.f k c a h n l) (fun r=>Gd r.2.1∧0≤r.2.2.1):=by
  unfold iB.f;have h10:=hl.1;have gd:=(hl.mono (show 10≤11 by omega)).gd;have U7:Dr (fun k=>iK.f k n l) (fun r=>r=(n,l)):=⟨_,copy_eq n l hl,rfl⟩;refine fk (gY (lH hc ha h 40)) (fun r hr=> ?_);refine kW (fun _=> ?_) (fun _=>kW (fun _=> ?_) (fun _=>kW (fun _=> ?_) (fun _=>kW (fun _=> ?_) (fun _=> ?_))))
  · exact fk (gY (ud hc hr.1 _ _ bJ)) (fun p hp=>kD ⟨gd,hp.1⟩)
  · refine fk U7 (fun q hq=> ?_)
    subst hq;exact iA (by simp only;omega) (kD ⟨((hl.mono (show 10≤11 by omega)).snoc aa 0 n).gd,hr.1⟩)
  · refine fk U7 (fun q hq=> ?_)
    subst hq;refine kW (fun h0=> ?_) (fun _=>kD ⟨gd,hr.1⟩);simp only at h0;refine fk (gY (lH hc hr.1 _ _)) (fun p hp=> ?_);have h1:=hp.2.2.1 (by simp only;omega);simp only at h1;obtain⟨i,hi⟩:=agO hp.2.1;have hrow:(aM l p.1).length≤2:=by
      rw[hi,oO aa];exact hl.2 _ (agX _)
    refine iA hp.2.1 (iA h1 (iA (by simp only;omega) (kD ⟨⟨by simp only[List.length_set];omega,fun r hr=> ?_⟩,hp.1⟩)));rcases List.mem_or_eq_of_mem_set hr with h|h
    · have:=hl.2 r h;omega
    · rw[h];simp;omega
  · refine fk U7 (fun q hq=> ?_)
    subst hq;exact QL n (11 - l.length) l _ _ hr.1 aa (hl.mono aa)
  · exact kD ⟨gd,hr.1⟩

theorem QM (n z:Int) (hz:1≤z) (ue:z≤8) (m:Nat) (hm:m≤10): ∀(d:Nat) (l:List (List Int)) (a h:Int),0≤a→d≤100→Eg z m l→Dr (fun k=>fq.l1 k z (m:Int) (d:Int) c a h n l) (fun r=>r.1=n∧Eg z 10 r.2.1∧0≤r.2.2.1):=by
  intro d
  induction d with
  | zero=>
    intro l a h ha hd hl;refine mX ?_;simp only[fq.l1];refine uc aa (mX ?_);simp only[fq.j3];exact uc az (kD ⟨rfl,hl.mono hm,ha⟩)
  | succ d ih=>
    intro l a h ha hd hl;refine mX ?_;simp only[fq.l1];refine iA aa (mX ?_);simp only[fq.j3];have hlm:=hl.1;refine kW (fun hx=> ?_) (fun _=>kD ⟨rfl,hl.mono hm,ha⟩);have hlt:l.length<m:=by have:=of_decide_eq_true hx;omega
    have e:wrap64 (((d+1:Nat):Int) - 1)=(d:Int):=by rw[bU aa aa];omega
    rw[e];refine fk (gY (lH hc ha _ _)) (fun p hp=>fk (gY (lH hc hp.1 _ _)) (fun q hq=> ?_));have EE:=hp.2.2.1 hz;have QN:=hp.2.1;have ht:=GK (x:=p.1+1) (n:=z) aa hz;rw[← bU (x:=p.1+1) aa aa]at ht;have h2:=hl.snoc hlt ⟨hp.2.1,EE⟩ ⟨hq.2.1,hq.2.2.1 hz⟩;refine kW (fun _=> ?_) (fun _=>iA aa (ih _ _ _ hq.1 aa h2));refine fk (gY (lH hc hq.1 _ _)) (fun s hs=> ?_);exact kW (fun _=>uc aa (iA aa (ih _ _ _ hs.1 aa (hl.snoc hlt ⟨hp.2.1,EE⟩ ht)))) (fun _=>iA aa (ih _ _ _ hs.1 aa h2))

theorem EF (n z:Int) (hz:1≤z) (ue:z≤8) (m:Nat) (hm:m≤10) (b:Bool) (v:Int) (l:List (List Int)) {a:Int} (ha:0≤a) (h:Int) (hl:Eg z m l):Dr (fun k=>fq.j1 k z (m:Int) b v false c a h n l) (fun r=>r.1=n∧Eg z 10 r.2.1∧0≤r.2.2.1):=by
  refine mX ?_;simp only[fq.j1];refine uc az (fk (gY (lH hc ha _ _)) (fun r hr=> ?_));rw[bU (x:=(m:Int)+1) aa aa]at hr;have h2:=hr.2.2.1 aa;obtain⟨d,hd⟩:=agO hr.2.1;rw[hd];exact QM hc n z hz ue m hm d l _ _ hr.1 aa hl

theorem QO (n z:Int) (hz:1≤z) (ue:z≤8) (m:Nat) (hm:m≤10) (b:Bool): ∀(d v:Nat) (l:List (List Int)) (a h:Int),0≤a→z≤v+d→1≤v→v≤100→Eg z m l→Dr (fun k=>fq.l0 k z (m:Int) b (v:Int) c a h n l) (fun r=>r.1=n∧Eg z 10 r.2.1∧0≤r.2.2.1):=by
  intro d
  induction d with
  | zero=>
    intro v l a h ha hv hv0 U7 hl;refine mX ?_;simp only[fq.l0];exact uc aa (EF hc n z hz ue m hm b v l ha h hl)
  | succ d ih=>
    intro v l a h ha hv hv0 U7 hl;have hlm:=hl.1;refine mX ?_;simp only[fq.l0];refine kW (fun U8=> ?_) (fun _=>EF hc n z hz ue m hm b v l ha h hl);refine kW (fun _=> ?_) (fun _=>EF hc n z hz ue m hm b v l ha h hl)
    by_cases hlt:(l.length:Int)<m
    · rw[aV hlt]
      refine mX ?_;simp only[fq.j1];rw[ep (i:=v) aa];refine iA (by first|exact trivial|rfl) (fk (gY (lH hc ha _ _)) (fun p hp=>fk (gY (lH hc hp.1 _ _)) (fun q hq=> ?_)));have EE:=hp.2.2.1 aa;have QN:=hp.2.1;exact kW (fun _=>iA aa (ih (v+1) _ _ _ hq.1 aa aa aa (hl.snoc aa ⟨by omega,by omega⟩ ⟨by omega,by omega⟩))) (fun _=>iA aa (ih (v+1) _ _ _ hq.1 aa aa aa (hl.snoc aa ⟨by omega,by omega⟩ ⟨by omega,by omega⟩)))
    · rw[cz hlt]
      exact EF hc n z hz ue m hm b v l ha h hl

theorem QS {a:Int} (ha:0≤a) (h z:Int) (hz:1≤z) (ue:z≤8) (m:Int) (hm0:0≤m) (hm:m≤10):Dr (fun k=>fq.f k c a h z m) (fun r=>r.1=z∧Eg z 10 r.2.1∧0≤r.2.2.1):=by
  unfold fq.f;obtain⟨m',rfl⟩:=agO hm0;exact fk (gY (lH hc ha _ _)) (fun r hr=>QO hc z z hz ue m' aa _ 8 1 [] _ _ hr.1 aa aa aa (Eg.nil _ _))

omit hc in
theorem QT {p:Prop} [Decidable p] {x y:Option ByteArray} (h1: ∃t:ByteArray,x=some t∧t.size≤100) (h2: ∃t:ByteArray,y=some t∧t.size≤100): ∃t:ByteArray,(if p then x else y)=some t∧t.size≤100:=by
  by_cases h:p
  · rw[aC h];exact h1
  · rw[aA h];exact h2

omit hc in
theorem QU (a:ByteArray): ∃t:ByteArray,xw.f a=some t∧t.size≤100:=by
  unfold xw.f
  repeat' with_reducible refine QT ?_ ?_
  all_goals exact⟨_,rfl,by decide⟩

omit hc in
theorem QV (a:ByteArray):Dr (fun k=>xx.f k a) (fun r=>e5 r.1 r.2.1=true∨r.2.1= []):=by
  unfold xx.f;obtain⟨t,ht,hs⟩:=QU a;obtain⟨s,rfl⟩:=Qs t;rw[iz]at hs;refine fk (gY ⟨_,ht,rfl⟩) (fun x hx=> ?_);rw[← hx];obtain⟨r,he,hr⟩:=QG s aa;refine fk (P:=fun x=>x=r) ⟨r,he,rfl⟩ (fun x hx=> ?_);subst hx;refine kD ?_;rcases hr with ⟨rfl,_⟩|⟨n,l,rfl,hg,_⟩
  · exact .inr rfl
  · exact .inl hg

theorem LQ {a:Int} (ha:0≤a) (h:Int):Dr (fun k=>rJ.f k c a h) (fun r=>(e5 r.1 r.2.1=true∨r.2.1= [])∧0≤r.2.2.1):=by
  unfold rJ.f;refine fk (gY (lH hc ha _ _)) (fun r hr=>kW (fun _=> ?_) (fun _=> ?_))
  · refine fk (gY ⟨_,rfl,rfl⟩) (fun x hx=> ?_)
    have U9:x.length=14:=by rw[← hx];rfl
    refine fk (gY (lH hc hr.1 _ _)) (fun p hp=> ?_);have h1:=hp.2.2.1 aa;exact iA hp.2.1 (iA h1 (fk (QV _) (fun q hq=>kD ⟨hq,hp.1⟩)))
  · refine fk (gY (lH hc hr.1 _ _)) (fun p hp=> ?_)
    have U8:=hp.2.2.1 aa;have U7:=hp.2.1;have e:wrap64 (1+p.1)=1+p.1:=bU aa aa;rw[e];refine fk (gY (ud hc hp.1 _ _ bJ)) (fun z hz=> ?_);have hz1:1≤z.1∧z.1≤8:=by
      have:=hz.2;simp only[ag1,List.not_mem_nil,or_false]at this
      omega
    refine fk (gY (ud hc hz.1 _ _ az)) (fun m hm=> ?_);have hm1:0≤m.1∧m.1≤10:=by
      have: ∀y∈([2,4,6,6,8,10]:List Int),0≤y∧y≤10:=by decide
      exact this _ hm.2
    exact fk (QS hc hm.1 _ _ hz1.1 hz1.2 _ hm1.1 hm1.2) (fun q hq=>kD ⟨.inl ((zB _ _).2 ⟨by rw[hq.1];exact hz1.1,by rw[hq.1];exact hz1.2,hq.2.1.1,by rw[hq.1];exact hq.2.1.2⟩),hq.2.2⟩)

theorem QW {a:Int} (ha:0≤a) (h:Int):Dr (fun k=>rJ.f k c a h) (fun r=>Ge 10 r.2.1∧0≤r.2.2.1):=by
  obtain ⟨r,e,p⟩:=LQ hc ha h
  exact ⟨r,e,GL p.1,p.2⟩

theorem LR {a:Int} (ha:0≤a) (h:Int):Dr (fun k=>uf.f k c a h) (fun r=>Gd r.2.1∧0≤r.2.2.1):=by
  unfold uf.f;exact fk (QW hc ha h) (fun r hr=>fk (GM hc hr.2 _ _ _ hr.1) (fun q hq=>kD hq))

end
section
variable {c:List Int} (hc:Code c)
include hc

theorem GN {a:Int} (ha:0≤a) (h m:Int): ∃r:Int×Int×Int,qh.f c a h m=some r∧0≤r.2.1:=by
  unfold qh.f;obtain⟨r,e,h1,_⟩:=lH hc ha h 14;rw[e];simp only[ag8]
  by_cases h0:r.1=0
  · rw[aC h0]
    obtain⟨p,e2,h2,_⟩:=ud hc h1 r.2.2 [-1,wrap64 (m+1),1099511627776, -4611686018427387904] bJ;rw[e2];exact⟨_,rfl,h2⟩
  · rw[aA h0]
    obtain⟨p,e2,h2,_⟩:=lH hc h1 r.2.2 (wrap64 (m+1));rw[e2];exact⟨_,rfl,h2⟩

end
section
variable {c:List Int} (hc:Code c)
include hc

theorem QX:Dr (fun k=>xy.f k c) (fun r=>Mod r.2.1):=by
  unfold xy.f;refine fk (GJ c hc) (fun s hs=> ?_);obtain⟨s0,s1,s2⟩:=s;obtain⟨rfl,hs⟩:=hs;refine fk (LR hc hs _) (fun g hg=>fk (gY (GN hc hg.2 _ _)) (fun p hp=>fk (gY (ud hc hp _ _ bJ)) (fun q hq=>kD (Gd.mod hg.1))))

end
theorem count_nil (n k:Int):Ev (fun f=>iL.f f n [] k) 0:=by
  unfold iL.f dK.f;rw[show wrap64 (2*(([]:List (List Int)).length:Int))=0 from bU (x:=0) az az];have h1:Ev (fun f=>dK.l0 f k 0 ([]:List (List Int)) 0 n []) []:=by
    refine bZ ?_;simp only[dK.l0];exact cD az (bD _)
  refine bw h1 ?_;refine bZ ?_;simp only[iL.l0];exact cD az (bD _)

theorem QY {n:Int} {l:List (List Int)} (hg:e5 n l=true∨l= []) (k:Nat) (hk:1≤k∧k≤12):Dr (fun f=>cO.f f n l (k:Int)) (fun r=>r.1.length≤400∧∀w∈r.1,w.length≤12):=by
  rcases hg with hg|rfl
  · obtain⟨g1,g2,g3⟩:=fL hg
    refine⟨EG l k,QZ hg k hk, ?_⟩;unfold EG
    by_cases c:rK l (k - 1)>400
    · rw[aC c]
      exact⟨by simp,fun w hw=>absurd hw bJ⟩
    · rw[aA c]
      have:=LS l g3 k hk.1;exact⟨by simp only;omega,fun w hw=>(oP (Q0 hk w hw)).2.1⟩
  · refine⟨([],true), ?_,by simp,fun w hw=>absurd hw bJ⟩
    unfold cO.f;refine bw (count_nil n k) (cD az ?_);rw[show wrap64 (2*(([]:List (List Int)).length:Int))=0 from bU (x:=0) az az];refine bZ ?_;simp only[cO.l0];exact cD az (bD _)

def Dm (m:Nat) (w:List Int):Prop:=∀x∈w,∃q:Nat,q<m∧x=(q:Int)

theorem Dm.snoc {m:Nat} {w:List Int} (h:Dm m w) {q:Nat} (hq:q<m):Dm m (w++[(q:Int)]):=fun x hx=>by
  rcases ag2.1 hx with hx|hx
  · exact h x hx
  · exact⟨q,hq,ag6.1 hx⟩

section
variable {c:List Int} (hc:Code c)
include hc

theorem LU (m:Int) (w:List Int) (hw:0<w.length∧w.length≤100) {a:Int} (ha:0≤a) (h:Int):Dr (fun k=>e6.j2 k w m c a h) (fun r=>r.1.length≤1000∧0≤r.2.1):=by
  refine mX ?_;simp only[e6.j2];refine fk (gY (lH hc ha h 24)) (fun r hr=> ?_);refine kW (fun _=> ?_) (fun _=>kW (fun _=>iA aa (kD ⟨by simp;omega,hr.1⟩)) (fun _=>kW (fun _=>kD ⟨by simp,hr.1⟩) (fun _=>kD ⟨by simp only;omega,hr.1⟩)));refine fk (gY (lH hc hr.1 _ _)) (fun p hp=>fk (gY (ud hc hp.1 _ _ bJ)) (fun q hq=> ?_));have h1:=hp.2.2.1 aa;exact iA hp.2.1 (iA h1 (kD ⟨by simp only[List.length_set];omega,hq.1⟩))

theorem Q1 {n:Int} {l:List (List Int)} (hg:e5 n l=true) (w:List Int) (hw:0<w.length∧w.length≤100) (q0:Nat) (hq0:q0<2*l.length) (e:rd w ((w.length - 1:Nat):Int)=(q0:Int)) (t:Int) (P:List Int×Int×Int→Prop)
    (go: ∀(x:Nat) (a h:Int),x<2*l.length→0≤a→Dr (fun k=>e6.l0 k (w++[(x:Int)]) (2*(l.length:Int)) (wrap64 (t - 1)) c a h n l) P)
    (stop: ∀(a h:Int),0≤a→Dr (fun k=>e6.j2 k w (2*(l.length:Int)) c a h) P):
    ∀(d b:Nat) (ch:List Int) (a h:Int),0≤a→b+d=2*l.length→Dm (2*l.length) ch→ch.length≤b→Dr (fun k=>e6.l1 k w (2*(l.length:Int)) t ch (b:Int) c a h n l) P:=by
  obtain⟨g1,g2,g3⟩:=fL hg;intro d
  induction d with
  | zero=>
    intro b ch a h ha hb hch hcl;refine mX ?_;simp only[e6.l1];refine uc aa (kW (fun _=>stop a h ha) (fun c0=>fk (gY (lH hc ha h _)) (fun p hp=> ?_)));have h1:=hp.2.2.1 aa;obtain⟨i,hi⟩:=agO hp.2.1;obtain⟨x,hx,ex⟩:=hch (rd ch p.1) (by rw[hi];exact BB aa);rw[ex];exact iA hp.2.1 (iA h1 (iA aa (go x _ _ hx hp.1)))
  | succ d ih=>
    intro b ch a h ha hb hch hcl;have hn:=ug hg hq0 (show b<2*l.length by omega);refine mX ?_;simp only[e6.l1];rw[bU (x:=(w.length:Int) - 1) aa aa,show(w.length:Int) - 1=((w.length - 1:Nat):Int) by omega,e,hn,ep (i:=b) aa];refine iA aa (iA aa (iA aa (fk (P:=fun _=>True) (gY ⟨_,rfl,trivial⟩) (fun y _=> ?_))));exact kW (fun _=>iA aa (ih (b+1) _ a h ha aa (hch.snoc aa) (by simp;omega))) (fun _=>ih (b+1) _ a h ha aa hch aa)

theorem Q2 {n:Int} {l:List (List Int)} (hg:e5 n l=true): ∀(t:Nat) (w:List Int) (a h:Int),0≤a→w.length+t≤50→0<w.length→Dm (2*l.length) w→
    Dr (fun k=>e6.l0 k w (2*(l.length:Int)) (t:Int) c a h n l) (fun r=>r.1.length≤1000∧0≤r.2.1):=by
  intro t
  induction t with
  | zero=>
    intro w a h ha hw h0 hd;refine mX ?_;simp only[e6.l0];exact uc aa (LU hc _ w ⟨h0,by omega⟩ ha h)
  | succ t ih=>
    intro w a h ha hw h0 hd;obtain⟨q0,hq0,e⟩:=hd _ (BB (show w.length - 1<w.length by omega));refine mX ?_;simp only[e6.l0];refine iA aa (Q1 hc hg w ⟨h0,by omega⟩ q0 hq0 e _ _ (fun x a h hx ha=> ?_) (fun a h ha=>LU hc _ w ⟨h0,by omega⟩ ha h) (2*l.length) 0 [] a h ha aa (fun _ hx=>absurd hx bJ) bJ);rw[bU (x:=((t+1:Nat):Int) - 1) aa aa,show((t+1:Nat):Int) - 1=(t:Int) by omega];exact ih _ a h ha (by simp;omega) bJ (hd.snoc hx)

theorem Q3 {n:Int} {l:List (List Int)} (hg:e5 n l=true∨l= []) {a:Int} (ha:0≤a) (h most:Int) (hm:1≤most∧most≤12):Dr (fun k=>e6.f k c a h n l most) (fun r=>r.1.length≤1000∧0≤r.2.1):=by
  unfold e6.f;refine fk (P:=fun y=>y= []) (gY ⟨_,rfl,rfl⟩) (fun y hy=> ?_);subst hy;rcases hg with hg|rfl
  · obtain⟨g1,g2,g3⟩:=fL hg
    rw[bU (x:=2*(l.length:Int)) aa aa];refine kW (fun _=>kD ⟨by simp,ha⟩) (fun c0=>fk (gY (lH hc ha h _)) (fun p hp=>iA bJ (fk (gY (lH hc hp.1 _ most)) (fun q hq=> ?_))));have h1:=hp.2.2.1 aa;have h2:=hq.2.2.1 aa;obtain⟨i,hi⟩:=agO hp.2.1;obtain⟨t,ht⟩:=agO hq.2.1;rw[hi,ht];exact Q2 hc hg t _ _ _ hq.1 (by simp;omega) bJ (fun x hx=>⟨i,by omega,by simpa using hx⟩)
  · rw[show wrap64 (2*(([]:List (List Int)).length:Int))=0 from bU (x:=0) az az]
    exact iA rfl (kD ⟨by simp,ha⟩)

theorem LV {n:Int} {l:List (List Int)} (hg:e5 n l=true∨l= []) {a:Int} (ha:0≤a) (h:Int):
    Dr (fun k=>(iB.f k c a h n l).bind fun b=>(jP.f c b.2.2.1 b.2.2.2 (([2,4,12]:List Int))).bind fun p=>(e6.f k c p.2.1 p.2.2 n l p.1).bind fun w=>some (b.1,b.2.1,w.1,w.2.1,w.2.2)) (fun r=>Mod r.2.1∧r.2.2.1.length≤1048576):=by
  refine fk (GM hc ha h n l (GL hg)) (fun b hb=>fk (gY (ud hc hb.2 _ _ az)) (fun p hp=> ?_));have h1:1≤p.1∧p.1≤12:=by
    have: ∀y∈([2,4,12]:List Int),1≤y∧y≤12:=by decide
    exact this _ hp.2
  exact fk (Q3 hc hg hp.1 _ _ h1) (fun w hw=>kD ⟨Gd.mod hb.1,by have:=hw.1;simp only;omega⟩)

theorem LW {n:Int} {l:List (List Int)} (hg:e5 n l=true∨l= []) (L:List (List Int)) (hL:L.length≤400∧∀w∈L,w.length≤12) (b:Bool) (hb:b=true→0<L.length) {a:Int} (ha:0≤a) (h:Int):
    Dr (fun k=>fu.j0 k L b c a h n l) (fun r=>Mod r.2.1∧r.2.2.1.length≤1048576):=by
  refine mX ?_;simp only[fu.j0];refine kW (fun hb1=> ?_) (fun _=>LV hc hg ha h);have h0:=hb hb1;refine fk (GM hc ha h n l (GL hg)) (fun r hr=>fk (gY (lH hc hr.2 _ _)) (fun p hp=> ?_));have h1:=hp.2.2.1 aa;obtain⟨i,hi⟩:=agO hp.2.1;have h2:(aM L p.1).length≤12:=by
    rw[hi,oO aa];exact hL.2 _ (agX _)
  exact iA hp.2.1 (iA h1 (kD ⟨Gd.mod hr.1,by simp only;omega⟩))

theorem Q4 {a:Int} (ha:0≤a) (h:Int):Dr (fun k=>fu.f k c a h) (fun r=>Mod r.2.1∧r.2.2.1.length≤1048576):=by
  unfold fu.f;refine fk (LQ hc ha h) (fun g hg=>fk (gY (lH hc hg.2 _ _)) (fun r hr=>kW (fun _=> ?_) (fun _=>LV hc hg.1 hr.1 _)));refine fk (gY (ud hc hr.1 _ _ az)) (fun p hp=> ?_);have h1:1≤p.1∧p.1≤12:=by
    have: ∀y∈([1,2,3,4,6]:List Int),1≤y∧y≤12:=by decide
    exact this _ hp.2
  obtain⟨k,hk⟩:=agO (show 0≤p.1 by omega);rw[hk];refine fk (QY hg.1 k aa) (fun s hs=> ?_);exact kW (fun _=>LW hc hg.1 _ hs _ (fun z=>by have:=of_decide_eq_true z;omega) hp.1 _) (fun _=>LW hc hg.1 _ hs _ (fun z=>absurd z az) hp.1 _)

theorem BC:Dr (fun k=>xz.f k c) (fun r=>Mod r.2.1∧r.2.2.length≤1048576):=by
  unfold xz.f;refine fk (GJ c hc) (fun s hs=> ?_);obtain⟨s0,s1,s2⟩:=s;obtain⟨rfl,hs⟩:=hs;exact fk (Q4 hc hs _) (fun g hg=>kD hg)

theorem Q5:Dr (fun k=>zD.f k c) (fun r=>Mod r.2.1∧r.2.2.length≤1048576):=BC hc
theorem Q6:Dr (fun k=>zE.f k c) (fun r=>Mod r.2.1∧r.2.2.length≤1048576):=BC hc
theorem Q7:Dr (fun k=>zF.f k c) (fun r=>Mod r.2.1∧r.2.2.length≤1048576):=BC hc
theorem Q8:Dr (fun k=>zG.f k c) (fun r=>Mod r.2.1∧r.2.2.length≤1048576):=BC hc

theorem Q9:Dr (fun k=>nU.f k c) (fun r=>Mod r.2.1):=by
  unfold nU.f;refine fk (GJ c hc) (fun s hs=> ?_);obtain⟨s0,s1,s2⟩:=s;obtain⟨rfl,hs⟩:=hs;exact fk (LR hc hs _) (fun g hg=>fk (gY (GN hc hg.2 _ _)) (fun p hp=>fk (gY (GN hc hp _ _)) (fun q hq=>fk (gY (ud hc hq _ _ bJ)) (fun t ht=>kD (Gd.mod hg.1)))))

end
theorem Rb (a b:List Int) (hl:a.length≤1048576) (hab:a.length=b.length): ∀(d i:Nat),i+d=a.length→
    Ev (fun k=>ko.l0 k a b (i:Int)) (decide (a.drop i=b.drop i)):=by
  intro d
  induction d with
  | zero=>
    intro i hi;refine bZ ?_;simp only[ko.l0];rw[ag5 aa,ag5 aa]
    repeat (first|with_reducible exact bD _ |dsimp only |refine cS ?_ |refine cT ?_ |simp only[bne_self_eq_false,agV,agW,agP,agR]|rw[bU aa aa]|((with_reducible refine bQ (congrArg some ?_));rfl))
  | succ d ih=>
    intro i hi;refine bZ ?_;simp only[ko.l0];rw[ag4 (by omega:i<a.length),ag4 (by omega:i<b.length),ep aa]
    by_cases e:rd a i=rd b i
    · repeat (first|with_reducible exact bD _ |dsimp only |refine cS ?_ |refine cT ?_ |simp only[bne_self_eq_false,agV,agW,agP,agR]|rw[bU aa aa]|((with_reducible refine bQ (congrArg some ?_));rfl))
      have:=ih (i+1) aa;rw[gf aa,gf aa]at e;rw[e,LX];exact this
    · rw[cz (fun h=>e (by rw[gf aa,gf aa];exact(List.cons.inj h).1))]
      repeat (first|with_reducible exact bD _ |dsimp only |refine cS ?_ |refine cT ?_ |simp only[bne_self_eq_false,agV,agW,agP,agR]|rw[bU aa aa]|((with_reducible refine bQ (congrArg some ?_));rfl))

theorem BD (a:List Int) (hl:a.length≤1048576):Ev (fun k=>ko.f k a a) true:=by
  unfold ko.f;refine bq rfl ?_;have:=Rb a a hl rfl a.length 0 aa;rw[aV rfl]at this;exact this
theorem LY (a:List (List Int)) (ha:Mod a):Ev (fun k=>mY.f k a a) true:=by
  have h1:=ha.1;have main: ∀(d i:Nat),i+d=a.length→Ev (fun k=>mY.l0 k a a (i:Int)) true:=by
    intro d
    induction d with
    | zero=>
      intro i hi;refine bZ ?_;simp only[mY.l0];exact cD aa (bD _)
    | succ d ih=>
      intro i hi;have hr:(aM a (i:Int)).length≤1048576:=by
        rw[oO aa];exact ha.2 _ (agX _)
      refine bZ ?_;simp only[mY.l0];rw[ep (i:=i) aa];exact bq aa (bq aa (bq aa (bw (BD _ hr) (bq rfl (ih (i+1) aa)))))
  unfold mY.f;exact bq rfl (main a.length 0 aa)
theorem EH {n:Int} {l:List (List Int)} {w:List Int} (hg:e5 n l=true) (hk:iy l w=true):code n l w=0:=by
  unfold code;rw[aC hg,aC hk]

theorem Rd {n:Int} {l:List (List Int)} {w:List Int} (h:(qG n l w).2=0):code n l w=0∧kU l w=true∧qG n l w=(gB w,0):=by
  unfold qG at h ⊢
  by_cases c:code n l w=0
  · rw[aC c]at h ⊢
    by_cases c2:kU l w=true
    · rw[aC c2]
      exact⟨c,c2,rfl⟩
    · rw[aA c2]at h
      cases h
  · rw[aA c]at h
    exact absurd h c

theorem Rf {n:Int} {l:List (List Int)} {w:List Int} (h:(qH n l w).2=0):code n l w=0∧qH n l w=(rev w,0):=by
  unfold qH at h ⊢
  by_cases c:code n l w=0
  · rw[aC c]
    exact⟨c,rfl⟩
  · rw[aA c]at h
    exact absurd h c

section
variable {n:Int} {l:List (List Int)} {w:List Int} (hl:Mod l) (hg:e5 n l=true) (hk:iy l w=true)
include hl hg hk

theorem Rh:Ev (fun k=>rL.f k n l w) (true,0):=by
  have hw:=oP hk;have h1:=zH n l hl;have h2:=BF hg (show w.length≤1048576 by omega);rw[hg]at h1;rw[hk]at h2;unfold rL.f
  repeat (first|with_reducible exact bD _ |dsimp only |with_reducible refine bw (h1) ?_ |with_reducible refine bw (h2) ?_ |refine cS ?_ |refine cT ?_ |simp only[bne_self_eq_false,agV,agW,agP,agR]|rw[bU aa aa]|with_reducible exact(h1)|with_reducible exact(h2)|((with_reducible refine bQ (congrArg some ?_));rfl))

theorem GP:Ev (fun k=>oQ.f k n l w) (kU l w,0):=by
  have hw:=oP hk;have h2:=BG n l w hl aa;rw[EH hg hk]at h2;unfold oQ.f;exact bw h2 (bq rfl (bw (GQ hg hk) (bD _)))

theorem LZ:Ev (fun k=>qi.f k n l w) (oM w (w.length - 1) 1 && kU l w,0):=by
  have hw:=oP hk;have h2:=BG n l w hl aa;rw[EH hg hk]at h2;unfold qi.f;exact bw h2 (bq rfl (bw (L5 hg hk) (bD _)))

end

theorem Ri (f:Nat→Int) (m:Nat) (hm:m≤1000):Ev (fun k=>oR.f k (rowOf m f)) (wrap64 (Sm m f)):=by
  have hl:(rowOf m f).length=m:=jQ _ _;have main: ∀(d i:Nat),i+d=m→Ev (fun k=>oR.l0 k (rowOf m f) (wrap64 (Sm i f)) (i:Int)) (wrap64 (Sm m f)):=by
    intro d
    induction d with
    | zero=>
      intro i hi;obtain rfl:i=m:=by omega
      refine bZ ?_;simp only[oR.l0];exact cD aa (bD _)
    | succ d ih=>
      intro i hi;have h1:=ih (i+1) aa;refine bZ ?_;simp only[oR.l0];rw[oS _ (show i<m by omega),EI,ep (i:=i) aa];exact bq aa (bq aa h1)
  have h0:=main m 0 aa;rw[show wrap64 (Sm 0 f)=0 from bU (x:=0) az az]at h0;exact h0

section
variable {c:List Int} (hc:Code c)
include hc

theorem Rj:Ev (fun k=>cX.j7 k c) true:=by
  obtain⟨⟨n1,l1,w1⟩,d1,h1,k1⟩:=BC hc;obtain⟨⟨n2,l2,w2⟩,d2,h2,k2⟩:=Q5 hc;obtain⟨⟨n3,l3,w3⟩,d3,h3,k3⟩:=Q6 hc;obtain⟨⟨n4,l4,a⟩,hd,h4⟩:=QX hc;obtain⟨r1,s1,i1⟩:=Rk n1 l1 w1 h1 k1;obtain⟨r2,s2,i2⟩:=Rl n2 l2 w2 h2 k2;obtain⟨r3,s3,i3⟩:=Rm n3 l3 w3 h3 k3;obtain⟨r4,m4,s4,i4⟩:=Rn n4 l4 a h4;have d4:Ev (fun k=>xA.f k c) (n4,l4,a):=by
    unfold xA.f;exact bw hd (bD _)
  refine bZ ?_;simp only[cX.j7];exact bw d1 (bw i1 (bw s1 (bw d2 (bw i2 (bw s2 (bw d3 (bw i3 (bw s3 (bw d4 (bw i4 (bw s4 (bq rfl (bq (beq_self_eq_true _) (bq rfl (bq (beq_self_eq_true _) (bq rfl (bq (beq_self_eq_true _) (bq rfl (bw (LY _ m4) (bD _))))))))))))))))))))

theorem Ro {n:Int} {l:List (List Int)} {w:List Int} (hl:Mod l):Ev (fun k=>cX.j6 k c w (qG n l w).1 (qG n l w).2 false n l) true:=by
  have h7:=Rj hc;refine bZ ?_;simp only[cX.j6];refine cD az ?_
  by_cases e:(qG n l w).2=0
  · obtain⟨c1,c2,c3⟩:=Rd e
    obtain⟨hg,hk⟩:=BH c1;obtain⟨a1,a2,a3,a4⟩:=Qp hk c2;have hv:=oP a1;have i1:=(L6 n l (gB w) hl aa).2.2;rw[show qG n l (gB w)=(gB w,0) by unfold qG;rw[aC (EH hg a1),aC a2,a3]]at i1;have i2:=GP hl hg a1;have i3:=LZ hl hg hk;have i4:=LZ hl hg a1;rw[a2]at i2;rw[c2]at i3;rw[a4,a2]at i4;rw[c3];exact bq rfl (bw i1 (bw i2 (bw i3 (bw i4 (bq rfl (bq rfl (bq rfl (bq rfl (bw (BD _ (by show(gB w).length≤_;omega)) (bq rfl (bq rfl (cD (by rw[bne_self_eq_false];decide) h7))))))))))))
  · exact cD e h7

theorem Rq:Ev (fun k=>cX.j5 k c) true:=by
  obtain⟨⟨n,l,w⟩,d,hl,hw⟩:=Q8 hc;obtain⟨h1,s,i⟩:=L6 n l w hl hw;refine bZ ?_;simp only[cX.j5];exact bw d (bw i (bw s (bq rfl (bw (BD _ h1) (Ro hc hl)))))

theorem Rt {n:Int} {l:List (List Int)} {w:List Int} (hl:Mod l):Ev (fun k=>cX.j4 k c w (qH n l w).1 (qH n l w).2 false n l) true:=by
  have h5:=Rq hc;refine bZ ?_;simp only[cX.j4];refine cD az ?_
  by_cases e:(qH n l w).2=0
  · obtain⟨c1,c3⟩:=Rf e
    obtain⟨hg,hk⟩:=BH c1;obtain⟨a1,a2,a3⟩:=Qm hk;have hv:=oP a1;have hv0:=oP hk;have i1:=(L7 n l (rev w) hl aa).2.2;rw[show qH n l (rev w)=(w,0) by unfold qH;rw[aC (EH hg a1)];exact congrArg (·,(0:Int)) a2]at i1;have i2:=GP hl hg hk;have i3:=GP hl hg a1;rw[a3]at i3;rw[c3];exact bq rfl (bw i1 (bw i2 (bw i3 (bq rfl (bq rfl (bq rfl (bw (BD _ (by show w.length≤_;omega)) (bq rfl (cD (by rw[bne_self_eq_false];decide) h5)))))))))
  · exact cD e h5

theorem L8:Ev (fun k=>cX.j3 k c) true:=by
  obtain⟨⟨n,l,w⟩,d,hl,hw⟩:=Q7 hc;obtain⟨h1,s,i⟩:=L7 n l w hl hw;refine bZ ?_;simp only[cX.j3];exact bw d (bw i (bw s (bq rfl (bw (BD _ h1) (Rt hc hl)))))

theorem Ru {n:Int} {l:List (List Int)} (hl:Mod l) (hg:e5 n l=true) (v:Int) (k:Nat) (hk:1≤k∧k≤12) (hs:(Lw l v (k - 1)).length≤400):
    ∀(d i:Nat),i+d=(Lw l v (k - 1)).length→Ev (fun f=>cX.l0 f c (k:Int) (Lw l v (k - 1)) (i:Int) n l) true:=by
  intro d
  induction d with
  | zero=>
    intro i hi;refine bZ ?_;simp only[cX.l0];exact cD aa (L8 hc)
  | succ d ih=>
    intro i hi;have hw:(Lw l v (k - 1))[i]∈Lw l v (k - 1):=agX _;have e:aM (Lw l v (k - 1)) (i:Int)=(Lw l v (k - 1))[i]:=oO aa;generalize (Lw l v (k - 1))[i]=w at hw e;have hwk:=LB (k - 1) aa w hw;have hlen:=(xq l v (k - 1) w hw).1;refine bZ ?_;simp only[cX.l0];rw[e,ep (i:=i) aa];exact bq aa (bq aa (bw (Rh hl hg hwk) (bq rfl (bq rfl (bq aa (ih (i+1) aa))))))

theorem Rw {n:Int} {l:List (List Int)} {v a:Int} {r:List (List Int)×Int} (hl:Mod l) (hr:L9 n l v a r):Ev (fun k=>cX.j0 k c v a r.1 r.2 false n l) true:=by
  have h3:=L8 hc;refine bZ ?_;simp only[cX.j0];refine cD az ?_
  by_cases e:r.2=0
  · obtain⟨u,k,rfl,rfl,hg,hu,hk,hcw,er⟩:=hr e
    obtain⟨m,hm⟩:=agO (show 0≤n by omega);obtain⟨g1,g2,g3⟩:=fL hg;have U7:pQ n l (k:Int) 0=0:=by
      unfold pQ;rw[aC hg,aC ⟨by omega,by omega⟩]
    have hW:Ev (fun f=>rM.f f n l (k:Int)) (mZ l m k,0):=by
      unfold rM.f;exact bw (Mc n l k hl) (bq U7 (bw (GR hg m hm k hk.2) (bD _)))
    have hlen:(mZ l m k).length=m:=by
      unfold mZ;rw[aA aa,EJ]
    have hrow:aM (mZ l m k) (u:Int)=rowOf m (fun w=>wrap64 (S2 l (fun p q=>vec l (2*l.length) p (k - 1) q) (2*l.length) 0 u w)):=by
      unfold mZ;rw[aA aa];exact qj _ (show u<m by omega)
    have hb:=Md l (u:Int) g3 (k - 1);have xB:=GS l (u:Int) (k - 1);have hS:=Ri (fun w=>wrap64 (S2 l (fun p q=>vec l (2*l.length) p (k - 1) q) (2*l.length) 0 u w)) m aa;rw[GU,Me hg k m hm u,bU (x:=fX l (u:Int) (k - 1)) aa aa,← xB]at hS;rw[er];refine bq e (bw hW (bq rfl (bq aa (bq (by simp only;omega) ?_))));simp only;rw[hrow];refine bw hS ?_;rw[bne_self_eq_false];refine bZ ?_;simp only[cX.j1];exact cD az (Ru hc hl hg (u:Int) k hk aa (Lw l (u:Int) (k - 1)).length 0 aa)
  · exact cD e h3

end

theorem Rx {x:Int} (h:(Lit.int .u8 x).wf=true):0≤x∧x≤255:=by
  simpa [Lit.wf,IntKind.min,IntKind.max,IntKind.signed,IntKind.bits] using h

theorem FnWalks:cX.Pure:=by
  intro c _ hb;refine Ry ?_;unfold cX.f xC.f
  by_cases BI:(c.length:Int)>4096
  · rw[aV BI]
    exact bw (bD _) (bq rfl (bD _))
  · rw[cz BI]
    have hc:Code c:=⟨by omega,fun y hy=>Rx (hb y hy)⟩;refine bw (bD _) (cD az ?_);obtain⟨⟨n,l,v,a⟩,d,hl⟩:=Q9 hc;simp only at hl;obtain⟨r,h0,h1,hs,hi⟩:=Rz n l v a hl;exact bw d (bw hi (bw hs (bq rfl (bw (LY _ h1) (Rw hc hl h0)))))
end Go.Proofs.Ytkadhadceongiaa.Pure
