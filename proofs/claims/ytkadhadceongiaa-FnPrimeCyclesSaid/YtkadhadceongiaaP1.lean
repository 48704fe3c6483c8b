/- The plain proofs for this law. -/
import Derived.Test.YtkadhadceongiaaP
import Derived.Test.YtkadhadceongiaaAux
namespace Go.Proofs.Ytkadhadceongiaa.Pure
open Go.RowKit Go.Proofs.Ytkadhadceongiaa.G Go.Proofs.YtkadhadceongiaaW.PrintWords Go.Proofs.YtkadhadceongiaaW.PrintLast Go.Proofs.YtkadhadceongiaaW.PrintMore Go.Proofs.Ytkadhadceongiaa.Aux
open Int renaming zero_mul → agA, mul_comm → agF, toNat_natCast → agG, pow_succ → agH, le_refl → agI, mul_assoc → agJ, mul_zero → agL, eq_ofNat_of_zero_le → agM, add_zero → agN, mul_le_mul_of_nonneg_left → agP, one_mul → agQ, mul_le_mul_of_nonneg_right → agR, mul_nonneg → agS, tmod → agT, add_mul → agV, natCast_mul → agW, pow_zero → ag0, le_trans → ag7, mul_sub → aha, pow_nonneg → ahg, mul_le_mul → ahi, eq_of_mul_eq_mul_left → ahn, tdiv_eq_ediv_of_nonneg → ahp, tmod_eq_emod_of_nonneg → ahq
open List renaming length_cons → agB, length_nil → agE, mem_cons_self → agU, length_map → agZ, range → ag2, mem_cons_of_mem → ag3, mem_cons → ag4, getElem_mem → ag5, map → ag6, drop_eq_getElem_cons → ahd, drop_eq_nil_of_le → ahe, getElem_range → ahf, mem_append → ahj, append_nil → ahk, map_cons → ahl, append_assoc → ahm, getD_eq_getElem?_getD → aho, take_succ_eq_append_getElem → ahr
open Bool renaming not_true → agC, not_false → agD, not_eq_true → ahc
open Nat renaming add_sub_cancel → agK, le_refl → agO, sub_self → ag1, mod_self → ag8, mod_eq_of_lt → ag9, pow_le_pow_right → ahb, strongRecOn → ahh
open Go.IntKind renaming u64 → agX
open _root_.ByteArray renaming empty → agY
set_option linter.unusedVariables false
set_option linter.unusedSimpArgs false

theorem AX (n:Nat) (a:Nat→Nat→Int) (m k j:Nat) (hk:k<n) (hj:j<n):nc n a m k j=(if m=0 then 0 else Sm n (fun i=>nc n a (m - 1) k i*a i j))+(if k=j then ch n a m else 0):=by
  by_cases hm:n+2≤m
  · rw[DN n a m k j hk aa,aj aa,show ch n a m=0 from qJ n _ _ aa]
    rw[cR (g:=fun _=>0) (fun i _=>by rw[DN n a (m - 1) k i hk aa,agA]),kM]
    split<;>rfl
  have key: ∀u:Int,Sm (n+2) (fun m=>(nc n a m k j - ((if m=0 then 0 else Sm n (fun i=>nc n a (m - 1) k i*a i j))+(if k=j then ch n a m else 0)))*u ^ m)=0:=by
    intro u;have h:=QH n (xu a u) k j hk hj;unfold mul at h;have e1:Sm n (fun i=>adj n (xu a u) k i*xu a u i j)=adj n (xu a u) k j - u*Sm n (fun i=>adj n (xu a u) k i*a i j):=by
      have:Sm n (fun i=>adj n (xu a u) k i*xu a u i j)=Sm n (fun i=>(if i=j then 1 else 0)*adj n (xu a u) k i+(-u)*(adj n (xu a u) k i*a i j)):=cR (fun i _=>by
        unfold xu jf ng;generalize adj n _ k i=g;rw[Int.mul_add]
        congr 1
        · exact agF _ _
        · rw[Int.mul_neg,Int.mul_neg,Int.neg_mul,agF g,agJ,agF (a i j) g])
      rw[this,iT,tu n _ hj,jg,Int.neg_mul]
      rfl
    rw[e1]at h;have e2:Sm n (fun i=>adj n (xu a u) k i*a i j)=Sm (n+1) (fun m=>Sm n (fun i=>nc n a m k i*a i j)*u ^ m):=by
      rw[cR (g:=fun i=>Sm (n+1) (fun m=>nc n a m k i*a i j*u ^ m)) (fun i _=>by
        rw[Ga,← pW];exact cR (fun m _=>by rw[agJ,agF (u ^ m),← agJ])),rB]
      exact cR (fun m _=>pW n _ _)
    have e3:u*Sm (n+1) (fun m=>Sm n (fun i=>nc n a m k i*a i j)*u ^ m)=Sm (n+2) (fun m=>(if m=0 then 0 else Sm n (fun i=>nc n a (m - 1) k i*a i j))*u ^ m):=by
      rw[← jg,← Gf];refine cR (fun m _=> ?_)
      by_cases e:m=0
      · rw[ak e,ak e,agA]
      · rw[aj e,aj e]
        obtain⟨q,rfl⟩: ∃q,m=q+1:=⟨m - 1,by omega⟩;rw[agK,agH,agF (u ^ q) u,← agJ,← agJ,agF u]
    have e4:Sm (n+1) (fun m=>nc n a m k j*u ^ m)=Sm (n+2) (fun m=>nc n a m k j*u ^ m):=(y9 _ aa (fun i hi=>by rw[DN n a i k j hk aa,agA])).symm;have e5:(if k=j then e7 n (xu a u) else 0)=Sm (n+2) (fun m=>(if k=j then ch n a m else 0)*u ^ m):=by
      by_cases c:k=j
      · rw[ak c,DP]
        rw[cR (n:=n+2) (g:=fun m=>ch n a m*u ^ m) (fun m _=>by rw[ak c])];exact(y9 _ aa (fun i hi=>by rw[show ch n a i=0 from qJ n _ _ aa,agA])).symm
      · rw[aj c,cR (n:=n+2) (g:=fun _=>0) (fun m _=>by rw[aj c,agA]),kM]
    rw[Ga,e2,e3,e4,e5]at h;have e6:Sm (n+2) (fun m=>(nc n a m k j - ((if m=0 then 0 else Sm n (fun i=>nc n a (m - 1) k i*a i j))+(if k=j then ch n a m else 0)))*u ^ m)=Sm (n+2) (fun m=>nc n a m k j*u ^ m)+((-1)*Sm (n+2) (fun m=>(if m=0 then 0 else Sm n (fun i=>nc n a (m - 1) k i*a i j))*u ^ m)+(-1)*Sm (n+2) (fun m=>(if k=j then ch n a m else 0)*u ^ m)):=by
      rw[← jg,← jg,← iT,← iT];refine cR (fun m _=> ?_);generalize nc n a m k j=x1;generalize (if m=0 then (0:Int) else _)=x2;generalize (if k=j then _ else (0:Int))=x3;generalize u ^ m=x4;rw[Int.sub_mul,agV]
      omega
    rw[e6]
    omega
  have:=Gg (n+2) _ (fun u _=>key u) m aa
  omega
theorem QI (f:Nat→Int): ∀(n j:Nat),j≤n→Sm (n+1) f=f j+Sm n (fun k=>f (skip j k)):=by
  intro n
  induction n with
  | zero=>
    intro j hj;rw[show j=0 by omega]
    show 0+f 0=f 0+0
    omega
  | succ n ih=>
    intro j hj
    by_cases e:j=n+1
    · subst e
      show Sm (n+1) f+f (n+1)=_
      rw[cR (g:=fun k=>f (skip (n+1) k)) (fun k hk=>by rw[show skip (n+1) k=k from ak hk])]
      omega
    · show Sm (n+1) f+f (n+1)=f j+(Sm n (fun k=>f (skip j k))+f (skip j n))
      rw[ih j aa,show skip j n=n+1 from aj aa]
      omega

theorem QJ: ∀(n:Nat) (a b:Nat→Nat→Int),dc n a b 1=Sm n (fun k=>e7 n (fB a k (fun i=>b i k))):=by
  intro n
  induction n with
  | zero=>intro a b;rfl
  | succ n ih=>
    intro a b;have e1: ∀k,k<n+1→e7 (n+1) (fB a k (fun i=>b i k))=Sm (n+1) (fun j=>sg j*fB a k (fun i=>b i k) 0 j*e7 n (minor (fB a k (fun i=>b i k)) j)):=fun k _=>rfl
    rw[cR e1,rB]
    show Sm (n+1) (fun j=>pX (sg j*a 0 j) (sg j*b 0 j) (dc n (minor a j) (minor b j)) 1)=_
    refine cR (fun j hj=> ?_);rw[QI _ n j aa];unfold pX;rw[aj aa,ih,AY,DQ,Int.add_comm]
    congr 1
    · show _=sg j*(if j=j then b 0 j else a 0 j)*_
      rw[ak rfl]
    · rw[← jg]
      refine cR (fun k hk=> ?_);have hne:j≠skip j k:=by unfold skip;split<;>omega
      rw[DR a hne];have e2:fB a (skip j k) (fun i=>b i (skip j k)) 0 j=a 0 j:=aj hne;have e3:(if skip j k<j then skip j k else skip j k - 1)=k:=by
        unfold skip
        by_cases c:k<j
        · rw[ak c,ak c]
        · rw[aj c,aj aa]
          omega
      rw[e2,e3]
      rfl

theorem QK (u h:Int): ∀m:Nat,∃e,(u+h) ^ m=u ^ m+h*((m:Int)*u ^ (m - 1))+h*h*e:=by
  intro m
  induction m with
  | zero=>exact⟨0,by rw[ag0,ag0];simp⟩
  | succ m ih=>
    obtain⟨e,he⟩:=ih;have e1:(m:Int)*u ^ (m - 1)*u=(m:Int)*u ^ m:=by
      match m with
      | 0=>simp
      | q+1=>rw[agK,agJ,← agH]
    refine⟨(m:Int)*u ^ (m - 1)+e*(u+h), ?_⟩;rw[agH,he,agH,agK];generalize (m:Int)*u ^ (m - 1)=p at*;rw[show((m+1:Nat):Int)=m+1 from rfl,agV (m:Int) 1,← e1];generalize u ^ m=q
    grind

theorem QL (d:Nat) (c:Nat→Int) (u h:Int): ∃e,Sm d (fun m=>c m*(u+h) ^ m)=Sm d (fun m=>c m*u ^ m)+h*Sm d (fun m=>c m*((m:Int)*u ^ (m - 1)))+h*h*e:=by
  induction d with
  | zero=>exact⟨0,by simp[Sm]⟩
  | succ d ih=>
    obtain⟨e,he⟩:=ih;obtain⟨e',he'⟩:=QK u h d;refine⟨e+c d*e', ?_⟩
    show Sm d (fun m=>c m*(u+h) ^ m)+c d*(u+h) ^ d=Sm d (fun m=>c m*u ^ m)+c d*u ^ d+h*(Sm d (fun m=>c m*((m:Int)*u ^ (m - 1)))+c d*((d:Int)*u ^ (d - 1)))+h*h*(e+c d*e')
    rw[he,he'];generalize Sm d _=s1;generalize Sm d _=s2;generalize (d:Int)*u ^ (d - 1)=s3;generalize u ^ d=s4;generalize c d=s5
    grind

theorem QM (d:Nat) (c:Nat→Int) (h:Int): ∃e,Sm (d+2) (fun m=>c m*h ^ m)=c 0+h*c 1+h*h*e:=by
  induction d with
  | zero=>
    refine⟨0, ?_⟩
    show 0+c 0*h ^ 0+c 1*h ^ 1=_
    rw[ag0,agH,ag0]
    grind
  | succ d ih=>
    obtain⟨e,he⟩:=ih;refine⟨e+c (d+2)*h ^ d, ?_⟩
    show Sm (d+2) (fun m=>c m*h ^ m)+c (d+2)*h ^ (d+2)=_
    rw[he,agH,agH];generalize h ^ d=p
    grind

def tn (n:Nat) (a:Nat→Nat→Int) (m:Nat):Int:=Sm n (fun k=>Sm n (fun i=>nc n a m k i*a i k))

theorem KT (n:Nat) (a:Nat→Nat→Int) (m:Nat) (hm:m<n+1):((m+1:Nat):Int)*ch n a (m+1)= - tn n a m:=by
  have key: ∀u:Int,Sm (n+1) (fun m=>ch n a m*((m:Int)*u ^ (m - 1)))= - Sm (n+1) (fun m=>tn n a m*u ^ m):=by
    intro u;apply Classical.byContradiction;intro hc;obtain⟨x,hx⟩: ∃x,x=Sm (n+1) (fun m=>ch n a m*((m:Int)*u ^ (m - 1)))+Sm (n+1) (fun m=>tn n a m*u ^ m):=⟨_,rfl⟩;obtain⟨h,hh⟩: ∃h:Int,h=ab x+1:=⟨_,rfl⟩;have hpos:1≤h:=by have:=oL x;omega
    obtain⟨e1,U7⟩:=QL (n+1) (ch n a) u h;have d1:=DP n a (u+h);have d0:=DP n a u;have dd:=(za n (xu a u) (ng a)).2.1 h;simp only at dd;have ex:(fun i k=>xu a u i k+h*ng a i k)=xu a (u+h):=by
      funext i k
      unfold xu;rw[agV]
      omega
    rw[ex]at dd;obtain⟨e2,he2⟩:=QM n (dc n (xu a u) (ng a)) h;rw[y9 (d:=n+1) (fun m=>dc n (xu a u) (ng a) m*h ^ m) aa (fun i hi=>by rw[qJ n _ _ hi,agA]),← dd,AY]at he2;have ej:dc n (xu a u) (ng a) 1= - Sm (n+1) (fun m=>tn n a m*u ^ m):=by
      rw[QJ];have e3:Sm n (fun k=>e7 n (fB (xu a u) k (fun i=>ng a i k)))=Sm n (fun k=>Sm n (fun i=>adj n (xu a u) k i*ng a i k)):=cR (fun k hk=>(KU n (xu a u) k hk (fun i=>ng a i k)).symm);rw[e3];have e4:Sm n (fun k=>Sm n (fun i=>adj n (xu a u) k i*ng a i k))=Sm n (fun k=>Sm n (fun i=>Sm (n+1) (fun m=>(-1)*(nc n a m k i*a i k*u ^ m)))):=cR (fun k _=>cR (fun i _=>by
        rw[Ga,jg,← pW];unfold ng;rw[← jg];refine cR (fun m _=> ?_)
        grind))
      rw[e4];have e5:Sm n (fun k=>Sm n (fun i=>Sm (n+1) (fun m=>(-1)*(nc n a m k i*a i k*u ^ m))))=Sm (n+1) (fun m=>(-1)*(tn n a m*u ^ m)):=by
        rw[cR (g:=fun k=>Sm (n+1) (fun m=>Sm n (fun i=>(-1)*(nc n a m k i*a i k*u ^ m)))) (fun k _=>rB _ _ _),rB];refine cR (fun m _=> ?_);unfold tn;rw[← pW,← jg];refine cR (fun k _=> ?_);rw[← pW,← jg]
      rw[e5,jg]
      omega
    rw[ej,d1,U7,← d0]at he2;have hdiv:h*x=h*(h*(e2 - e1)):=by
      rw[hx];generalize Sm (n+1) (fun m=>ch n a m*((m:Int)*u ^ (m - 1)))=s1 at*;generalize Sm (n+1) (fun m=>tn n a m*u ^ m)=s2 at*
      grind
    have hx2:x=h*(e2 - e1):=ahn aa hdiv;have hx0:x≠0:=by omega
    have hd:h∣x:=⟨_,hx2⟩;have h3:=Nat.le_of_dvd aa (Int.natAbs_dvd_natAbs.2 hd);have h4:ab x=x.natAbs:=rfl
    omega
  have shift: ∀u:Int,Sm (n+1) (fun m=>ch n a m*((m:Int)*u ^ (m - 1)))=Sm (n+1) (fun m=>((m+1:Nat):Int)*ch n a (m+1)*u ^ m):=by
    intro u;have e1:Sm (n+2) (fun m=>ch n a m*((m:Int)*u ^ (m - 1)))=Sm (n+1) (fun m=>ch n a m*((m:Int)*u ^ (m - 1))):=y9 _ aa (fun i hi=>by rw[show ch n a i=0 from qJ n _ _ hi,agA]);rw[← e1,qK];simp only[agK];rw[show((0:Nat):Int)=0 from rfl,agA,agL,Int.zero_add];refine cR (fun m _=> ?_)
    grind
  have:=Gg (n+1) (fun m=>((m+1:Nat):Int)*ch n a (m+1)+tn n a m) (fun u _=>by
    have h1:=key u;rw[shift]at h1;rw[cR (g:=fun m=>((m+1:Nat):Int)*ch n a (m+1)*u ^ m+tn n a m*u ^ m) (fun m _=>agV _ _ _),iT]
    omega) m hm
  omega
theorem KW (n:Nat) (a:Nat→Nat→Int): ∀(m k j:Nat),k<n→j<n→mul n a (nc n a m) k j=mul n (nc n a m) a k j:=by
  have base: ∀(f:Nat→Nat→Int) (d:Int) (N:Nat→Nat→Int),(∀k j,k<n→j<n→N k j=f k j+(if k=j then d else 0))→(∀k j,k<n→j<n→mul n a f k j=mul n f a k j)→∀k j,k<n→j<n→mul n a N k j=mul n N a k j:=by
    intro f d N hN hf k j hk hj;unfold mul;rw[cR (g:=fun i=>a k i*f i j+(if i=j then 1 else 0)*(a k i*d)) (fun i hi=>by
      rw[hN i j hi hj,Int.mul_add]
      congr 1
      by_cases e:i=j
      · rw[ak e,ak e,agQ]
      · rw[aj e,aj e,agA,agL])]
    rw[cR (f:=fun i=>N k i*a i j) (g:=fun i=>f k i*a i j+(if i=k then 1 else 0)*(d*a i j)) (fun i hi=>by
      rw[hN k i hk hi,agV]
      congr 1
      by_cases e:k=i
      · rw[ak e,ak e.symm,agQ]
      · rw[aj e,aj (fun z=>e z.symm),agA,agA])]
    rw[iT,iT,tu n (fun i=>a k i*d) hj,tu n (fun i=>d*a i j) hk,agF d]
    congr 1
    exact hf k j hk hj
  intro m
  induction m with
  | zero=>
    refine base (fun _ _=>0) (ch n a 0) _ (fun k j hk hj=> ?_) (fun k j hk hj=> ?_)
    · rw[AX n a 0 k j hk hj,ak rfl]
    · unfold mul
      rw[cR (g:=fun _=>0) (fun i _=>agL _),cR (f:=fun i=>0*a i j) (g:=fun _=>0) (fun i _=>agA _)]
  | succ m ih=>
    refine base (fun k j=>mul n (nc n a m) a k j) (ch n a (m+1)) _ (fun k j hk hj=> ?_) (fun k j hk hj=> ?_)
    · rw[AX n a (m+1) k j hk hj,aj aa,agK]
      rfl
    · have h1:=mul_assoc' n a (nc n a m) a k j
      have h2:mul n (mul n a (nc n a m)) a k j=mul n (mul n (nc n a m) a) a k j:=mul_congr (fun i hi=>ih k i hk hi) (fun i _=>rfl);rw[h2]at h1;exact h1.symm

theorem QN: ∀(n:Nat) (m:Nat→Nat→Int) (s:Int),(∀i,i<n→m i n=0)→m n n=s→e7 (n+1) m=s*e7 n m:=by
  intro n
  induction n with
  | zero=>
    intro m s _ hs
    show 0+sg 0*m 0 0*1=s*1
    rw[hs]
    show 0+1*s*1=s*1
    omega
  | succ n ih=>
    intro m s h hs
    show Sm (n+1) (fun j=>sg j*m 0 j*e7 (n+1) (minor m j))+sg (n+1)*m 0 (n+1)*e7 (n+1) (minor m (n+1))=s*Sm (n+1) (fun j=>sg j*m 0 j*e7 n (minor m j))
    rw[h 0 aa,agL,agA,agN,← jg];refine cR (fun j hj=> ?_);rw[ih (minor m j) s ?_ ?_]
    · rw[← agJ,← agJ,agF s,agJ (sg j*m 0 j)]
    · intro i hi
      unfold minor;rw[aj aa];exact h (i+1) aa
    · unfold minor
      rw[aj aa];exact hs

theorem Gh: ∀n,e7 n jf=1:=by
  intro n
  induction n with
  | zero=>rfl
  | succ n ih=>
    rw[QN n jf 1 (fun i hi=>aj aa) (ak rfl),ih]
    rfl

def mp (n:Nat) (a:Nat→Nat→Int):Nat→Nat→Nat→Int
  | 0=>jf
  | p+1=>mul n (mp n a p) a

theorem QO (n:Nat) (a:Nat→Nat→Int): ∀(m k j:Nat),k<n→j<n→nc n a m k j=Sm (m+1) (fun t=>ch n a t*mp n a (m - t) k j):=by
  intro m
  induction m with
  | zero=>
    intro k j hk hj;rw[AX n a 0 k j hk hj,ak rfl,Int.zero_add]
    show _=0+ch n a 0*jf k j
    unfold jf
    split
    · omega
    · omega
  | succ m ih=>
    intro k j hk hj;rw[AX n a (m+1) k j hk hj,aj aa,agK]
    show _=Sm (m+1) (fun t=>ch n a t*mp n a (m+1 - t) k j)+ch n a (m+1)*mp n a (m+1 - (m+1)) k j
    rw[ag1]
    congr 1
    · rw[cR (g:=fun i=>Sm (m+1) (fun t=>ch n a t*mp n a (m - t) k i*a i j)) (fun i hi=>by
        rw[ih k i hk hi,← pW]),rB]
      refine cR (fun t ht=> ?_);rw[show m+1 - t=(m - t)+1 by omega]
      show _=ch n a t*Sm n (fun i=>mp n a (m - t) k i*a i j)
      rw[← jg];exact cR (fun i _=>agJ _ _ _)
    · show _=ch n a (m+1)*jf k j
      unfold jf
      split
      · omega
      · omega

def mg (n:Nat) (a:Nat→Nat→Int) (k:Nat):List Int:=rowOf k (fun m=>wrap64 (ch n a m))

theorem KX (k:Nat) (f:Nat→Int):rowOf k f++[f k]=rowOf (k+1) f:=(tw f k).symm

def jA (p:Nat→Nat) (t:Nat→Int) (m:Nat→Nat→Int) (k:Nat) (i f:Nat):Int:=if f<k∧p f≠f then m i f - t f*m i (p f) else m i f

theorem QS (n:Nat) (p:Nat→Nat) (t:Nat→Int) (m:Nat→Nat→Int) (hp: ∀f,f<n→p f<n) (Gi: ∀f,f<n→p (p f)=p f): ∀k,k≤n→e7 n (jA p t m k)=e7 n m:=by
  intro k
  induction k with
  | zero=>
    intro _;refine wV n _ _ (fun i f _ _=> ?_);unfold jA;rw[aj aa]
  | succ k ih=>
    intro hk;have h0:=ih aa
    by_cases e:p k=k
    · rw[← h0]
      refine wV n _ _ (fun i f _ _=> ?_);unfold jA
      by_cases c:f<k∧p f≠f
      · rw[ak c,ak ⟨by omega,c.2⟩]
      · rw[aj c,aj (fun z=> ?_)]
        by_cases e2:f=k
        · exact z.2 (e2▸e)
        · exact c ⟨by omega,z.2⟩
    · have h1:=DS n (jA p t m k) k 1 (-t k) (fun i=>jA p t m k i k) (fun i=>jA p t m k i (p k)) aa
      rw[DT,h0]at h1;have h2:e7 n (fB (jA p t m k) k (fun i=>jA p t m k i (p k)))=0:=by
        refine KY (p:=k) (q:=p k) aa (hp k aa) (fun z=>e z.symm) (fun i=> ?_);unfold fB;rw[ak rfl,aj e]
      rw[h2,agL,agN,agQ]at h1;rw[← h1];refine wV n _ _ (fun i f _ _=> ?_);unfold fB
      by_cases e2:f=k
      · rw[ak e2,e2]
        have a1:jA p t m (k+1) i k=m i k - t k*m i (p k):=ak ⟨by omega,e⟩;have a2:jA p t m k i k=m i k:=aj aa;have a3:jA p t m k i (p k)=m i (p k):=aj (fun z=>z.2 (Gi k aa))
        show jA p t m (k+1) i k=1*jA p t m k i k+ -t k*jA p t m k i (p k)
        rw[a1,a2,a3,Int.neg_mul]
        omega
      · rw[aj e2]
        unfold jA
        by_cases c:f<k∧p f≠f
        · rw[ak c,ak ⟨by omega,c.2⟩]
        · rw[aj c,aj (fun z=>c ⟨by omega,z.2⟩)]

theorem KZ {n:Nat} {f:Nat→Int} (h: ∀i,i<n→0≤f i) {i:Nat} (hi:i<n):f i≤Sm n f:=by
  induction n with
  | zero=>omega
  | succ n ih=>
    have h1:0≤Sm n f:=lu (fun i hi=>h i aa);have h2:=h n aa;unfold Sm
    by_cases e:i=n
    · rw[e];omega
    · have:=ih (fun i hi=>h i aa) aa
      omega

theorem La (n:Nat) (x a b:Nat→Nat→Int) (h: ∀u:Int,e7 n (xu x u)=e7 n (fun i k=>a i k+u*b i k)) (m:Nat):ch n x m=dc n a b m:=by
  by_cases hm:n+1≤m
  · rw[show ch n x m=0 from qJ n _ _ hm,qJ n _ _ hm]
  have:=Gg (n+1) (fun m=>ch n x m - dc n a b m) (fun u _=>by
    have h1:=h u;have h2:=(za n a b).2.1 u;simp only at h2;rw[DP,h2]at h1;rw[cR (g:=fun m=>ch n x m*u ^ m+(-1)*(dc n a b m*u ^ m)) (fun m _=>by grind),iT,jg]
    omega) m aa
  omega

theorem QT (n:Nat) (x a b:Nat→Nat→Int) (h: ∀u:Int,e7 n (xu x u)=e7 n (fun i k=>a i k+u*b i k)) (m:Nat):ab (ch n x m)≤Pr n (cs n a b):=by
  rw[La n x a b h m]
  by_cases hm:n+1≤m
  · rw[qJ n _ _ hm]
    exact Gj (fun i _=>Lc n a b i)
  · exact ag7 (KZ (f:=fun i=>ab (dc n a b i)) (fun i _=>oL _) aa) (za n a b).2.2

theorem QU (n:Nat) (p:Nat→Nat) (t:Nat→Int) (x:Nat→Nat→Int) (hp: ∀f,f<n→p f<n) (Gi: ∀f,f<n→p (p f)=p f) (m:Nat):ab (ch n x m)≤Pr n (cs n (jA p t jf n) (jA p t (ng x) n)):=by
  refine QT n x _ _ (fun u=> ?_) m;rw[← QS n p t (xu x u) hp Gi n (agO _)];refine wV n _ _ (fun i f _ hf=> ?_);unfold jA xu
  by_cases c:f<n∧p f≠f
  · rw[ak c,ak c,ak c]
    grind
  · rw[aj c,aj c,aj c]

theorem QV (n:Nat) (q:Nat→Bool):Pr n (fun i=>if q i then 20 else 4)=4 ^ n*5 ^ (Sm n (fun i=>if q i then 1 else 0)).toNat∧0≤Sm n (fun i=>if q i then 1 else 0):=by
  induction n with
  | zero=>exact⟨rfl,agI _⟩
  | succ n ih=>
    obtain⟨h1,h2⟩:=ih;unfold Pr Sm;rw[h1];simp only
    by_cases c:q n=true
    · rw[ak c,ak c]
      refine⟨?_,by omega⟩;rw[show(Sm n (fun i=>if q i then 1 else 0)+1).toNat=(Sm n (fun i=>if q i then 1 else 0)).toNat+1 by omega,agH,agH];generalize (4:Int) ^ n=x;generalize (5:Int) ^ _=y
      grind
    · rw[aj c,aj c,agN]
      refine⟨?_,h2⟩;rw[agH];generalize (4:Int) ^ n=x;generalize (5:Int) ^ _=y
      grind

def cw (f g:Nat→Int) (n:Nat):Int:=Sm (n+1) (fun i=>f i*g (n - i))

theorem QW: ∀(n:Nat) (f:Nat→Int),Sm (n+1) f=Sm (n+1) (fun i=>f (n - i)):=by
  intro n
  induction n with
  | zero=>intro f;rfl
  | succ n ih=>
    intro f;rw[qK (n+1) (fun i=>f (n+1 - i))]
    show Sm (n+1) f+f (n+1)=f (n+1 - 0)+Sm (n+1) (fun i=>f (n+1 - (i+1)))
    rw[ih f,Int.add_comm]
    congr 1
    exact cR (fun i _=>by rw[Nat.add_sub_add_right])

theorem uL (f g:Nat→Int) (n:Nat):cw f g n=cw g f n:=by
  unfold cw;rw[QW];refine cR (fun i hi=> ?_);rw[show n - (n - i)=i by omega,agF]

theorem QX (a:Nat→Nat→Int): ∀n,Sm (n+1) (fun k=>Sm (k+1) (fun i=>a i (k - i)))=Sm (n+1) (fun i=>Sm (n - i+1) (fun j=>a i j)):=by
  intro n
  induction n with
  | zero=>rfl
  | succ n ih=>
    show Sm (n+1) (fun k=>Sm (k+1) (fun i=>a i (k - i)))+(Sm (n+1) (fun i=>a i (n+1 - i))+a (n+1) (n+1 - (n+1)))=Sm (n+1) (fun i=>Sm (n+1 - i+1) (fun j=>a i j))+Sm (n+1 - (n+1)+1) (fun j=>a (n+1) j)
    rw[ih,ag1];have e:Sm (n+1) (fun i=>Sm (n+1 - i+1) (fun j=>a i j))=Sm (n+1) (fun i=>Sm (n - i+1) (fun j=>a i j))+Sm (n+1) (fun i=>a i (n+1 - i)):=by
      rw[← iT];refine cR (fun i hi=> ?_);rw[show n+1 - i=n - i+1 by omega]
      rfl
    rw[e]
    show _=_+(0+a (n+1) 0)
    omega

theorem DU (f g h:Nat→Int) (n:Nat):cw (cw f g) h n=cw f (cw g h) n:=by
  unfold cw;rw[cR (g:=fun k=>Sm (k+1) (fun i=>f i*(g (k - i)*h (n - i - (k - i))))) (fun k hk=> ?_)]
  · rw[QX (fun i j=>f i*(g j*h (n - i - j)))]
    exact cR (fun i _=>jg _ _ _)
  · rw[← pW]
    refine cR (fun i hi=> ?_);rw[show n - i - (k - i)=n - k by omega,agJ]

theorem DV {f f' g g':Nat→Int} {n:Nat} (hf: ∀i,i≤n→f i=f' i) (hg: ∀i,i≤n→g i=g' i):cw f g n=cw f' g' n:=
  cR (fun i hi=>by rw[hf i aa,hg (n - i) aa])

theorem QY (f g h:Nat→Int) (n:Nat):cw f (fun i=>g i+h i) n=cw f g n+cw f h n:=by
  unfold cw;rw[← iT];exact cR (fun i _=>Int.mul_add _ _ _)

def c1 (n:Nat):Int:=if n=0 then 1 else 0

theorem QZ (f:Nat→Int) (n:Nat):cw c1 f n=f n:=by
  unfold cw;rw[qK,cR (g:=fun _=>0) (fun i _=>by show(if i+1=0 then (1:Int) else 0)*_=0;rw[aj aa,agA]),kM]
  show(if 0=0 then (1:Int) else 0)*f (n - 0)+0=f n
  rw[ak rfl,Nat.sub_zero]
  omega

def dd (f:Nat→Int) (n:Nat):Int:=(n:Int)*f n

theorem Q1 (f g:Nat→Int) (n:Nat):dd (cw f g) n=cw (dd f) g n+cw f (dd g) n:=by
  unfold dd cw;rw[← jg,← iT];refine cR (fun i hi=> ?_);rw[show(n:Int)=(i:Int)+((n - i:Nat):Int) by omega]
  grind

theorem Ld (f g:Nat→Int) (n:Nat):cw f (fun i=> -g i) n= -cw f g n:=by
  have:cw f (fun i=> -g i) n=(-1)*cw f g n:=by
    unfold cw;rw[← jg];refine cR (fun i _=> ?_)
    grind
  omega

def pt (n:Nat) (a:Nat→Nat→Int) (j:Nat):Int:=if j=0 then 0 else tr n (pw n a (j - 1))

theorem Q2 (n:Nat) (a:Nat→Nat→Int): ∀(p i k:Nat),i<n→k<n→mp n a (p+1) i k=pw n a p i k:=by
  intro p
  induction p with
  | zero=>
    intro i k hi hk
    show Sm n (fun q=>jf i q*a q k)=a i k
    rw[cR (g:=fun q=>(if q=i then 1 else 0)*a q k) (fun q _=> ?_),tu n (fun q=>a q k) hi];unfold jf
    by_cases c:i=q
    · rw[ak c,ak c.symm]
    · rw[aj c,aj (fun z=>c z.symm)]
  | succ p ih=>
    intro i k hi hk;exact cR (fun q hq=>by rw[ih i q hi hq])

theorem Q3 (n:Nat) (a:Nat→Nat→Int) (m:Nat):tn n a m=Sm (m+1) (fun t=>ch n a t*pt n a (m+1 - t)):=by
  unfold tn;rw[cR (g:=fun k=>Sm (m+1) (fun t=>ch n a t*mp n a (m - t+1) k k)) (fun k hk=> ?_),rB]
  · refine cR (fun t ht=> ?_)
    rw[jg]
    congr 1
    unfold pt tr;rw[aj aa,show m+1 - t - 1=m - t by omega];exact cR (fun k hk=>Q2 n a (m - t) k k hk hk)
  · rw[cR (g:=fun i=>Sm (m+1) (fun t=>ch n a t*(mp n a (m - t) k i*a i k))) (fun i hi=>by
      rw[QO n a m k i hk hi,← pW];exact cR (fun t _=>agJ _ _ _)),rB]
    exact cR (fun t _=>jg _ _ _)

theorem Q4 (n:Nat) (a:Nat→Nat→Int) (m:Nat):((m+1:Nat):Int)*ch n a (m+1)= - tn n a m:=by
  by_cases c:m<n+1
  · exact KT n a m c
  · rw[show ch n a (m+1)=0 from qJ n _ _ aa,agL]
    unfold tn;rw[cR (g:=fun _=>0) (fun k hk=>by
      rw[cR (g:=fun _=>0) (fun i _=>by rw[DN n a m k i hk aa,agA]),kM]),kM]
    rfl

theorem Q5 (n:Nat) (a:Nat→Nat→Int) (m:Nat):dd (ch n a) m= - cw (pt n a) (ch n a) m:=by
  match m with
  | 0=>
    show((0:Nat):Int)*_= -(0+pt n a 0*ch n a 0)
    unfold pt;rw[ak rfl];simp
  | m+1=>
    show((m+1:Nat):Int)*ch n a (m+1)=_
    rw[Q4,Q3,uL];unfold cw
    show _= -(Sm (m+1) (fun i=>ch n a i*pt n a (m+1 - i))+ch n a (m+1)*pt n a (m+1 - (m+1)))
    rw[ag1,show pt n a 0=0 from ak rfl,agL,agN]
theorem Q6 (l:List Int) (hl:l.length≤1048576): ∀(i:Nat),i≤l.length→Ev (fun k=>mR.l0 k (l.take i)) (sB l i):=by
  intro i;have hc: ∀x:List Int,x.length≤1048576→mS.f x=some x:=fun x hx=>ak aa
  induction i with
  | zero=>
    intro hi;refine bX ?_;simp only[mR.l0];rw[List.take_zero]
    repeat (first|with_reducible exact bD _ |dsimp only |with_reducible refine bu (bK (hc _ bQ)) ?_ |refine dx ?_ |refine dz ?_ |simp only[bne_self_eq_false,agC,agD,agB,agE]|rw[bN aa aa]|with_reducible exact(bK (hc _ bQ))|((with_reducible refine bK (congrArg some ?_));rfl))
  | succ i ih=>
    intro hi;refine bX ?_;simp only[mR.l0];have e:(l.take (i+1)).length=i+1:=by simp only[List.length_take];omega
    rw[e,bN aa aa,show((i+1:Nat):Int) - 1=i by omega];have e2:rd (l.take (i+1)) (i:Int)=rd l (i:Int):=by rw[gz aa,gz aa,List.getElem_take]
    have e3:(l.take (i+1)).take i=l.take i:=by rw[List.take_take,Nat.min_eq_left aa]
    rw[e2,show((i:Int)).toNat=i from rfl,e3];unfold sB
    by_cases h:rd l (i:Int)=0
    · rw[ak h]
      repeat (first|with_reducible exact bD _ |dsimp only |refine dx ?_ |refine dz ?_ |simp only[bne_self_eq_false,agC,agD,agB,agE]|rw[bN aa aa]|((with_reducible refine bK (congrArg some ?_));rfl))
      exact ih aa
    · rw[aj h]
      repeat (first|with_reducible exact bD _ |dsimp only |with_reducible refine bu (bK (hc (l.take (i+1)) aa)) ?_ |refine dx ?_ |refine dz ?_ |simp only[bne_self_eq_false,agC,agD,agB,agE]|rw[bN aa aa]|with_reducible exact(bK (hc (l.take (i+1)) aa))|((with_reducible refine bK (congrArg some ?_));rfl))

theorem Q7 (l:List Int) (hl:l.length≤1048576):Ev (fun k=>mR.f k l) (sB l l.length):=by
  unfold mR.f;have:=Q6 l hl _ (agO _);rw[List.take_length]at this;exact this

def pre (n:Nat) (a:Nat→Nat→Int):Nat→Nat→Nat→Int
  | 0=>fun _ _=>0
  | k+1=>nc n a k

def wm (n:Nat) (x:Nat→Nat→Int):List (List Int):=ofFn n (fun i j=>wrap64 (x i j))

theorem Le {n i j:Nat} (x:Nat→Nat→Int) (hi:i<n) (hj:j<n):dF (wm n x) i j=wrap64 (x i j):=uM _ hi hj

theorem Lh (n:Nat) (a:List (List Int)) (x:Nat→Nat→Int):ofFn n (part a (wm n x) n)=wm n (mul n (dF a) x):=by
  refine mT (fun i j hi hj=> ?_);unfold part;exact Lj (fun k hk=>by rw[Le x hk hj,Ll])

theorem Q8 (n:Nat) (a:Nat→Nat→Int):zeros n=wm n (pre n a 0):=by
  unfold wm ofFn zeros;apply List.ext_getElem
  · simp
  · intro i h1 h2
    simp only[List.getElem_replicate,List.getElem_map,ahf];rw[← uN];exact lA (fun j _=>(bN (x:=0) aG aG).symm)

theorem Q9 (n:Nat) (a:Nat→Nat→Int) (k i j:Nat) (hi:i<n) (hj:j<n):nc n a k i j=mul n a (pre n a k) i j+if i=j then ch n a k else 0:=by
  rw[AX n a k i j hi hj]
  congr 1
  match k with
  | 0=>
    rw[ak rfl];unfold mul pre;rw[cR (g:=fun _=>0) (fun q _=>agL _),kM]
  | k+1=>
    rw[aj aa,agK];exact(KW n a k i j hi hj).symm

section
variable (n:Nat) (hn:n≤1000) (a:List (List Int)) (ha:Sq n a)

def pY (k s:Nat):List (List Int):=ofFn n (fun i j=>wrap64 (mul n (dF a) (pre n (dF a) k) i j+if i=j∧i<s then ch n (dF a) k else 0))

theorem Rb (k:Nat):pY n a k 0=wm n (mul n (dF a) (pre n (dF a) k)):=by
  refine mT (fun i j hi hj=> ?_);rw[aj aa,agN]

theorem Rd (k:Nat):pY n a k n=wm n (nc n (dF a) k):=by
  refine mT (fun i j hi hj=> ?_);rw[Q9 n (dF a) k i j hi hj]
  by_cases c:i=j
  · rw[ak c,ak ⟨c,hi⟩]
  · rw[aj c,aj (fun z=>c z.1)]

theorem Lm (k s:Nat) (hs:s<n):aH (pY n a k s) (s:Int)=rowOf n (fun j=>wrap64 (mul n (dF a) (pre n (dF a) k) s j)):=by
  unfold pY;rw[sC _ hs];refine lA (fun j _=> ?_);rw[aj aa,agN]

theorem Rf (k s:Nat) (hs:s<n):(pY n a k s).set s ((aH (pY n a k s) (s:Int)).set s (wrap64 (rd (aH (pY n a k s) (s:Int)) (s:Int)+wrap64 (ch n (dF a) k))))=pY n a k (s+1):=by
  rw[Lm n a k s hs,nK _ hs,uO _ _ hs];unfold pY;rw[DW _ _ hs];refine mT (fun i j hi hj=> ?_)
  by_cases e:i=s
  · subst e
    rw[ak rfl]
    by_cases e2:j=i
    · rw[ak e2,wW,ak ⟨e2.symm,by omega⟩,e2]
    · rw[aj e2,aj (fun z=>e2 z.1.symm),agN]
  · rw[aj e]
    by_cases c:i=j∧i<s
    · rw[ak c,ak ⟨c.1,by omega⟩]
    · rw[aj c,aj (fun z=>c ⟨z.1,by omega⟩)]

include hn ha

theorem Rh (k:Nat) (hk:k<n) (res:List Int)
    (h:Ev (fun f=>(fQ.f f a (wm n (nc n (dF a) k))).bind fun t=>(mh.f f t).bind fun t2=>if ((k+1:Nat):Int)=0 then none else if (mg n (dF a) (k+1)).length<17592186044416 then gE.l0 f a (mg n (dF a) (k+1)++[wrap64 (Int.tdiv (wrap64 (-t2)) ((k+1:Nat):Int))]) (wm n (nc n (dF a) k)) (wrap64 (((k+1:Nat):Int)+1)) else none) res):
    ∀(d s:Nat),s+d=n→Ev (fun f=>gE.l1 f a (mg n (dF a) (k+1)) (pY n a k s) ((k+1:Nat):Int) (n:Int) (s:Int)) res:=by
  have hlc:(mg n (dF a) (k+1)).length=k+1:=jB _ _;intro d
  induction d with
  | zero=>
    intro s hs;obtain rfl:s=n:=by omega
    rw[← Rd]at h;refine bX ?_;simp only[gE.l1];exact cB aa h
  | succ d ih=>
    intro s hs;have h1:=ih (s+1) aa;have hl:(pY n a k s).length=n:=pZ _ _;have hrow:(aH (pY n a k s) (s:Int)).length=n:=by rw[Lm n a k s aa,jB]
    have e2:rd (mg n (dF a) (k+1)) (k:Int)=wrap64 (ch n (dF a) k):=nK _ aa;rw[← Rf n a k s aa]at h1;refine bX ?_;simp only[gE.l1];rw[bN (x:=((k+1:Nat):Int) - 1) aa aa,show((k+1:Nat):Int) - 1=(k:Int) by omega,e2,eE (i:=s) aa,agG]
    repeat (first|with_reducible exact bD _ |dsimp only |refine dx ?_ |refine dz ?_ |simp only[bne_self_eq_false,agC,agD,agB,agE]|rw[bN aa aa]|((with_reducible refine bK (congrArg some ?_));rfl))
    exact h1

theorem Ri (hb: ∀k,1≤k→k≤n→ab ((k:Int)*ch n (dF a) k)≤9223372036854775807): ∀(d k:Nat),k+d=n→Ev (fun f=>gE.l0 f a (mg n (dF a) (k+1)) (wm n (pre n (dF a) k)) ((k+1:Nat):Int)) (sB (mg n (dF a) (n+1)) (n+1)):=by
  have hal:=ha.1;intro d
  induction d with
  | zero=>
    intro k hk;obtain rfl:k=n:=by omega
    have hl:(mg k (dF a) (k+1)).length=k+1:=jB _ _;have h1:=Q7 (mg k (dF a) (k+1)) aa;rw[hl]at h1;refine bX ?_;simp only[gE.l0]
    repeat (first|with_reducible exact bD _ |dsimp only |with_reducible refine bu (h1) ?_ |refine dx ?_ |refine dz ?_ |simp only[bne_self_eq_false,agC,agD,agB,agE]|rw[bN aa aa]|with_reducible exact(h1)|((with_reducible refine bK (congrArg some ?_));rfl))
  | succ d ih=>
    intro k hk;have h1:=ih (k+1) aa;have hlc:(mg n (dF a) (k+1)).length=k+1:=jB _ _;have hp:=DX n hn a (wm n (pre n (dF a) k)) ha (uP n _);rw[Lh,← Rb]at hp;have wX:=DX n hn a (wm n (nc n (dF a) k)) ha (uP n _);rw[Lh]at wX;have ht:=trace n hn (wm n (mul n (dF a) (nc n (dF a) k))) (uP n _);have et:wrap64 (-wrap64 (tr n (dF (wm n (mul n (dF a) (nc n (dF a) k))))))=((k+1:Nat):Int)*ch n (dF a) (k+1):=by
      have e1:wrap64 (tr n (dF (wm n (mul n (dF a) (nc n (dF a) k)))))=wrap64 (tn n (dF a) k):=by
        unfold tr;rw[Lj (g:=fun i=>mul n (dF a) (nc n (dF a) k) i i) (fun i hi=>by rw[Le _ hi hi,wrap_wrap])];unfold tn;rw[cR (fun i hi=>KW n (dF a) k i i hi hi)]
        rfl
      have U7:=KT n (dF a) k aa;have hb1:=hb (k+1) aa aa;rw[e1,Rj,← U7];unfold ab at hb1;exact bN aa aa
    have eq:wrap64 (Int.tdiv (((k+1:Nat):Int)*ch n (dF a) (k+1)) ((k+1:Nat):Int))=wrap64 (ch n (dF a) (k+1)):=by
      rw[Int.mul_tdiv_cancel_left _ aa]
    have hl2:(pY n a k 0).length=n:=pZ _ _;have h2:=Rh n hn a ha k aa (sB (mg n (dF a) (n+1)) (n+1)) (by
      refine bu wX (bu ht ?_);rw[et,eq,eE (i:=k+1) aa];have e3:mg n (dF a) (k+1)++[wrap64 (ch n (dF a) (k+1))]=mg n (dF a) (k+1+1):=KX (k+1) (fun m=>wrap64 (ch n (dF a) m));rw[e3]
      repeat (first|with_reducible exact bD _ |dsimp only |refine dx ?_ |refine dz ?_ |simp only[bne_self_eq_false,agC,agD,agB,agE]|rw[bN aa aa]|((with_reducible refine bK (congrArg some ?_));rfl))
      exact h1) n 0 aa
    refine bX ?_;simp only[gE.l0];refine bz aa (bu hp ?_);rw[hl2];exact h2

theorem Rk (hb: ∀k,1≤k→k≤n→ab ((k:Int)*ch n (dF a) k)≤9223372036854775807):Ev (fun f=>gE.f f a) (sB (mg n (dF a) (n+1)) (n+1)):=by
  have h:=Ri n hn a ha hb n 0 aa;have e:mg n (dF a) (0+1)= [1]:=by
    show[wrap64 (ch n (dF a) 0)]= [1]
    rw[show ch n (dF a) 0=1 from(AY n jf (ng (dF a))).trans (Gh n),bN aG aG]
  unfold gE.f;rw[ha.1];refine bu (DY (n:Int) aa aa) ?_;rw[agG,Q8 n (dF a)];rw[e]at h;exact h

end
def flip (e:Nat):Nat:=if e % 2=0 then e+1 else e - 1

theorem flip_flip (e:Nat):flip (flip e)=e:=by
  unfold flip
  split<;>split<;>omega

theorem DZ {e m:Nat} (h:e<2*m):flip e<2*m:=by
  unfold flip
  split<;>omega

def tm (b:Nat→Nat) (e f:Nat):Int:=if b f=b (flip e)∧f≠flip e then 1 else 0

theorem Rl (P:Nat→Prop) [DecidablePred P] (n:Nat) (h: ∀f g,f<n→g<n→P f→P g→f=g):Sm n (fun f=>if P f then 1 else 0)≤1:=by
  induction n with
  | zero=>exact(by decide:(0:Int)≤1)
  | succ n ih=>
    have h1:=ih (fun f g hf hg=>h f g aa aa)
    show Sm n (fun f=>if P f then 1 else 0)+(if P n then 1 else 0)≤1
    by_cases c:P n
    · have e:Sm n (fun f=>if P f then (1:Int) else 0)=0:=by
        rw[cR (g:=fun _=>0) (fun f hf=>aj (fun z=> ?_)),kM];have:=h f n aa aa z c
        omega
      rw[e,ak c]
      omega
    · rw[aj c]
      omega

def rep (t:Nat→Nat) (q:Nat):Nat:=(ag2 (q+1)).findIdx (fun j=>t j == t q)

theorem zb (t:Nat→Nat) (q:Nat):rep t q≤q∧t (rep t q)=t q∧∀j,j<rep t q→t j≠t q:=by
  have hx: ∃x∈ag2 (q+1),(fun j=>t j == t q) x=true:=⟨q,List.mem_range.2 aa,by simp⟩;have h1:=List.findIdx_lt_length_of_exists hx;rw[List.length_range]at h1;refine⟨by unfold rep;omega, ?_,fun j hj e=> ?_⟩
  · have:=List.findIdx_getElem (xs:=ag2 (q+1)) (p:=fun j=>t j == t q) (w:=by rw[List.length_range];exact h1)
    rw[ahf]at this;exact eq_of_beq this
  · have h2:=List.not_of_lt_findIdx (p:=fun j=>t j == t q) (xs:=ag2 (q+1)) (i:=j) hj
    rw[ahf,e]at h2;simp at h2

theorem Rm (t:Nat→Nat) (q:Nat):rep t (rep t q)=rep t q:=by
  obtain⟨h1,h2,h3⟩:=zb t q;obtain⟨g1,g2,g3⟩:=zb t (rep t q);rcases Nat.lt_or_ge (rep t (rep t q)) (rep t q) with c|c
  · exact absurd (g2.trans h2) (h3 _ c)
  · omega

theorem Rn (t:Nat→Nat) (V n:Nat) (ht: ∀e,e<n→t e<V):Sm n (fun f=>if rep t f=f then 1 else 0)≤V:=by
  have e:Sm n (fun f=>if rep t f=f then (1:Int) else 0)=Sm V (fun v=>Sm n (fun f=>if rep t f=f∧t f=v then 1 else 0)):=by
    rw[rB];refine cR (fun f hf=> ?_)
    by_cases c:rep t f=f
    · rw[ak c,cR (g:=fun v=>(if v=t f then 1 else 0)*1) (fun v _=> ?_),tu V (fun _=>1) (ht f hf)]
      by_cases c2:t f=v
      · rw[ak ⟨c,c2⟩,ak c2.symm];rfl
      · rw[aj (fun z=>c2 z.2),aj (fun z=>c2 z.symm)];rfl
    · rw[aj c,cR (g:=fun _=>0) (fun v _=>aj (fun z=>c z.1)),kM]
  rw[e];have:=qL (n:=V) (f:=fun v=>Sm n (fun f=>if rep t f=f∧t f=v then (1:Int) else 0)) (b:=1) (fun v _=>Rl _ n (fun f g _ _ hf hg=>by
    obtain⟨f1,f2,f3⟩:=zb t f;obtain⟨g1,g2,g3⟩:=zb t g;rw[hf.1]at f3;rw[hg.1]at g3;rcases Nat.lt_trichotomy f g with c|c|c
    · exact absurd (hf.2.trans hg.2.symm) (g3 f c)
    · exact c
    · exact absurd (hg.2.trans hf.2.symm) (f3 g c)))
  omega

section
variable (m:Nat) (hm:m≤10) (t:Nat→Nat) (s:Nat→Int) (hs: ∀f,s f=1∨s f= -1)

def sm (e f:Nat):Int:=s f*tm t e f

theorem Ro (e f:Nat):tm t e f=0∨tm t e f=1:=by
  unfold tm
  split
  · exact .inr rfl
  · exact .inl rfl

def is (a b:Nat):Int:=if a=b then 1 else 0

theorem ze (n a:Nat) (h:a<n):Sm n (fun i=>is i a)=1:=by
  rw[← tu n (fun _=>1) h];exact cR (fun i _=>(Int.mul_one _).symm)

theorem Gk (e f:Nat):tm t e f=(if t f=t (flip e) then 1 else 0) - is e (flip f):=by
  unfold tm is;have g1:(f=flip e)=(e=flip f):=propext ⟨fun z=>by rw[z,flip_flip],fun z=>by rw[z,flip_flip]⟩
  by_cases c:e=flip f
  · rw[ak c,aj (fun z=>z.2 (by rw[g1];exact c)),ak (by rw[c,flip_flip])]
    rfl
  · rw[aj c]
    by_cases c2:t f=t (flip e)
    · rw[ak c2,ak ⟨c2,by rw[ne_eq,g1];exact c⟩];rfl
    · rw[aj c2,aj (fun z=>c2 z.1)];rfl

include hs

theorem Rq (f:Nat) (hf:f<2*m) (hm:m≤10):cs (2*m) (jA (rep t) (fun f=>s f*s (rep t f)) jf (2*m)) (jA (rep t) (fun f=>s f*s (rep t f)) (ng (sm t s)) (2*m)) f≤if rep t f=f then 20 else 4:=by
  obtain⟨r1,r2,r3⟩:=zb t f
  by_cases c:rep t f=f
  · rw[ak c]
    have e: ∀i,i<2*m→ab (jA (rep t) (fun f=>s f*s (rep t f)) jf (2*m) i f)+ab (jA (rep t) (fun f=>s f*s (rep t f)) (ng (sm t s)) (2*m) i f)≤1+is i f+ -1*is i (flip f):=by
      intro i hi;unfold jA;rw[aj (fun z=>z.2 c),aj (fun z=>z.2 c)];have hx:ab (ng (sm t s) i f)=tm t i f:=by
        unfold ng sm;have:=Ro t i f;rcases hs f with e1|e1<;>rcases this with e2|e2<;>rw[e1,e2]<;>rfl
      rw[hx,Gk];unfold jf is ab
      split<;>split<;>split<;>omega
    refine ag7 (p4 e) ?_;rw[iT,iT,jg,ze _ _ hf,ze _ _ (DZ hf)];have h2:Sm (2*m) (fun _=>(1:Int))≤((2*m:Nat):Int)*1:=qL (fun _ _=>agI _)
    omega
  · rw[aj c]
    have e: ∀i,i<2*m→ab (jA (rep t) (fun f=>s f*s (rep t f)) jf (2*m) i f)+ab (jA (rep t) (fun f=>s f*s (rep t f)) (ng (sm t s)) (2*m) i f)≤(is i f+is i (rep t f))+(is i (flip f)+is i (flip (rep t f))):=by
      intro i hi;unfold jA;rw[ak ⟨hf,c⟩,ak ⟨hf,c⟩];have hx:ab (ng (sm t s) i f - s f*s (rep t f)*ng (sm t s) i (rep t f))≤is i (flip f)+is i (flip (rep t f)):=by
        unfold ng sm;rw[Gk,Gk,r2];generalize (if t f=t (flip i) then (1:Int) else 0)=z;have a1:is i (flip f)=0∨is i (flip f)=1:=by unfold is;split<;>simp
        have a2:is i (flip (rep t f))=0∨is i (flip (rep t f))=1:=by unfold is;split<;>simp
        unfold ab;rcases hs f with e1|e1<;>rcases hs (rep t f) with e2|e2<;>rcases a1 with e3|e3<;>rcases a2 with e4|e4<;>rw[e1,e2,e3,e4]<;>omega
      show ab (jf i f - s f*s (rep t f)*jf i (rep t f))+ab (ng (sm t s) i f - s f*s (rep t f)*ng (sm t s) i (rep t f))≤_
      have hy:ab (jf i f - s f*s (rep t f)*jf i (rep t f))≤is i f+is i (rep t f):=by
        unfold jf is ab;rcases hs f with e1|e1<;>rcases hs (rep t f) with e2|e2<;>rw[e1,e2]<;>split<;>split<;>omega
      omega
    refine ag7 (p4 e) ?_;rw[iT,iT,iT,ze _ _ hf,ze _ _ aa,ze _ _ (DZ hf),ze _ _ (DZ aa)]
    decide

theorem Rt (hm:m≤10) (ht: ∀e,e<2*m→t e<8) (k:Nat) (hk:k≤2*m):ab ((k:Int)*ch (2*m) (sm t s) k)≤9223372036854775807:=by
  have h1:=QU (2*m) (rep t) (fun f=>s f*s (rep t f)) (sm t s) (fun f hf=>by have:=(zb t f).1;omega) (fun f _=>Rm t f) k;have h2:Pr (2*m) (cs (2*m) (jA (rep t) (fun f=>s f*s (rep t f)) jf (2*m)) (jA (rep t) (fun f=>s f*s (rep t f)) (ng (sm t s)) (2*m)))≤Pr (2*m) (fun i=>if decide (rep t i=i) then 20 else 4):=Lo (fun i _=>Lc _ _ _ _) (fun i hi=>by
    have:=Rq m t s hs i hi hm
    by_cases c:rep t i=i
    · rw[ak c]at this
      rw[ak (aV c)];exact this
    · rw[aj c]at this
      rw[aj (by simpa using c)];exact this)
  obtain⟨p1,p2⟩:=QV (2*m) (fun i=>decide (rep t i=i));rw[p1]at h2;have h3:=Rn t 8 (2*m) ht;have h3':Sm (2*m) (fun i=>if decide (rep t i=i)=true then (1:Int) else 0)≤8:=by
    rw[cR (g:=fun f=>if rep t f=f then (1:Int) else 0) (fun i _=>by simp)];exact h3
  generalize Sm (2*m) (fun i=>if decide (rep t i=i)=true then (1:Int) else 0)=x at*;have h4:(5:Int) ^ x.toNat≤390625:=by
    have: ∀i:Fin 9,(5:Int) ^ i.val≤390625:=by decide
    exact this ⟨x.toNat,by omega⟩
  have h5:(4:Int) ^ (2*m)≤1099511627776:=by
    have: ∀i:Fin 21,(4:Int) ^ i.val≤1099511627776:=by decide
    exact this ⟨2*m,by omega⟩
  have h6:(4:Int) ^ (2*m)*5 ^ x.toNat≤1099511627776*5 ^ x.toNat:=agR h5 (ahg aG);rw[AZ];have h7:ab (k:Int)≤20:=by unfold ab;omega
  have h8:ab (k:Int)*ab (ch (2*m) (sm t s) k)≤20*ab (ch (2*m) (sm t s) k):=agR h7 (oL _)
  omega

end
theorem Gl (n:Nat) (a b:Nat→Nat→Int) (h: ∀i j,i<n→j<n→a i j=b i j) (m:Nat):ch n a m=ch n b m:=
  La n a jf (ng b) (fun u=>wV n _ _ (fun i j hi hj=>by
    unfold xu ng;rw[h i j hi hj])) m

def tv (l:List (List Int)) (e:Nat):Nat:=(tl l e).toNat

section
variable {n:Int} {l:List (List Int)} (h:fH n l=true)
include h

theorem Gm {e:Nat} (he:e<2*l.length):0≤tl l e∧tl l e<n:=by
  obtain⟨e2,a,b,ea,eb,ha,hb⟩:=Gn h (show e / 2<l.length by omega);unfold tl
  split
  · rw[eb];omega
  · rw[ea];omega

theorem Ru {e:Nat} (he:e<2*l.length):(tv l e:Int)<n:=by
  have:=Gm h he;unfold tv
  omega

omit h in
theorem Rw (e:Nat):hd l e=tl l (flip e):=by
  unfold hd tl flip
  by_cases c:e % 2=0
  · rw[aj (show ¬e % 2=1 by omega),ak c,ak aa,show(e+1) / 2=e / 2 by omega]
  · rw[ak (show e % 2=1 by omega),aj c,aj aa,show(e - 1) / 2=e / 2 by omega]

theorem Rx {p q:Nat} (hp:p<2*l.length) (hq:q<2*l.length):W l p q=tm (tv l) p q:=by
  have h1:=Gm h hq;have h2:=Gm h (DZ hp);have e:(next l p q=true)=(tv l q=tv l (flip p)∧q≠flip p):=propext (by
    rw[zf,Rw];unfold tv
    show _∧q≠flip p↔_
    constructor
    · rintro⟨a,b⟩;exact⟨by rw[a],b⟩
    · rintro⟨a,b⟩;exact⟨by omega,b⟩)
  unfold W tm;simp only[e]

def wY (l:List (List Int)):List Int:=sB (mg (2*l.length) (W l) (2*l.length+1)) (2*l.length+1)

omit h in
theorem Ry (n:Nat) (a b:Nat→Nat→Int) (h: ∀i j,i<n→j<n→a i j=b i j) (k:Nat):mg n a k=mg n b k:=lA (fun m _=>by rw[Gl n a b h m])

theorem Lp (k:Nat) (hk:k≤2*l.length):ab ((k:Int)*ch (2*l.length) (W l) k)≤9223372036854775807:=by
  obtain⟨g1,g2,g3⟩:=gG h;have h1:=Rt l.length (tv l) (fun _=>1) (fun _=> .inl rfl) g3 (fun e he=>by have:=Ru h he;omega) k hk;rw[Gl _ (sm (tv l) (fun _=>1)) (W l) (fun i j hi hj=>by
    rw[Rx h hi hj];unfold sm;rw[agQ]) k]at h1
  exact h1

theorem Rz:Ev (fun k=>uQ.f k n l) (wY l):=by
  obtain⟨g1,g2,g3⟩:=gG h;have h1:=Rk (2*l.length) aa (ofFn (2*l.length) (W l)) (uP _ _) (fun k _ hk=>by
    rw[Gl _ _ (W l) (fun i j hi hj=>uM _ hi hj)];exact Lp h k hk)
  rw[Ry _ _ (W l) (fun i j hi hj=>uM _ hi hj),← Gp]at h1;unfold uQ.f wY;refine bu (uR h) ?_;exact bu h1 (bD _)

end

theorem RA (l:List Int): ∀n j:Nat,rd (sB l n) (j:Int)=if j<n then rd l (j:Int) else 0:=by
  intro n
  induction n with
  | zero=>intro j;rfl
  | succ n ih=>
    intro j;unfold sB
    by_cases c:rd l (n:Int)=0
    · rw[ak c,ih j]
      by_cases c1:j<n
      · rw[ak c1,ak aa]
      · rw[aj c1]
        by_cases c2:j<n+1
        · rw[ak c2,show j=n by omega,c]
        · rw[aj c2]
    · rw[aj c]
      simp only[rd,aho,agG,List.getElem?_take]
      split<;>rfl

def rf (l:List (List Int)):Nat→Int:=ch (2*l.length) (W l)

theorem Lq {n:Int} {l:List (List Int)} (h:fH n l=true) (m:Nat): -9223372036854775807≤rf l m∧rf l m≤9223372036854775807:=by
  unfold rf
  by_cases c:m≤2*l.length
  · by_cases c0:m=0
    · rw[c0,show ch (2*l.length) (W l) 0=1 from(AY _ jf (ng (W l))).trans (Gh _)]
      decide
    · have:=Lp h m c
      rw[AZ]at this;have h2:1*ab (ch (2*l.length) (W l) m)≤ab (m:Int)*ab (ch (2*l.length) (W l) m):=agR (by unfold ab;omega) (oL _);unfold ab at this h2
      omega
  · rw[show ch (2*l.length) (W l) m=0 from qJ _ _ _ aa]
    decide

theorem RB {n:Int} {l:List (List Int)} (h:fH n l=true) (j:Nat):rd (wY l) (j:Int)=rf l j:=by
  unfold wY;rw[RA]
  by_cases c:j<2*l.length+1
  · rw[ak c]
    unfold mg;rw[nK _ c];have:=Lq h j;unfold rf at*;exact bN aa aa
  · rw[aj c]
    exact(qJ _ _ _ aa).symm

theorem Lr (l:List (List Int)):rf l 0=1:=(AY _ jf (ng (W l))).trans (Gh _)

theorem Ls (l:List (List Int)) (N:Nat): ∀(p i k:Nat),0≤pw N (W l) p i k∧pw N (W l) p i k≤(N:Int) ^ p:=by
  intro p
  induction p with
  | zero=>
    intro i k;rw[ag0];exact mU l i k
  | succ p ih=>
    intro i k;refine⟨lu (fun q _=>agS (ih i q).1 (mU l q k).1), ?_⟩;have:mul N (pw N (W l) p) (W l) i k≤N*(N:Int) ^ p:=qL (fun q _=>by
      have h1:=ih i q;have h2:=mU l q k;have:pw N (W l) p i q*W l q k≤pw N (W l) p i q*1:=agP h2.2 h1.1
      omega)
    rw[agH,agF ((N:Int) ^ p)];exact this

theorem RC (l:List (List Int)) (hl:l.length≤10) (j:Nat) (hj:1≤j):0≤pt (2*l.length) (W l) j∧pt (2*l.length) (W l) j≤20 ^ j:=by
  unfold pt tr;rw[aj aa];refine⟨lu (fun i _=>(Ls l _ _ i i).1), ?_⟩;have h1:Sm (2*l.length) (fun i=>pw (2*l.length) (W l) (j - 1) i i)≤(2*l.length:Nat)*20 ^ (j - 1):=qL (fun i _=>by
    refine ag7 (Ls l _ _ i i).2 ?_;have: ∀(q:Nat),((2*l.length:Nat):Int) ^ q≤20 ^ q:=by
      intro q
      induction q with
      | zero=>exact agI _
      | succ q ih=>
        rw[agH,agH];have a1:((2*l.length:Nat):Int) ^ q*((2*l.length:Nat):Int)≤20 ^ q*((2*l.length:Nat):Int):=agR ih aa;have a2:(20:Int) ^ q*((2*l.length:Nat):Int)≤20 ^ q*20:=agP aa (ahg aG)
        omega
    exact this _)
  have h2:((2*l.length:Nat):Int)*20 ^ (j - 1)≤20*20 ^ (j - 1):=agR aa (ahg aG);have h3:(20:Int) ^ j=20*20 ^ (j - 1):=by
    obtain⟨q,rfl⟩: ∃q,j=q+1:=⟨j - 1,by omega⟩;rw[agK,agH,agF]
  omega

theorem Gq (f:Nat→Int) {d e:Nat} (RD:d≤e) (h: ∀i,d≤i→f i=0):Sm e f=Sm d f:=by
  induction e with
  | zero=>rw[show d=0 by omega]
  | succ e ih=>
    by_cases c:d=e+1
    · rw[c]
    · show Sm e f+f e=_
      rw[ih aa,h e aa,agN]

def LD (f P:Nat→Int):Prop:=∀n,dd f n= - cw P f n

theorem Lt {f g P Q:Nat→Int} (hf:LD f P) (hg:LD g Q):LD (cw f g) (fun i=>P i+Q i):=by
  intro n;have e1:cw (dd f) g n= - cw P (cw f g) n:=by
    rw[DV (f':=fun i=> -cw P f i) (fun i _=>hf i) (fun _ _=>rfl),uL,Ld,uL,DU]
  have e2:cw f (dd g) n= - cw Q (cw f g) n:=by
    rw[DV (g':=fun i=> -cw Q g i) (fun _ _=>rfl) (fun i _=>hg i),Ld,← DU,DV (f':=cw Q f) (fun i _=>uL _ _ _) (fun _ _=>rfl),DU]
  rw[Q1,e1,e2,uL (fun i=>P i+Q i),QY,uL _ P,uL _ Q]
  omega

theorem Lu:LD c1 (fun _=>0):=by
  intro n;unfold dd cw;rw[cR (g:=fun _=>0) (fun i _=>agA _),kM];unfold c1
  by_cases c:n=0
  · rw[c];rfl
  · rw[aj c,agL];rfl

theorem Gs {f P Q:Nat→Int} (h:LD f P) (e: ∀i,P i=Q i):LD f Q:=by
  intro n;rw[h n,DV (fun i _=>e i) (fun _ _=>rfl)]

def tA (d n:Nat):Int:=if n=0 then 1 else if n=d then -1 else 0

def ps (d i:Nat):Int:=if i=0 then 0 else if i % d=0 then (d:Int) else 0

theorem Lx (d:Nat) (hd:0<d) (g:Nat→Int) (n:Nat):cw (tA d) g n=g n - (if d≤n then g (n - d) else 0):=by
  unfold cw;rw[qK]
  show 1*g (n - 0)+_=_
  rw[Nat.sub_zero,agQ]
  by_cases c:d≤n
  · rw[ak c,cR (g:=fun i=>(if i=d - 1 then 1 else 0)*(-g (n - (i+1)))) (fun i hi=> ?_),tu n (fun i=> -g (n - (i+1))) (show d - 1<n by omega),show d - 1+1=d by omega]
    · omega
    · unfold tA
      rw[aj aa]
      by_cases c2:i=d - 1
      · rw[ak aa,ak c2];omega
      · rw[aj aa,aj c2,agA,agA]
  · rw[aj c,cR (g:=fun _=>0) (fun i hi=> ?_),kM]
    · omega
    · unfold tA
      rw[aj aa,aj aa,agA]

theorem RE (d:Nat) (hd:0<d):LD (tA d) (ps d):=by
  intro n;rw[uL,Lx d hd];unfold dd tA ps
  by_cases c0:n=0
  · subst c0
    rw[ak rfl,ak rfl]
    split<;>simp
  · rw[aj c0,aj c0]
    by_cases c1:n=d
    · subst c1
      rw[ak rfl,ag8,ak rfl,ak (agO _),ag1,ak rfl]
      omega
    · rw[aj c1]
      by_cases c2:d≤n
      · rw[ak c2,aj (show ¬n - d=0 by omega),show(n - d) % d=n % d from(Nat.mod_eq_sub_mod c2).symm]
        simp
      · rw[aj c2,aj (show ¬n % d=0 by rw[ag9 aa];exact c0)]
        simp

def fp (d:Nat):Nat→Nat→Int
  | 0=>c1
  | c+1=>cw (tA d) (fp d c)

theorem RF (d:Nat) (hd:0<d): ∀c:Nat,LD (fp d c) (fun i=>(c:Int)*ps d i):=by
  intro c
  induction c with
  | zero=>exact Gs Lu (fun i=>by simp)
  | succ c ih=>exact Gs (Lt (RE d hd) ih) (fun i=>by rw[show((c+1:Nat):Int)=1+(c:Int) by omega,agV,agQ])

theorem RG (d:Nat): ∀c:Nat,fp d c 0=1:=by
  intro c
  induction c with
  | zero=>rfl
  | succ c ih=>
    show Sm 1 (fun i=>tA d i*fp d c (0 - i))=1
    show 0+tA d 0*fp d c 0=1
    rw[ih]
    rfl

def qM (c:Nat→Nat):Nat→Nat→Int
  | 0=>c1
  | m+1=>cw (fp (m+1) (c (m+1))) (qM c m)

def Qd (c:Nat→Nat) (m i:Nat):Int:=Sm m (fun j=>(c (j+1):Int)*ps (j+1) i)

theorem Ly (c:Nat→Nat): ∀m,LD (qM c m) (Qd c m):=by
  intro m
  induction m with
  | zero=>exact Lu
  | succ m ih=>exact Gs (Lt (RF (m+1) aa (c (m+1))) ih) (fun i=>by
      show _=Qd c m i+_
      rw[Int.add_comm])

theorem LA (c:Nat→Nat): ∀m,qM c m 0=1:=by
  intro m
  induction m with
  | zero=>rfl
  | succ m ih=>
    show 0+fp (m+1) (c (m+1)) 0*qM c m 0=1
    rw[ih,RG]
    rfl

theorem RH {d i:Nat} (h:i<d):ps d i=0:=by
  unfold ps
  by_cases c:i=0
  · rw[ak c]
  · rw[aj c,aj (by rw[ag9 h];exact c)]

theorem LB (c:Nat→Nat) (m:Nat):Qd c m 0=0:=by
  unfold Qd;rw[cR (g:=fun _=>0) (fun j _=>by rw[show ps (j+1) 0=0 from rfl,agL]),kM]

theorem LC (c:Nat→Nat) {m i:Nat} (h:i≤m):Qd c m i=Qd c i i:=by
  unfold Qd;exact Gq _ h (fun j hj=>by rw[RH aa,agL])

theorem LF {f g P Q:Nat→Int} (hf:LD f P) (hg:LD g Q) (f0:f 0=g 0) (P0:P 0=0) (Q0:Q 0=0) (K:Nat) (hPQ: ∀i,1≤i→i≤K→P i=Q i): ∀n,n≤K→f n=g n:=by
  intro n
  induction n using ahh with
  | _ n ih=>
    intro hn
    by_cases c:n=0
    · rw[c,f0]
    · have h1:=hf n
      have h2:=hg n;have e:cw P f n=cw Q g n:=by
        unfold cw;rw[qK,qK,P0,Q0,agA,agA]
        congr 1
        refine cR (fun i hi=> ?_);rw[hPQ (i+1) aa aa,ih (n - (i+1)) aa aa]
      unfold dd at h1 h2;rw[e]at h1;exact ahn (show(n:Int)≠0 by omega) (h1.trans h2.symm)

theorem RI {f g P Q:Nat→Int} (hf:LD f P) (hg:LD g Q) (f0:f 0=1) (g0:g 0=1) (P0:P 0=0) (Q0:Q 0=0) (n:Nat) (hn:1≤n) (hPQ: ∀i,1≤i→i<n→P i=Q i):P n - Q n=(n:Int)*(g n - f n):=by
  have h0:=LF hf hg (f0.trans g0.symm) P0 Q0 (n - 1) (fun i h1 h2=>hPQ i h1 aa);have h1:=hf n;have h2:=hg n;obtain⟨m,rfl⟩: ∃m,n=m+1:=⟨n - 1,by omega⟩;have e:cw P f (m+1) - P (m+1)=cw Q g (m+1) - Q (m+1):=by
    unfold cw
    show Sm (m+1) (fun i=>P i*f (m+1 - i))+P (m+1)*f (m+1 - (m+1)) - P (m+1)=Sm (m+1) (fun i=>Q i*g (m+1 - i))+Q (m+1)*g (m+1 - (m+1)) - Q (m+1)
    rw[ag1,f0,g0,qK,qK,P0,Q0,agA,agA];have:Sm m (fun i=>P (i+1)*f (m+1 - (i+1)))=Sm m (fun i=>Q (i+1)*g (m+1 - (i+1))):=cR (fun i hi=>by
      rw[hPQ (i+1) aa aa,h0 (m+1 - (i+1)) aa])
    rw[this]
    omega
  unfold dd at h1 h2;rw[aha]
  omega

def bn:Nat→Nat→Nat
  | _,0=>1
  | 0,_+1=>0
  | c+1,i+1=>bn c i+bn c (i+1)

theorem LG: ∀(c i:Nat),(i+1)*bn c (i+1)+i*bn c i=c*bn c i:=by
  intro c
  induction c with
  | zero=>
    intro i
    match i with
    | 0=>rfl
    | i+1=>rfl
  | succ c ih=>
    intro i
    match i with
    | 0=>
      have:=ih 0
      show(0+1)*(bn c 0+bn c (0+1))+0*_=(c+1)*1
      rw[show bn c 0=1 from by cases c<;>rfl]at*
      omega
    | i+1=>
      have h1:=ih i;have h2:=ih (i+1)
      show(i+1+1)*(bn c (i+1)+bn c (i+1+1))+(i+1)*(bn c i+bn c (i+1))=(c+1)*(bn c i+bn c (i+1))
      grind

theorem Ba (c:Nat):bn c 0=1:=by cases c<;>rfl

theorem RJ: ∀(c i:Nat),c<i→bn c i=0:=by
  intro c
  induction c with
  | zero=>
    intro i hi
    match i,hi with
    | i+1,_=>rfl
  | succ c ih=>
    intro i hi
    match i,hi with
    | i+1,hi=>
      show bn c i+bn c (i+1)=0
      rw[ih i aa,ih (i+1) aa]

theorem LH (c:Nat): ∀i:Nat,bn c i≤c ^ i:=by
  intro i
  induction i with
  | zero=>rw[Ba];exact agO _
  | succ i ih=>
    have h1:=LG c i;have h2:bn c (i+1)≤(i+1)*bn c (i+1):=Nat.le_mul_of_pos_left _ aa;have h3:c*bn c i≤c*c ^ i:=Nat.mul_le_mul_left _ ih;rw[Nat.pow_succ,Nat.mul_comm (c ^ i) c]
    omega

def mV (i:Nat):Int:=if i % 2=0 then 1 else -1

theorem RK (i:Nat):mV (i+1)= - mV i:=by
  unfold mV
  by_cases c:i % 2=0
  · rw[ak c,aj aa]
  · rw[aj c,ak aa];rfl

def qN (m c:Nat) (g:Nat→Int) (i n:Nat):Int:=Sm i (fun t=>if t*m≤n then mV t*(bn c t:Int)*g (n - t*m) else 0)

theorem RL (m:Nat) (hm:0<m) (c:Nat) (g:Nat→Int) {i j n:Nat} (hi:n<i*m) (hij:i≤j):qN m c g j n=qN m c g i n:=by
  unfold qN;refine Gq _ hij (fun t ht=> ?_);rw[aj];have:i*m≤t*m:=Nat.mul_le_mul_right _ ht
  omega

theorem RM (m:Nat) (hm:0<m) (g:Nat→Int): ∀(c n i:Nat),n<i*m→cw (fp m c) g n=qN m c g i n:=by
  intro c
  induction c with
  | zero=>
    intro n i hi;obtain⟨j,rfl⟩: ∃j,i=j+1:=⟨i - 1,by
      have:i≠0:=by rintro rfl;omega
      omega⟩
    show cw c1 g n=_
    rw[QZ];unfold qN;rw[qK,cR (g:=fun _=>0) (fun t _=>by
      rw[show bn 0 (t+1)=0 from rfl]
      split
      · simp
      · rfl),kM,Nat.zero_mul,ak (Nat.zero_le _),Ba]
    show g n=1*((1:Nat):Int)*g (n - 0)+0
    rw[Nat.sub_zero]
    omega
  | succ c ih=>
    intro n i hi;obtain⟨j,rfl⟩: ∃j,i=j+1:=⟨i - 1,by
      have:i≠0:=by rintro rfl;omega
      omega⟩
    show cw (cw (tA m) (fp m c)) g n=_
    rw[DU,Lx m hm,ih n (j+1) hi];have e:qN m (c+1) g (j+1) n=qN m c g (j+1) n - (if m≤n then qN m c g j (n - m) else 0):=by
      unfold qN;rw[qK,qK];have e0: ∀t:Nat,(if (t+1)*m≤n then mV (t+1)*(bn (c+1) (t+1):Int)*g (n - (t+1)*m) else 0)=(if (t+1)*m≤n then mV (t+1)*(bn c (t+1):Int)*g (n - (t+1)*m) else 0)+(-1)*(if m≤n then (if t*m≤n - m then mV t*(bn c t:Int)*g (n - m - t*m) else 0) else 0):=by
        intro t;have em:(t+1)*m=t*m+m:=Nat.succ_mul t m
        by_cases c1:(t+1)*m≤n
        · rw[ak c1,ak c1,ak (show m≤n by omega),ak (show t*m≤n - m by omega),show n - m - t*m=n - (t+1)*m by omega,RK,show bn (c+1) (t+1)=bn c t+bn c (t+1) from rfl]
          generalize g (n - (t+1)*m)=z;rw[Int.natCast_add]
          grind
        · rw[aj c1,aj c1]
          by_cases c2:m≤n
          · rw[ak c2,aj (show ¬t*m≤n - m by omega)];rfl
          · rw[aj c2];rfl
      rw[cR (fun t _=>e0 t),iT,jg,Ba,Ba];have e1:Sm j (fun t=>if m≤n then (if t*m≤n - m then mV t*(bn c t:Int)*g (n - m - t*m) else 0) else 0)=(if m≤n then Sm j (fun t=>if t*m≤n - m then mV t*(bn c t:Int)*g (n - m - t*m) else 0) else 0):=by
        by_cases c2:m≤n
        · rw[ak c2]
          exact cR (fun t _=>ak c2)
        · rw[aj c2,cR (g:=fun _=>0) (fun t _=>aj c2),kM]
      rw[e1]
      omega
    rw[e]
    by_cases c2:m≤n
    · rw[ak c2,ak c2,ih (n - m) j (by rw[Nat.succ_mul]at hi;omega)]
    · rw[aj c2,aj c2]
section
variable (n:Nat) (a:Nat→Nat→Int)

theorem wZ: ∀(q p i j:Nat),pw n a (p+q+1) i j=mul n (pw n a p) (pw n a q) i j:=by
  intro q
  induction q with
  | zero=>intro p i j;rfl
  | succ q ih=>
    intro p i j
    show mul n (pw n a (p+q+1)) a i j=_
    have h1:mul n (pw n a (p+q+1)) a i j=mul n (mul n (pw n a p) (pw n a q)) a i j:=mul_congr (fun k _=>ih p i k) (fun _ _=>rfl);rw[h1,mul_assoc']
    rfl

variable (h0: ∀i j,0≤a i j)
include h0

theorem xb: ∀(p i j:Nat),0≤pw n a p i j:=by
  intro p
  induction p with
  | zero=>exact h0
  | succ p ih=>exact fun i j=>lu (fun k _=>agS (ih i k) (h0 k j))

theorem zg (p q:Nat) {i j k:Nat} (hk:k<n):pw n a p i k*pw n a q k j≤pw n a (p+q+1) i j:=by
  rw[wZ];exact KZ (f:=fun k=>pw n a p i k*pw n a q k j) (fun t _=>agS (xb n a h0 p i t) (xb n a h0 q t j)) hk

omit h0 in
theorem RN {x:Int} (h:0≤x):x≤x*x:=by
  by_cases c:x=0
  · rw[c];decide
  · have:=agR (show 1≤x by omega) h
    omega

omit h0 in
theorem RO {x y:Int} (hx:0≤x) (hy:x≤y):x≤y*x:=by
  have:=RN hx;have:=agR hy hx
  omega

theorem p5 (p r:Nat) {i:Nat} (hi:i<n) (h:pw n a r i i≤pw n a p i i):pw n a r i i≤pw n a (p+r+1) i i:=by
  have h1:=zg n a h0 p r hi (i:=i) (j:=i);have h2:=RO (xb n a h0 r i i) h
  omega

omit h0 in

theorem Gt (b c:Nat→Nat→Int) (hb: ∀i j,0≤b i j) (hc: ∀i j,0≤c i j) {i:Nat} (hi:i<n) (h1:b i i≤c i i) (h2: ∀j k,j<n→k<n→1≤b j k→1≤b k j→b j k≤c j k):c i i+mul n b b i i≤mul n c c i i+b i i:=by
  have e1:0≤Sm n (fun j=>(c i j*c j i+(-1)*(b i j*b j i))+(if j=i then 1 else 0)*(-(c i i*c i i - b i i*b i i))):=by
    refine lu (fun j hj=> ?_)
    by_cases c0:j=i
    · subst c0
      rw[ak rfl]
      omega
    · rw[aj c0,agA]
      by_cases cz:b i j=0∨b j i=0
      · have:b i j*b j i=0:=by rcases cz with e|e<;>rw[e]<;>simp
        have:=agS (hc i j) (hc j i)
        omega
      · have p1:=hb i j
        have p2:=hb j i;have q1:=h2 i j hi hj aa aa;have q2:=h2 j i hj hi aa aa;have:=ahi q1 q2 p2 aa
        omega
  rw[iT,iT,jg,tu n (fun _=> -(c i i*c i i - b i i*b i i)) hi]at e1;have e2:Sm n (fun j=>c i j*c j i)=mul n c c i i:=rfl;have e3:Sm n (fun j=>b i j*b j i)=mul n b b i i:=rfl;rw[e2,e3]at e1

  have e4:b i i*b i i - b i i≤c i i*c i i - c i i:=by
    have hx:=hb i i
    by_cases cz:c i i=0
    · have:b i i=0:=by omega
      rw[this,cz]
      decide
    · have h3:b i i*(b i i - 1)≤c i i*(c i i - 1):=by
        by_cases cb:b i i=0
        · rw[cb]
          have:=agS (hc i i) (show 0≤c i i - 1 by have:=hc i i;omega)
          omega
        · exact ahi h1 aa aa aa
      rw[aha,aha,Int.mul_one,Int.mul_one]at h3;exact h3
  omega

theorem Gu (r:Nat) {i j:Nat} (hi:i<n) (hij:1≤pw n a r i j) (hji:1≤pw n a r j i):1≤pw n a (r+r+1) j j:=by
  have:=zg n a h0 r r hi (i:=j) (j:=j);have:=ahi hji hij aG aa
  omega

theorem six: ∀i,i<n→pw n a 2 i i+pw n a 1 i i≤pw n a 5 i i+pw n a 0 i i:=by
  intro i hi;have nn:=xb n a h0;have hd:=p5 n a h0 1 0 hi (p5 n a h0 0 0 hi (agI _));have:=Gt n (pw n a 0) (pw n a 2) (nn 0) (nn 2) hi hd (fun j k hj hk h1 h2=>by
    have b1:1≤pw n a 1 k k:=Gu n a h0 0 hj h1 h2;have b2:pw n a 0 j k*pw n a 1 k k≤pw n a 2 j k:=zg n a h0 0 1 hk;have b3:=agP b1 (nn 0 j k)
    omega)
  rw[← wZ,← wZ]at this;exact this

theorem ten: ∀i,i<n→pw n a 4 i i+pw n a 1 i i≤pw n a 9 i i+pw n a 0 i i:=by
  intro i hi;have nn:=xb n a h0;have hd:=p5 n a h0 3 0 hi (p5 n a h0 2 0 hi (p5 n a h0 1 0 hi (p5 n a h0 0 0 hi (agI _))));have:=Gt n (pw n a 0) (pw n a 4) (nn 0) (nn 4) hi hd (fun j k hj hk h1 h2=>by
    have b1:1≤pw n a 1 k k:=Gu n a h0 0 hj h1 h2;have b2:pw n a 0 j k*pw n a 1 k k≤pw n a 2 j k:=zg n a h0 0 1 hk;have b3:=agP b1 (nn 0 j k);have b4:pw n a 2 j k*pw n a 1 k k≤pw n a 4 j k:=zg n a h0 2 1 hk;have b5:=agP b1 (nn 2 j k)
    omega)
  rw[← wZ,← wZ]at this;exact this

theorem twelve: ∀i,i<n→pw n a 5 i i+pw n a 3 i i≤pw n a 11 i i+pw n a 1 i i:=by
  intro i hi;have nn:=xb n a h0;have hd:=p5 n a h0 3 1 hi (p5 n a h0 1 1 hi (agI _));have:=Gt n (pw n a 1) (pw n a 5) (nn 1) (nn 5) hi hd (fun j k hj hk h1 h2=>by
    have b1:1≤pw n a 3 k k:=Gu n a h0 1 hj h1 h2;have b2:pw n a 1 j k*pw n a 3 k k≤pw n a 5 j k:=zg n a h0 1 3 hk;have b3:=agP b1 (nn 1 j k)
    omega)
  rw[← wZ,← wZ]at this;exact this

omit h0 in
theorem uS {b c:Nat→Nat→Int} (h: ∀i,i<n→b i i≤c i i):tr n b≤tr n c:=p4 h

omit h0 in
theorem Gv {b c d e:Nat→Nat→Int} (h: ∀i,i<n→b i i+c i i≤d i i+e i i):tr n b+tr n c≤tr n d+tr n e:=by
  unfold tr;rw[← iT,← iT];exact p4 h

theorem LI (N:Nat→Int) (hN: ∀j,N j=tr n (pw n a j)):
    (∀j,0≤N j)∧N 0≤N 1∧N 0≤N 2∧N 1≤N 3∧N 0≤N 4∧N 0≤N 6∧N 3≤N 7∧N 2≤N 8∧N 0≤N 10∧N 2+N 1≤N 5+N 0∧N 4+N 1≤N 9+N 0∧N 5+N 3≤N 11+N 1:=by
  have d0: ∀(i:Nat),i<n→∀p,pw n a 0 i i≤pw n a p i i:=by
    intro i hi p
    induction p with
    | zero=>exact agI _
    | succ p ih=>exact p5 n a h0 p 0 hi ih
  simp only[hN];refine⟨fun j=>lu (fun i _=>xb n a h0 j i i),uS n (fun i hi=>d0 i hi 1),uS n (fun i hi=>d0 i hi 2),uS n (fun i hi=>p5 n a h0 1 1 hi (agI _)),uS n (fun i hi=>d0 i hi 4),uS n (fun i hi=>d0 i hi 6),uS n (fun i hi=>p5 n a h0 3 3 hi (agI _)),uS n (fun i hi=>p5 n a h0 5 2 hi (p5 n a h0 2 2 hi (agI _))),uS n (fun i hi=>d0 i hi 10),Gv n (six n a h0),Gv n (ten n a h0),Gv n (twelve n a h0)⟩

end
def muE:Nat→Int
  | 1=>1 | 2=> -1 | 3=> -1 | 4=>0 | 5=> -1 | 6=>1 | 7=> -1 | 8=>0 | 9=>0 | 10=>1 | 11=> -1 | _=>0

def pS (N:Nat→Int) (m:Nat):Int:=Sm m (fun t=>if m % (t+1)=0 then muE (m / (t+1))*N t else 0)

section
variable (N:Nat→Int) (c:Nat→Nat)

theorem RP (h: ∀d,1≤d→d<1→(c d:Int)*(d:Int)=pS N d):Qd c 0 1=N 0 - pS N 1:=by
  clear h;simp[Qd,ps,pS,Sm,muE]

theorem RQ (h: ∀d,1≤d→d<2→(c d:Int)*(d:Int)=pS N d):Qd c 1 2=N 1 - pS N 2:=by
  have h1:=h 1 aG aG;clear h;simp[pS,Sm,muE]at h1;simp[Qd,ps,pS,Sm,muE]
  omega

theorem RR (h: ∀d,1≤d→d<3→(c d:Int)*(d:Int)=pS N d):Qd c 2 3=N 2 - pS N 3:=by
  have h1:=h 1 aG aG;clear h;simp[pS,Sm,muE]at h1;simp[Qd,ps,pS,Sm,muE]
  omega

theorem RS (h: ∀d,1≤d→d<4→(c d:Int)*(d:Int)=pS N d):Qd c 3 4=N 3 - pS N 4:=by
  have h1:=h 1 aG aG;have h2:=h 2 aG aG;clear h;simp[pS,Sm,muE]at h1 h2;simp[Qd,ps,pS,Sm,muE]
  omega

theorem RT (h: ∀d,1≤d→d<5→(c d:Int)*(d:Int)=pS N d):Qd c 4 5=N 4 - pS N 5:=by
  have h1:=h 1 aG aG;clear h;simp[pS,Sm,muE]at h1;simp[Qd,ps,pS,Sm,muE]
  omega

theorem RU (h: ∀d,1≤d→d<6→(c d:Int)*(d:Int)=pS N d):Qd c 5 6=N 5 - pS N 6:=by
  have h1:=h 1 aG aG;have h2:=h 2 aG aG;have h3:=h 3 aG aG;clear h;simp[pS,Sm,muE]at h1 h2 h3;simp[Qd,ps,pS,Sm,muE]
  omega

theorem RV (h: ∀d,1≤d→d<7→(c d:Int)*(d:Int)=pS N d):Qd c 6 7=N 6 - pS N 7:=by
  have h1:=h 1 aG aG;clear h;simp[pS,Sm,muE]at h1;simp[Qd,ps,pS,Sm,muE]
  omega

theorem RW (h: ∀d,1≤d→d<8→(c d:Int)*(d:Int)=pS N d):Qd c 7 8=N 7 - pS N 8:=by
  have h1:=h 1 aG aG;have h2:=h 2 aG aG;have h4:=h 4 aG aG;clear h;simp[pS,Sm,muE]at h1 h2 h4;simp[Qd,ps,pS,Sm,muE]
  omega

theorem RX (h: ∀d,1≤d→d<9→(c d:Int)*(d:Int)=pS N d):Qd c 8 9=N 8 - pS N 9:=by
  have h1:=h 1 aG aG;have h3:=h 3 aG aG;clear h;simp[pS,Sm,muE]at h1 h3;simp[Qd,ps,pS,Sm,muE]
  omega

theorem RY (h: ∀d,1≤d→d<10→(c d:Int)*(d:Int)=pS N d):Qd c 9 10=N 9 - pS N 10:=by
  have h1:=h 1 aG aG;have h2:=h 2 aG aG;have h5:=h 5 aG aG;clear h;simp[pS,Sm,muE]at h1 h2 h5;simp[Qd,ps,pS,Sm,muE]
  omega

theorem RZ (h: ∀d,1≤d→d<11→(c d:Int)*(d:Int)=pS N d):Qd c 10 11=N 10 - pS N 11:=by
  have h1:=h 1 aG aG;clear h;simp[pS,Sm,muE]at h1;simp[Qd,ps,pS,Sm,muE]
  omega

theorem R1 (h: ∀d,1≤d→d<12→(c d:Int)*(d:Int)=pS N d):Qd c 11 12=N 11 - pS N 12:=by
  have h1:=h 1 aG aG;have h2:=h 2 aG aG;have h3:=h 3 aG aG;have h4:=h 4 aG aG;have h6:=h 6 aG aG;clear h;simp[pS,Sm,muE]at h1 h2 h3 h4 h6;simp[Qd,ps,pS,Sm,muE]
  omega

theorem nx (m:Nat) (hm:1≤m∧m≤12) (h: ∀d,1≤d→d<m→(c d:Int)*(d:Int)=pS N d):Qd c (m - 1) m=N (m - 1) - pS N m:=by
  have:m=1∨m=2∨m=3∨m=4∨m=5∨m=6∨m=7∨m=8∨m=9∨m=10∨m=11∨m=12:=by omega
  rcases this with rfl|rfl|rfl|rfl|rfl|rfl|rfl|rfl|rfl|rfl|rfl|rfl
  · exact RP N c h
  · exact RQ N c h
  · exact RR N c h
  · exact RS N c h
  · exact RT N c h
  · exact RU N c h
  · exact RV N c h
  · exact RW N c h
  · exact RX N c h
  · exact RY N c h
  · exact RZ N c h
  · exact R1 N c h

theorem Gw (m:Nat) (hm:1≤m∧m≤12) (h: ∀d,1≤d→d≤m→(c d:Int)*(d:Int)=pS N d):Qd c m m=N (m - 1):=by
  have h1:=nx N c m hm (fun d a b=>h d a aa);have h2:=h m hm.1 (agO _);obtain⟨k,rfl⟩: ∃k,m=k+1:=⟨m - 1,by omega⟩;have e:Qd c (k+1) (k+1)=Qd c k (k+1)+(c (k+1):Int)*ps (k+1) (k+1):=rfl;have e2:ps (k+1) (k+1)=((k+1:Nat):Int):=by
    unfold ps;rw[aj aa,ag8,ak rfl]
  rw[agK]at h1 ⊢;rw[e,e2,h1,h2]
  omega

theorem R2 (hN:(∀j,0≤N j)∧N 0≤N 1∧N 0≤N 2∧N 1≤N 3∧N 0≤N 4∧N 0≤N 6∧N 3≤N 7∧N 2≤N 8∧N 0≤N 10∧N 2+N 1≤N 5+N 0∧N 4+N 1≤N 9+N 0∧N 5+N 3≤N 11+N 1) (m:Nat) (hm:1≤m∧m≤12):0≤pS N m:=by
  obtain⟨n0,n1,n2,n3,n4,n6,n7,n8,U8,a6,a10,U7⟩:=hN;have z0:=n0 0;have:m=1∨m=2∨m=3∨m=4∨m=5∨m=6∨m=7∨m=8∨m=9∨m=10∨m=11∨m=12:=by omega
  clear n0 hm;rcases this with rfl|rfl|rfl|rfl|rfl|rfl|rfl|rfl|rfl|rfl|rfl|rfl
  · simp[pS,Sm,muE];omega
  · simp[pS,Sm,muE];omega
  · simp[pS,Sm,muE];omega
  · simp[pS,Sm,muE];omega
  · simp[pS,Sm,muE];omega
  · simp[pS,Sm,muE];omega
  · simp[pS,Sm,muE];omega
  · simp[pS,Sm,muE];omega
  · simp[pS,Sm,muE];omega
  · simp[pS,Sm,muE];omega
  · simp[pS,Sm,muE];omega
  · simp[pS,Sm,muE];omega

end

def cE (N:Nat→Int) (m:Nat):Nat:=(pS N m / (m:Int)).toNat

section
variable {N f P:Nat→Int} (hN:(∀j,0≤N j)∧N 0≤N 1∧N 0≤N 2∧N 1≤N 3∧N 0≤N 4∧N 0≤N 6∧N 3≤N 7∧N 2≤N 8∧N 0≤N 10∧N 2+N 1≤N 5+N 0∧N 4+N 1≤N 9+N 0∧N 5+N 3≤N 11+N 1) (hf:LD f P) (f0:f 0=1) (P0:P 0=0) (hP: ∀j,P (j+1)=N j)
include hN hf f0 P0 hP

theorem LJ: ∀m,1≤m→m≤12→(cE N m:Int)*(m:Int)=pS N m:=by
  intro m
  induction m using ahh with
  | _ m ih=>
    intro h1 h12;have hq:=nx N (cE N) m ⟨h1,h12⟩ (fun d a b=>ih d b a aa);have hn:=RI hf (Ly (cE N) (m - 1)) f0 (LA _ _) P0 (LB _ _) m h1 (fun i a b=>by
      rw[LC (cE N) (show i≤m - 1 by omega),Gw N (cE N) i ⟨a,by omega⟩ (fun d p q=>ih d aa p aa),← hP (i - 1),show i - 1+1=i by omega])
    have e:P m=N (m - 1):=by
      rw[← hP (m - 1),show m - 1+1=m by omega]
    rw[hq,e]at hn;have hz:=R2 N hN m ⟨h1,h12⟩;generalize qM (cE N) (m - 1) m - f m=z at hn;have hs:pS N m=(m:Int)*z:=by omega
    have hz0:0≤z:=by
      rw[hs]at hz;exact Int.nonneg_of_mul_nonneg_right hz aa
    unfold cE;rw[hs,Int.mul_ediv_cancel_left _ (show(m:Int)≠0 by omega),Int.toNat_of_nonneg hz0,agF]

theorem R3 (K:Nat) (hK:K≤12): ∀n,n≤K→qM (cE N) K n=f n:=
  LF (Ly (cE N) K) hf ((LA _ _).trans f0.symm) (LB _ _) P0 K (fun i a b=>by
    rw[LC (cE N) b,Gw N (cE N) i ⟨a,by omega⟩ (fun d p q=>LJ hN hf f0 P0 hP d p aa),← hP (i - 1),show i - 1+1=i by omega])

end
theorem Gx (l:List (List Int)) (j:Nat):pt (2*l.length) (W l) (j+1)=dO l j:=by
  unfold pt;rw[aj aa,agK]
  rfl

theorem LK (l:List (List Int)):LD (rf l) (pt (2*l.length) (W l)):=Q5 _ _

theorem D1 (l:List (List Int)) (m:Nat) (hm:1≤m∧m≤12):(cE (dO l) m:Int)*(m:Int)=pS (dO l) m:=
  LJ (LI (2*l.length) (W l) (fun i j=>(mU l i j).1) (dO l) (fun _=>rfl)) (LK l) (Lr l) (ak rfl) (Gx l) m hm.1 hm.2

theorem R4 (l:List (List Int)) (K:Nat) (hK:K≤12) (n:Nat) (hn:n≤K):qM (cE (dO l)) K n=rf l n:=
  R3 (LI (2*l.length) (W l) (fun i j=>(mU l i j).1) (dO l) (fun _=>rfl)) (LK l) (Lr l) (ak rfl) (Gx l) K hK n hn

theorem LL (l:List (List Int)) (m:Nat) (hm:1≤m∧m≤12):pS (dO l) m≤dO l (m - 1):=by
  have h1:=nx (dO l) (cE (dO l)) m hm (fun d a b=>D1 l d ⟨a,by omega⟩);have h2:0≤Qd (cE (dO l)) (m - 1) m:=lu (fun j _=>agS aa (by
    unfold ps
    split
    · exact agI _
    · split
      · omega
      · exact agI _))
  omega

theorem count_le {l:List (List Int)} (hl:l.length≤10) (m:Nat) (hm:1≤m∧m≤12):cE (dO l) m≤20 ^ m:=by
  have h1:=D1 l m hm;have h2:=LL l m hm;have h3:=(RC l hl m hm.1).2;have h4:=Gx l (m - 1);rw[show m - 1+1=m by omega]at h4;rw[h4]at h3;have h5:(cE (dO l) m:Int)*1≤(cE (dO l) m:Int)*(m:Int):=agP aa aa;have h6:(cE (dO l) m:Int)≤20 ^ m:=by omega
  have h7:((20 ^ m:Nat):Int)=20 ^ m:=by rw[Int.natCast_pow];rfl
  omega

theorem R5 (n:Nat) (h:n≤12):mu n=muE n:=by
  have: ∀i:Fin 13,mu i.val=muE i.val:=by decide
  exact this ⟨n,by omega⟩

theorem R6 (l:List (List Int)) (m:Nat) (hm:m≤12):p6 l m m=pS (dO l) m:=by
  unfold p6 pS;refine cR (fun t ht=> ?_);rw[R5 _ (Nat.le_trans (Nat.div_le_self _ _) hm)]

theorem Gy {l:List (List Int)} (hl:l.length≤10) (m:Nat) (hm:1≤m∧m≤12):qa l m=(cE (dO l) m:Int):=by
  have h1:=D1 l m hm;have h2:=LL l m hm;have h3:=D2 l hl (show m - 1≤12 by omega);unfold qa;rw[R6 l m hm.2];have h4:0≤(cE (dO l) m:Int)*(m:Int):=agS aa aa;have h5:(cE (dO l) m:Int)*1≤(cE (dO l) m:Int)*(m:Int):=agP aa aa;rw[bN (x:=pS (dO l) m) aa aa,← h1,ahp h4,Int.mul_ediv_cancel _ aa,bN aa aa]

theorem R7 (c i:Nat) (hi:i≤c) (hi2:i≤1000) (hb:c ^ i≤4096000000000000):Ev (fun k=>oM.f k (c:Int) (i:Int)) ((bn c i:Nat):Int):=by
  have main: ∀(d t:Nat),t+d=i→Ev (fun k=>oM.l0 k (c:Int) (i:Int) ((bn c t:Nat):Int) (t:Int)) ((bn c i:Nat):Int):=by
    intro d
    induction d with
    | zero=>
      intro t ht;obtain rfl:t=i:=by omega
      refine bX ?_;simp only[oM.l0];exact cB aa (bD _)
    | succ d ih=>
      intro t ht;have h1:=ih (t+1) aa;have hs:=LG c t;have hp:c ^ (t+1)≤c ^ i:=ahb aa aa;have hq:=LH c t;have hc:c*bn c t≤c*c ^ t:=Nat.mul_le_mul_left _ hq;rw[Nat.pow_succ,Nat.mul_comm (c ^ t) c]at hp;have hm:c ^ 1≤c ^ i:=ahb aa aa;rw[Nat.pow_one]at hm;have he:((bn c t:Nat):Int)*((c:Int) - (t:Int))=(((t+1)*bn c (t+1):Nat):Int):=by
        have h2:((bn c t:Nat):Int)*((c:Int) - (t:Int))=((c*bn c t:Nat):Int) - ((t*bn c t:Nat):Int):=by
          rw[aha,agW,agW,agF,agF (t:Int)]
        omega
      have hle:bn c (t+1)≤(t+1)*bn c (t+1):=Nat.le_mul_of_pos_left _ aa;refine bX ?_;simp only[oM.l0];rw[eE (i:=t) aa,bN (x:=(c:Int) - (t:Int)) aa aa,he,bN (x:=(((t+1)*bn c (t+1):Nat):Int)) aa aa,ahp aa,← Int.natCast_ediv,Nat.mul_div_cancel_left _ (show 0<t+1 by omega),bN (x:=((bn c (t+1):Nat):Int)) aa aa];exact bz aa (cB aa h1)
  have h0:=main i 0 aa;rw[Ba]at h0;exact h0

section
variable (K m c:Nat) (g:Nat→Int)

def oN (i q:Nat):List Int:=rowOf (K+1) (fun n=>wrap64 (qN m c g i n+if n<q∧i*m≤n then mV i*(bn c i:Int)*g (n - i*m) else 0))

theorem R8 (i q:Nat):(oN K m c g i q).length=K+1:=jB _ _

theorem R9 (i:Nat):oN K m c g i (K+1)=oN K m c g (i+1) 0:=by
  refine lA (fun n hn=> ?_);rw[aj (show ¬(n<0∧(i+1)*m≤n) by omega),agN]
  congr 1
  show _=qN m c g i n+(if i*m≤n then mV i*(bn c i:Int)*g (n - i*m) else 0)
  by_cases c0:i*m≤n
  · rw[ak ⟨hn,c0⟩,ak c0]
  · rw[aj (fun z=>c0 z.2),aj c0]

theorem Sa (i:Nat):oN K m c g i (i*m)=oN K m c g i 0:=by
  refine lA (fun n hn=> ?_);rw[aj (show ¬(n<i*m∧i*m≤n) by omega),aj (show ¬(n<0∧i*m≤n) by omega)]

theorem Sd (i q:Nat) (h1:i*m≤q) (hq:q≤K):(oN K m c g i q).set q (wrap64 (rd (oN K m c g i q) (q:Int)+wrap64 (mV i*(bn c i:Int)*rd (rowOf (K+1) (fun n=>wrap64 (g n))) ((q - i*m:Nat):Int))))=oN K m c g i (q+1):=by
  unfold oN;rw[nK _ (show q<K+1 by omega),nK _ (show q - i*m<K+1 by omega),uO _ _ (show q<K+1 by omega),aj (show ¬(q<q∧i*m≤q) by omega),agN,Ll,wW];refine lA (fun n hn=> ?_)
  by_cases e:n=q
  · subst e
    rw[ak rfl,ak ⟨by omega,h1⟩]
  · rw[aj e]
    by_cases c0:n<q∧i*m≤n
    · rw[ak c0,ak ⟨by omega,c0.2⟩]
    · rw[aj c0,aj (fun z=>c0 ⟨by omega,z.2⟩)]

theorem Sf:oN K m c g 0 0=List.replicate (K+1) 0:=by
  rw[← uN];refine lA (fun n hn=> ?_);rw[aj (show ¬(n<0∧0*m≤n) by omega)]
  show wrap64 (0+0)=0
  exact bN (x:=0) aG aG

theorem Si (hm:0<m) (i:Nat) (h:K<i*m∨c<i):oN K m c g i 0=rowOf (K+1) (fun n=>wrap64 (cw (fp m c) g n)):=by
  refine lA (fun n hn=> ?_);rw[aj (show ¬(n<0∧i*m≤n) by omega),agN]
  congr 1
  have h2:n<(n+1+i)*m:=by
    have:=Nat.le_mul_of_pos_right (n+1+i) hm
    omega
  rw[RM m hm g c n (n+1+i) h2];rcases h with h|h
  · exact(RL m hm c g (show n<i*m by omega) aa).symm
  · unfold qN
    refine(Gq _ (show i≤n+1+i by omega) (fun t ht=> ?_)).symm;rw[RJ c t aa]
    split
    · simp
    · rfl

end

theorem Sj (i:Nat) (hi:i≤1000):wrap64 (1 - wrap64 (2*agT (i:Int) 2))=mV i:=by
  rw[ahq aa];unfold mV;have:(i:Int) % 2=((i % 2:Nat):Int):=rfl;rw[this];rcases Nat.mod_two_eq_zero_or_one i with e|e
  · rw[e,ak rfl,show wrap64 (2*((0:Nat):Int))=0 from bN (x:=0) aG aG]
    exact bN (x:=1) aG aG
  · rw[e,aj aG,show wrap64 (2*((1:Nat):Int))=2 from bN (x:=2) aG aG]
    exact bN (x:= -1) aG aG

section
variable {n:Int} {l:List (List Int)} (h:fH n l=true) (K:Nat) (hK:K≤12)
include hK

theorem Sl (m c:Nat) (g:Nat→Int) (i:Nat) (U7:i*m≤K) (hi:i≤12) (hm:m≤12) (cI:Int) (r:List Int×Int)
    (hr:Ev (fun f=>eD.l1 f (K:Int) (rowOf (K+1) (fun n=>wrap64 (g n))) (m:Int) cI (oN K m c g (i+1) 0) ((i+1:Nat):Int) n l) r):
    ∀(d q:Nat),q+d=K+1→i*m≤q→Ev (fun f=>eD.l2 f (K:Int) (rowOf (K+1) (fun n=>wrap64 (g n))) (m:Int) cI (oN K m c g i q) (i:Int) (mV i*(bn c i:Int)) (q:Int) n l) r:=by
  have Bc:wrap64 ((i:Int)*(m:Int))=((i*m:Nat):Int):=by
    rw[← agW];exact bN aa aa
  have hlen:(rowOf (K+1) (fun n=>wrap64 (g n))).length=K+1:=jB _ _;intro d
  induction d with
  | zero=>
    intro q hq _;obtain rfl:q=K+1:=by omega
    refine bX ?_;simp only[eD.l2];rw[R9,eE (i:=i) aa];exact cB aa hr
  | succ d ih=>
    intro q hq D3;have h1:=ih (q+1) aa aa;have hl:=R8 K m c g i q;have hset:=Sd K m c g i q D3 aa;refine bX ?_;simp only[eD.l2];rw[Bc,bN (x:=(q:Int) - ((i*m:Nat):Int)) aa aa,show(q:Int) - ((i*m:Nat):Int)=((q - i*m:Nat):Int) by omega,agG q,hset,eE (i:=q) aa];exact bz aa (bz aa (bz aa (bz aa (bz aa h1))))

theorem Sn (m c:Nat) (hm:1≤m∧m≤12) (hc:c≤20 ^ m) (g:Nat→Int) (r:List Int×Int)
    (hr:Ev (fun f=>eD.l0 f (K:Int) (rowOf (K+1) (fun n=>wrap64 (cw (fp m c) g n))) ((m+1:Nat):Int) n l) r):
    ∀(d i:Nat),i+d=14→Ev (fun f=>eD.l1 f (K:Int) (rowOf (K+1) (fun n=>wrap64 (g n))) (m:Int) (c:Int) (oN K m c g i 0) (i:Int) n l) r:=by
  have stop: ∀i:Nat,i≤14→(K<i*m∨c<i)→Ev (fun f=>eD.j2 f (K:Int) (rowOf (K+1) (fun n=>wrap64 (g n))) (m:Int) (c:Int) (oN K m c g i 0) (i:Int) false n l) r:=by
    intro i hi h;rw[Si K m c g aa i h];refine bX ?_;simp only[eD.j2];rw[eE (i:=m) aa];exact cB aG hr
  have Bc: ∀i:Nat,i≤14→wrap64 ((i:Int)*(m:Int))=((i*m:Nat):Int):=by
    intro i hi;have:i*m≤14*12:=Nat.mul_le_mul hi hm.2;rw[← agW];exact bN aa aa
  intro d
  induction d with
  | zero=>
    intro i hi;obtain rfl:i=14:=by omega
    have hs:=stop 14 aa (.inl aa);refine bX ?_;simp only[eD.l1];rw[Bc 14 aa];exact cB aa hs
  | succ d ih=>
    intro i hi;have h1:=ih (i+1) aa;refine bX ?_;simp only[eD.l1];rw[Bc i aa]
    by_cases c0:i*m≤K
    · refine bz aa ?_
      have U7:i≤12:=by
        have:=Nat.le_mul_of_pos_right i (show 0<m by omega)
        omega
      by_cases c2:i≤c
      · rw[aV (show(i:Int)≤(c:Int) by omega)]
        have hb:c ^ i≤4096000000000000:=by
          have p1:c ^ i≤(20 ^ m) ^ i:=Nat.pow_le_pow_left hc i;rw[← Nat.pow_mul]at p1;have p2:20 ^ (m*i)≤20 ^ 12:=ahb aa (by rw[Nat.mul_comm];omega);have p3:20 ^ 12=4096000000000000:=by decide
          omega
        have U8:(bn c i:Nat)≤c ^ i:=LH c i;have hch:=R7 c i c2 aa hb;have hin:=Sl (n:=n) (l:=l) K hK m c g i c0 U7 hm.2 (c:Int) r h1 (K+1 - i*m) (i*m) aa (agO _);rw[Sa]at hin;have ef:wrap64 (((bn c i:Nat):Int)*mV i)=mV i*(bn c i:Int):=by
          rw[agF];unfold mV
          split
          · rw[agQ];exact bN aa aa
          · rw[show(-1:Int)*((bn c i:Nat):Int)= -((bn c i:Nat):Int) by omega];exact bN aa aa
        refine bX ?_;simp only[eD.j2];rw[Sj i aa];refine bz trivial (bu hch ?_);rw[ef,Bc i aa];exact hin
      · rw[cj (show ¬(i:Int)≤(c:Int) by omega)]
        exact stop i aa (.inr aa)
    · refine cB aa ?_
      exact stop i aa (.inl aa)

include h

theorem Sp: ∀(d m:Nat),m+d=K→Ev (fun f=>eD.l0 f (K:Int) (rowOf (K+1) (fun q=>wrap64 (qM (cE (dO l)) m q))) ((m+1:Nat):Int) n l) (rowOf (K+1) (fun q=>wrap64 (qM (cE (dO l)) K q)),0):=by
  obtain⟨g1,g2,g3⟩:=gG h;intro d
  induction d with
  | zero=>
    intro m hm;obtain rfl:m=K:=by omega
    refine bX ?_;simp only[eD.l0];exact cB aa (bD _)
  | succ d ih=>
    intro m hm;have h1:=ih (m+1) aa;have hp:=LN h (m+1) ⟨by omega,by omega⟩;rw[Gy g3 (m+1) ⟨by omega,by omega⟩]at hp;have h2:=Sn (n:=n) (l:=l) K hK (m+1) (cE (dO l) (m+1)) ⟨by omega,by omega⟩ (count_le g3 (m+1) ⟨by omega,by omega⟩) (qM (cE (dO l)) m) _ h1 14 0 aa;rw[Sf]at h2;refine bX ?_;simp only[eD.l0];rw[bN (x:=(K:Int)+1) aa aa,show((K:Int)+1).toNat=K+1 by omega];exact bz aa (bu hp (bz aa (bz aa h2)))

theorem Sr:rowOf (K+1) (fun q=>wrap64 (qM (cE (dO l)) K q))=rowOf (K+1) (rf l):=
  lA (fun q hq=>by
    have:=Lq h q;rw[R4 l K hK q aa,bN aa aa])

theorem Ss: ∀(d i:Nat),i+d=K+1→Ev (fun f=>mW.l0 f (rowOf i (rf l)) (wY l) ((K+1:Nat):Int) (i:Int)) (rowOf (K+1) (rf l),0):=by
  intro d
  induction d with
  | zero=>
    intro i hi;obtain rfl:i=K+1:=by omega
    refine bX ?_;simp only[mW.l0];exact cB aa (bD _)
  | succ d ih=>
    intro i hi;have h1:=ih (i+1) aa;rw[← KX]at h1;have hl:(rowOf i (rf l)).length=i:=jB _ _;have hat:xd.f (wY l) (i:Int)=some (rf l i):=by
      unfold xd.f;rw[← RB h]
      by_cases c:(i:Int)<((wY l).length:Int)
      · rw[ak c,ak aa]
      · rw[aj c,St aa]
    refine bX ?_;simp only[mW.l0];rw[hat,eE (i:=i) aa];exact bz aa (bu (bD _) (bz aa h1))

end

def sD (l:List (List Int)) (m j:Nat):Int:=Sm j (fun t=>(cE (dO l) (t+1):Int)*ps (t+1) m)

theorem LO (l:List (List Int)) (m:Nat) (hm:1≤m∧m≤12):sD l m m=dO l (m - 1):=
  Gw (dO l) (cE (dO l)) m hm (fun d a b=>D1 l d ⟨a,by omega⟩)

theorem Su (l:List (List Int)) (m j:Nat) (hm:1≤m) (h:m % (j+1)=0):sD l m (j+1)=sD l m j+((j+1:Nat):Int)*(cE (dO l) (j+1):Int):=by
  show sD l m j+(cE (dO l) (j+1):Int)*ps (j+1) m=_
  unfold ps;rw[aj aa,ak h,agF]

theorem Sv (l:List (List Int)) (m j:Nat) (h: ¬m % (j+1)=0):sD l m (j+1)=sD l m j:=by
  show sD l m j+(cE (dO l) (j+1):Int)*ps (j+1) m=_
  unfold ps;rw[aj h]
  split<;>omega
theorem Sz (l:List (List Int)): ∀k,1≤k→k≤12→((nL l k).length:Int)=(cE (dO l) k:Int):=by
  intro k
  induction k using ahh with
  | _ k ih=>
    intro h1 h12;have h2:=SA l k h1;rw[LP l k h1,← LO l k ⟨h1,h12⟩]at h2;obtain⟨m,rfl⟩: ∃m,k=m+1:=⟨k - 1,by omega⟩;have e: ∀t,t<m→(if (m+1) % (t+1)=0 then ((mX l (t+1) (t+1)).length:Int) else 0)=(cE (dO l) (t+1):Int)*ps (t+1) (m+1):=fun t ht=>by
      have ep:ps (t+1) (m+1)=if (m+1) % (t+1)=0 then ((t+1:Nat):Int) else 0:=aj aa
      rw[ep]
      by_cases c:(m+1) % (t+1)=0
      · rw[ak c,ak c,LQ l (t+1) aa,agW,ih (t+1) aa aa aa,agF]
      · rw[aj c,aj c,agL]
    unfold sD at h2;have h3:Sm m (fun t=>(cE (dO l) (t+1):Int)*ps (t+1) (m+1))+(cE (dO l) (m+1):Int)*ps (m+1) (m+1)=Sm m (fun t=>if (m+1) % (t+1)=0 then ((mX l (t+1) (t+1)).length:Int) else 0)+(if (m+1) % (m+1)=0 then ((mX l (m+1) (m+1)).length:Int) else 0):=h2;rw[cR e,ag8,ak rfl,LQ l (m+1) h1]at h3;have h4:ps (m+1) (m+1)=((m+1:Nat):Int):=by
      unfold ps;rw[aj aa,ag8,ak rfl]
    rw[h4,agW,agF (((m+1:Nat):Int)) ((nL l (m+1)).length:Int)]at h3;exact(Int.eq_of_mul_eq_mul_right (show((m+1:Nat):Int)≠0 by omega) aa)

theorem SB {l:List (List Int)} (hl:l.length≤10) (k:Nat) (hk:1≤k∧k≤12):((nL l k).length:Int)=qa l k:=by
  rw[Sz l k hk.1 hk.2,Gy hl k hk]
theorem SC (n:Int) (l:List (List Int)) (a:Int) (hl:Mod l):Ev (fun k=>uT.f k n l a) (gL n l a 1):=by
  have h1:=zh n l hl;unfold uT.f xe.f gL;rw[Gz]
  by_cases hg:fH n l=true
  · rw[hg]at h1
    rw[ak hg]
    by_cases c:1≤a∧a≤12
    · rw[aV c,ak c]
      exact bu h1 (bz rfl (bu (bD _) (bz rfl (bD _))))
    · rw[cj c,aj c]
      exact bu h1 (bz rfl (bu (bD _) (cB aG (bD _))))
  · rw[ahc]at hg
    rw[hg]at h1;rw[aj (by rw[hg];decide)];exact bu h1 (cB aG (bD _))

def zi (n:Int) (l:List (List Int)) (a:Int):Int×Int:=if gL n l a 1=0 then (qa l a.toNat,0) else (0,gL n l a 1)

theorem SD (n:Int) (l:List (List Int)) (a:Int) (hl:Mod l):Ev (fun k=>xg.f k n l a) (zi n l a):=by
  unfold xg.f zi;have h1:=xh n l a 1 hl
  by_cases c:gL n l a 1=0
  · obtain⟨hg,ha,hb⟩:=tB c
    obtain⟨k,rfl⟩:=agM (show 0≤a by omega);rw[ak c,agG];exact bu h1 (bz c (bu (LN hg k ⟨by omega,by omega⟩) (bD _)))
  · rw[aj c]
    exact bu h1 (cB c (bD _))

theorem GA (n:Int) (l:List (List Int)) (a:Int) (hl:Mod l):Ev (fun k=>lR.f k n l a) (zi n l a):=by
  unfold lR.f zi;have h2:=SC n l a hl
  by_cases c:gL n l a 1=0
  · obtain⟨hg,ha,hb⟩:=tB c
    obtain⟨g1,g2,g3⟩:=gG hg;obtain⟨k,rfl⟩:=agM (show 0≤a by omega);have e:rd ((ag2 k).map (fun i=>qa l (i+1))) ((k - 1:Nat):Int)=qa l k:=by
      rw[zj _ (show k - 1<k by omega),Nat.sub_add_cancel aa]
    rw[ak c,agG];refine bu h2 (bz c (bu (uR hg) (bu (D4 g3 k aa) (bu (SE l k aa) ?_))));rw[bN (x:=(k:Int) - 1) aa aa,show(k:Int) - 1=((k - 1:Nat):Int) by omega,e];exact bz aa (bz (by simp;omega) (bD _))
  · rw[aj c]
    exact bu h2 (cB c (bD _))

theorem SF {n:Int} {l:List (List Int)} (h:fH n l=true) (k:Nat) (hk:1≤k∧k≤12):Ev (fun f=>qb.f f n l (k:Int)) (dO l (k - 1)):=by
  obtain⟨g1,g2,g3⟩:=gG h;have ht:=D4 g3 k hk.2;have hl:=zk l k;have e:rd (traces l k) ((k - 1:Nat):Int)=dO l (k - 1):=zj _ aa;unfold qb.f;rw[bN (x:=(k:Int) - 1) aa aa,show(k:Int) - 1=((k - 1:Nat):Int) by omega]
  repeat (first|with_reducible exact bD _ |dsimp only |with_reducible refine bu (uR h) ?_ |with_reducible refine bu (ht) ?_ |refine dx ?_ |refine dz ?_ |simp only[bne_self_eq_false,agC,agD,agB,agE]|rw[bN aa aa]|with_reducible exact(uR h)|with_reducible exact(ht)|((with_reducible refine bK (congrArg some ?_));rfl))
  exact bK (congrArg some e)

theorem SG (n:Int) (l:List (List Int)) (a:Int) (hl:Mod l):Ev (fun k=>uU.f k n l a) (gL n l a 1):=by
  have h1:=zh n l hl;unfold uU.f xj.f gL;rw[Gz]
  by_cases hg:fH n l=true
  · rw[hg]at h1
    rw[ak hg]
    by_cases c:1≤a∧a≤12
    · rw[aV c,ak c]
      exact bu h1 (bz rfl (bu (bD _) (bz rfl (bD _))))
    · rw[cj c,aj c]
      exact bu h1 (bz rfl (bu (bD _) (cB aG (bD _))))
  · rw[ahc]at hg
    rw[hg]at h1;rw[aj (by rw[hg];decide)];exact bu h1 (cB aG (bD _))

def uV (n:Int) (l:List (List Int)) (a:Int):Int×Int:=if gL n l a 1=0 then (dO l (a.toNat - 1),0) else (0,gL n l a 1)

theorem SH (n:Int) (l:List (List Int)) (a:Int) (hl:Mod l):Ev (fun k=>xk.f k n l a) (uV n l a):=by
  unfold xk.f uV;have h1:=xh n l a 1 hl
  by_cases c:gL n l a 1=0
  · obtain⟨hg,ha,hb⟩:=tB c
    obtain⟨k,rfl⟩:=agM (show 0≤a by omega);rw[ak c,agG];exact bu h1 (bz c (bu (D5 hg k aa) (bD _)))
  · rw[aj c]
    exact bu h1 (cB c (bD _))

theorem D6 (n:Int) (l:List (List Int)) (a:Int) (hl:Mod l):Ev (fun k=>qc.f k n l a) (uV n l a):=by
  unfold qc.f uV;have h2:=SG n l a hl
  by_cases c:gL n l a 1=0
  · obtain⟨hg,ha,hb⟩:=tB c
    obtain⟨k,rfl⟩:=agM (show 0≤a by omega);rw[ak c,agG];exact bu h2 (bz c (bu (SF hg k aa) (bD _)))
  · rw[aj c]
    exact bu h2 (cB c (bD _))

def qd (l:List (List Int)):Nat→Nat→Int×Int
  | 0,_=>(0,4)
  | d+1,j=>if dO l j>0 then (((j+1:Nat):Int),0) else qd l d (j+1)

theorem SI {n:Int} {l:List (List Int)} (h:fH n l=true): ∀(d j:Nat),j+d=8→Ev (fun k=>oh.l0 k ((j+1:Nat):Int) n l) (qd l d j):=by
  intro d
  induction d with
  | zero=>
    intro j hj;refine bX ?_;simp only[oh.l0];unfold qd
    repeat (first|with_reducible exact bD _ |dsimp only |refine dx ?_ |refine dz ?_ |simp only[bne_self_eq_false,agC,agD,agB,agE]|rw[bN aa aa]|((with_reducible refine bK (congrArg some ?_));rfl))
  | succ d ih=>
    intro j hj;have h1:=ih (j+1) aa;have hc:=D5 h (j+1) aa;rw[agK]at hc;refine bX ?_;simp only[oh.l0];unfold qd;rw[eE (i:=j+1) aa]
    by_cases c:dO l j>0
    · rw[ak c]
      repeat (first|with_reducible exact bD _ |dsimp only |with_reducible refine bu (hc) ?_ |refine dx ?_ |refine dz ?_ |simp only[bne_self_eq_false,agC,agD,agB,agE]|rw[bN aa aa]|with_reducible exact(hc)|((with_reducible refine bK (congrArg some ?_));rfl))
    · rw[aj c]
      repeat (first|with_reducible exact bD _ |dsimp only |with_reducible refine bu (hc) ?_ |refine dx ?_ |refine dz ?_ |simp only[bne_self_eq_false,agC,agD,agB,agE]|rw[bN aa aa]|with_reducible exact(hc)|((with_reducible refine bK (congrArg some ?_));rfl))
      exact h1

theorem SJ (l:List (List Int)): ∀(d j:Nat),j+d=8→Ev (fun k=>om.l0 k (traces l 8) 8 (j:Int)) (qd l d j):=by
  intro d
  induction d with
  | zero=>
    intro j hj;refine bX ?_;simp only[om.l0];unfold qd
    repeat (first|with_reducible exact bD _ |dsimp only |refine dx ?_ |refine dz ?_ |simp only[bne_self_eq_false,agC,agD,agB,agE]|rw[bN aa aa]|((with_reducible refine bK (congrArg some ?_));rfl))
  | succ d ih=>
    intro j hj;have h1:=ih (j+1) aa;have hl:=zk l 8;have e:rd (traces l 8) (j:Int)=dO l j:=zj _ aa;refine bX ?_;simp only[om.l0];unfold qd;rw[eE aa,e]
    by_cases c:dO l j>0
    · rw[ak c]
      repeat (first|with_reducible exact bD _ |dsimp only |refine dx ?_ |refine dz ?_ |simp only[bne_self_eq_false,agC,agD,agB,agE]|rw[bN aa aa]|((with_reducible refine bK (congrArg some ?_));rfl))
    · rw[aj c]
      repeat (first|with_reducible exact bD _ |dsimp only |refine dx ?_ |refine dz ?_ |simp only[bne_self_eq_false,agC,agD,agB,agE]|rw[bN aa aa]|((with_reducible refine bK (congrArg some ?_));rfl))
      exact h1

def zl (n:Int) (l:List (List Int)):Int×Int:=if fH n l=true then qd l 8 0 else (0,1)

theorem SK (n:Int) (l:List (List Int)) (hl:Mod l):Ev (fun k=>oh.f k n l) (zl n l)∧Ev (fun k=>om.f k n l) (zl n l):=by
  unfold oh.f om.f zl;have h1:=D7 n l hl;have h2:=zh n l hl
  by_cases hg:fH n l=true
  · rw[hg]at h1 h2
    obtain⟨g1,g2,g3⟩:=gG hg;rw[ak hg];refine⟨?_, ?_⟩
    · repeat (first|with_reducible exact bD _ |dsimp only |with_reducible refine bu (h1) ?_ |refine dx ?_ |refine dz ?_ |simp only[bne_self_eq_false,agC,agD,agB,agE]|rw[bN aa aa]|with_reducible exact(h1)|((with_reducible refine bK (congrArg some ?_));rfl))
      exact SI hg 8 0 aa
    · have ht:=D4 g3 8 aa
      refine bu h2 (bz rfl (bu (uR hg) (bu ht ?_)));rw[zk];exact SJ l 8 0 aa
  · rw[ahc]at hg
    rw[hg]at h1 h2;rw[hg,aj aG];refine⟨?_, ?_⟩
    · repeat (first|with_reducible exact bD _ |dsimp only |with_reducible refine bu (h1) ?_ |refine dx ?_ |refine dz ?_ |simp only[bne_self_eq_false,agC,agD,agB,agE]|rw[bN aa aa]|with_reducible exact(h1)|((with_reducible refine bK (congrArg some ?_));rfl))
    · repeat (first|with_reducible exact bD _ |dsimp only |with_reducible refine bu (h2) ?_ |refine dx ?_ |refine dz ?_ |simp only[bne_self_eq_false,agC,agD,agB,agE]|rw[bN aa aa]|with_reducible exact(h2)|((with_reducible refine bK (congrArg some ?_));rfl))

theorem SL (n:Int) (l:List (List Int)) (a:Int) (hl:Mod l):Ev (fun k=>uW.f k n l a) (gL n l a 0):=by
  have h1:=zh n l hl;unfold uW.f xm.f gL;rw[mY]
  by_cases hg:fH n l=true
  · rw[hg]at h1
    rw[ak hg]
    by_cases c:0≤a∧a≤12
    · rw[aV c,ak c]
      exact bu h1 (bz rfl (bu (bD _) (bz rfl (bD _))))
    · rw[cj c,aj c]
      exact bu h1 (bz rfl (bu (bD _) (cB aG (bD _))))
  · rw[ahc]at hg
    rw[hg]at h1;rw[aj (by rw[hg];decide)];exact bu h1 (cB aG (bD _))

theorem SM (K:Nat) (c:Nat→Nat):(List.replicate (K+1) (0:Int)).set (0:Int).toNat 1=rowOf (K+1) (fun q=>wrap64 (qM c 0 q)):=by
  rw[← uN]
  show(rowOf (K+1) (fun _=>0)).set 0 1=_
  rw[uO _ _ (show 0<K+1 by omega)];refine lA (fun q hq=> ?_)
  show _=wrap64 (c1 q)
  unfold c1
  split
  · exact(bN aG aG).symm
  · exact(bN aG aG).symm

theorem SN (n:Int) (l:List (List Int)) (a:Int) (hl:Mod l): ∃r:List Int×Int,r.1.length≤1048576∧Ev (fun k=>eD.f k n l a) r∧Ev (fun k=>mW.f k n l a) r:=by
  unfold eD.f mW.f;have h1:=xh n l a 0 hl;have h2:=SL n l a hl
  by_cases c:gL n l a 0=0
  · obtain⟨hg,ha,hb⟩:=tB c
    obtain⟨K,rfl⟩:=agM ha;have hs:=Sp hg K aa K 0 aa;rw[Sr hg K aa,← SM]at hs;have hi:=Ss hg K aa (K+1) 0 aa;refine⟨(rowOf (K+1) (rf l),0), ?_, ?_, ?_⟩
    · show(rowOf (K+1) (rf l)).length≤_
      rw[jB];omega
    · refine bu h1 (bz c ?_)
      rw[bN (x:=(K:Int)+1) aa aa,show((K:Int)+1).toNat=K+1 by omega];refine bz aa (bz aa (bu (bD _) (bz ?_ hs)));simp
    · refine bu h2 (bz c (bu (Rz hg) ?_))
      rw[bN (x:=(K:Int)+1) aa aa];exact hi
  · exact⟨([],gL n l a 0),by simp,bu h1 (cB c (bD _)),bu h2 (cB c (bD _))⟩
def bs (l:List UInt8):ByteArray:=⟨l.toArray⟩

theorem SP (a:ByteArray):bs a.data.toList=a:=by
  obtain⟨⟨l⟩⟩:=a
  rfl

theorem SQ (a:ByteArray): ∃l,a=bs l:=⟨a.data.toList,(SP a).symm⟩

theorem iU (l:List UInt8):(bs l).size=l.length:=by simp[bs,ByteArray.size]

theorem SR (l:List UInt8):(bs l).toList=l:=ByteArray.toList_mk l

theorem LR (l:List UInt8) (a b:Nat):(bs l).extract a b=bs ((l.take b).drop a):=by
  apply ByteArray.ext;simp[bs,List.extract_eq_drop_take']

theorem zm {l:List UInt8} {i:Nat} (h:i<l.length):bt (bs l) (i:Int)=(l[i].toNat:Int):=by
  unfold bt;rw[dif_pos (by rw[iU];simpa using h)]
  rfl

theorem GD {α:Type} {g:Nat→Option α} {r s:α} (h:Ev g r) (k:Ev g s):r=s:=by
  obtain⟨K,h⟩:=h;obtain⟨L,k⟩:=k;have h1:=h (max K L) aa;rw[k (max K L) aa]at h1;exact(Option.some.inj h1).symm

def iY (c:UInt8):List UInt8→List (List UInt8)
  | []=>[[]]
  | b :: s=>if b=c then [] :: iY c s else
    match iY c s with
    | []=>[[b]]
    | x :: xs=>(b :: x) :: xs

def glue (p:List UInt8):List (List UInt8)→List (List UInt8)
  | []=>[p]
  | x :: xs=>(p++x) :: xs

theorem xo (c:UInt8) (s:List UInt8):iY c s≠[]:=by
  cases s with
  | nil=>simp[iY]
  | cons b s=>
    unfold iY
    split
    · simp
    · split<;>simp

theorem Bd (c:UInt8) (s:List UInt8):iY c (c :: s)= [] :: iY c s:=by simp[iY]

theorem zn {b c:UInt8} (h:b≠c) (s:List UInt8):iY c (b :: s)=glue [b] (iY c s):=by
  rw[iY,aj h];cases e:iY c s with
  | nil=>exact absurd e (xo c s)
  | cons x xs=>rfl

theorem SS (p q:List UInt8) (xs:List (List UInt8)):glue p (glue q xs)=glue (p++q) xs:=by
  cases xs<;>simp[glue]

theorem LS {xs:List (List UInt8)} (h:xs≠[]):glue [] xs=xs:=by
  cases xs with
  | nil=>exact absurd rfl h
  | cons x xs=>rfl

theorem SU (c:UInt8) (s:List UInt8):(iY c s).length=s.count c+1:=by
  induction s with
  | nil=>rfl
  | cons b s ih=>
    by_cases h:b=c
    · subst h
      rw[Bd,agB,ih];simp
    · rw[zn h,List.count_cons_of_ne h,← ih]
      cases e:iY c s with
      | nil=>exact absurd e (xo c s)
      | cons x xs=>rfl

def oO (c:UInt8):List (List UInt8)→List UInt8
  | []=>[]
  | [x]=>x
  | x :: y :: r=>x++c :: oO c (y :: r)

theorem GF {c:UInt8} (x:List UInt8) {xs:List (List UInt8)} (h:xs≠[]):oO c (x :: xs)=x++c :: oO c xs:=by
  cases xs with
  | nil=>exact absurd rfl h
  | cons y r=>rfl

theorem SV (c:UInt8) (p:List UInt8) {xs:List (List UInt8)} (h:xs≠[]):oO c (glue p xs)=p++oO c xs:=by
  cases xs with
  | nil=>exact absurd rfl h
  | cons x xs=>
    cases xs with
    | nil=>rfl
    | cons y r=>simp[glue,oO]

theorem GG (c:UInt8) (s:List UInt8):oO c (iY c s)=s:=by
  induction s with
  | nil=>rfl
  | cons b s ih=>
    by_cases h:b=c
    · subst h
      rw[Bd,GF _ (xo _ _),ih]
      rfl
    · rw[zn h,SV _ _ (xo _ _),ih]
      rfl

theorem GH {c:UInt8} {x:List UInt8} (h: ∀b∈x,b≠c):iY c x= [x]:=by
  induction x with
  | nil=>rfl
  | cons b x ih=>
    rw[zn (h b (agU)),ih (fun y hy=>h y (ag3 _ hy))]
    rfl

theorem GI {c:UInt8} {x:List UInt8} (h: ∀b∈x,b≠c) (s:List UInt8):iY c (x++c :: s)=x :: iY c s:=by
  induction x with
  | nil=>exact Bd c s
  | cons b x ih=>
    rw[List.cons_append,zn (h b (agU)),ih (fun y hy=>h y (ag3 _ hy))]
    rfl

theorem SW {c:UInt8} (xs:List (List UInt8)) (hne:xs≠[]) (h: ∀x∈xs,∀b∈x,b≠c):iY c (oO c xs)=xs:=by
  induction xs with
  | nil=>exact absurd rfl hne
  | cons x xs ih=>
    cases xs with
    | nil=>exact GH (h x (agU))
    | cons y r=>
      rw[GF _ bQ,GI (h x (agU)),ih bQ (fun z hz=>h z (ag3 _ hz))]

def dg (n:Int):UInt8:=UInt8.ofNat (48+n.toNat)

theorem LU {n:Int} (h0:0≤n) (h1:n<10):((dg n).toNat:Int)=48+n:=by
  unfold dg;rw[UInt8.toNat_ofNat',ag9 aa]
  omega

theorem Be {n:Int} (h0:0≤n) (h1:n<10) {c:UInt8} (h:c.toNat<48∨57<c.toNat):dg n≠c:=by
  intro e;have:=LU h0 h1;rw[e]at this
  omega

theorem SX {b:UInt8} (h:48≤b.toNat):dg ((b.toNat:Int) - 48)=b:=by
  unfold dg;apply UInt8.toNat_inj.1;have:=b.toNat_lt;rw[UInt8.toNat_ofNat',ag9 aa]
  omega

def word (e:List Int):List UInt8:=[dg (rd e 0),45,dg (rd e 1)]

def txt (n:Int) (l:List (List Int)):List UInt8:=dg n :: 58 :: oO 44 (l.map word)

section
variable {n:Int} {l:List (List Int)} (h:fH n l=true)
include h

theorem D8 {e:List Int} (he:e∈l): ∃a b:Int,e= [a,b]∧rd e 0=a∧rd e 1=b∧0≤a∧a<8∧0≤b∧b<8:=by
  obtain⟨h1,h2,h3,h4⟩:=(Bf n l).1 h;obtain⟨a,b,rfl,ha,ha',hb,hb'⟩:=h4 e he;exact⟨a,b,rfl,rfl,rfl,ha,by omega,hb,by omega⟩

theorem LV {c:UInt8} (hc:(c.toNat<48∨57<c.toNat)∧c≠45): ∀x∈l.map word,∀b∈x,b≠c:=by
  intro x hx b hb;obtain⟨e,he,rfl⟩:=List.mem_map.1 hx;obtain⟨p,q,_,e0,e1,h0,h1,h2,h3⟩:=D8 h he;unfold word at hb;rw[e0,e1]at hb;simp only[ag4,List.not_mem_nil,or_false]at hb;rcases hb with rfl|rfl|rfl
  · exact Be h0 aa hc.1
  · exact fun e=>hc.2 e.symm
  · exact Be h2 aa hc.1

theorem SY (hl:l≠[]):iY 44 (oO 44 (l.map word))=l.map word:=
  SW _ (by simpa using hl) (LV h (c:=44) aG)

theorem SZ {c d:UInt8} (hd:(d.toNat<48∨57<d.toNat)∧d≠45) (hcd:c≠d): ∀b∈oO c (l.map word),b≠d:=by
  have hf:=LV h hd;clear h;generalize l.map word=xs at hf
  induction xs with
  | nil=>intro b hb;cases hb
  | cons x xs ih=>
    intro b hb;cases xs with
    | nil=>exact hf x (agU) b hb
    | cons y r=>
      rw[GF _ bQ]at hb;rcases ahj.1 hb with hb|hb
      · exact hf x (agU) b hb
      · rcases ag4.1 hb with rfl|hb
        · exact hcd
        · exact ih (fun z hz=>hf z (ag3 _ hz)) b hb

theorem LW:iY 58 (txt n l)= [[dg n],oO 44 (l.map word)]:=by
  obtain⟨h1,h2,h3,h4⟩:=(Bf n l).1 h;have e:txt n l= [dg n]++58 :: oO 44 (l.map word):=rfl;rw[e,GI (by simp;exact Be aa aa aG),GH (SZ h aG aG)]

theorem LX {e:List Int} (he:e∈l):iY 45 (word e)= [[dg (rd e 0)],[dg (rd e 1)]]:=by
  obtain⟨p,q,_,e0,e1,h0,h1,h2,h3⟩:=D8 h he;unfold word;rw[e0,e1];have e: [dg p,45,dg q]= [dg p]++45 :: [dg q]:=rfl;rw[e,GI (by simp;exact Be h0 aa aG),GH (by simp;exact Be h2 aa aG)]

end

def Dr {α:Type} (g:Nat→Option α) (P:α→Prop):Prop:=∃r,Ev g r∧P r

theorem jb {α β:Type} {g:Nat→Option α} {f:Nat→α→Option β} {P:α→Prop} {Q:β→Prop} (h:Dr g P) (k: ∀a,P a→Dr (fun n=>f n a) Q):Dr (fun n=>(g n).bind (f n)) Q:=by
  obtain⟨a,h,p⟩:=h;obtain⟨r,e,q⟩:=k a p;exact⟨r,bu h e,q⟩

theorem oP {α:Type} {r:α} {P:α→Prop} (p:P r):Dr (fun _=>some r) P:=⟨r,bD _,p⟩

theorem mm {α:Type} {o:Option α} {P:α→Prop} (h: ∃r,o=some r∧P r):Dr (fun _=>o) P:=by
  obtain⟨r,e,p⟩:=h;exact⟨r,bK e,p⟩

theorem pF {α:Type} {c:Prop} [Decidable c] {f g:Nat→Option α} {P:α→Prop} (h1:c→Dr f P) (h2: ¬c→Dr g P):Dr (fun k=>if c then f k else g k) P:=by
  by_cases h:c
  · obtain⟨r,e,p⟩:=h1 h
    exact⟨r,bz h e,p⟩
  · obtain⟨r,e,p⟩:=h2 h
    exact⟨r,cB h e,p⟩

theorem mZ {α:Type} {c:Prop} [Decidable c] {f g:Nat→Option α} {P:α→Prop} (h:c) (h1:Dr f P):Dr (fun k=>if c then f k else g k) P:=pF (fun _=>h1) (fun x=>absurd h x)

theorem xp {α:Type} {c:Prop} [Decidable c] {f g:Nat→Option α} {P:α→Prop} (h: ¬c) (h1:Dr g P):Dr (fun k=>if c then f k else g k) P:=pF (fun x=>absurd x h) (fun _=>h1)

theorem qO {α:Type} {g:Nat→Option α} {P:α→Prop} (e:Dr (fun k=>g (k+1)) P):Dr g P:=by
  obtain⟨r,e,p⟩:=e;exact⟨r,bX e,p⟩

theorem aeQ {α:Type} {g:Nat→Option α} {P Q:α→Prop} (e:Dr g P) (h: ∀r,P r→Q r):Dr g Q:=by
  obtain⟨r,e,p⟩:=e;exact⟨r,e,h r p⟩

def Code (c:List Int):Prop:=c.length≤4096∧∀y∈c,0≤y∧y≤255

theorem S0 (c:List Int) (hc:Code c): ∀(d i:Nat) (h:Int),i+d=c.length→Dr (fun k=>jQ.l0 k c (i:Int) c 0 h) (fun r=>r.1=c∧0≤r.2.1):=by
  intro d
  induction d with
  | zero=>
    intro i h hi;refine qO ?_;simp only[jQ.l0];exact xp aa (oP ⟨rfl,agI _⟩)
  | succ d ih=>
    intro i h hi;have:=hc.1;refine qO ?_;simp only[jQ.l0];refine mZ aa (mZ aa (mZ aa ?_));rw[eE aa];exact ih (i+1) _ aa

theorem LY (c:List Int) (hc:Code c):Dr (fun k=>jQ.f k c) (fun r=>r.1=c∧0≤r.2.1):=S0 c hc c.length 0 _ aa

theorem S1 (x:Int):0≤Go.bits .and .u64 (agX.wrap x / 2147483648) 1073741823∧Go.bits .and .u64 (agX.wrap x / 2147483648) 1073741823≤1073741823:=by
  have e0:agX.wrap x=x % 18446744073709551616:=by rw[IntKind.wrap_u64]
  rw[e0];have h:=bits_mask .u64 63 aG (fun n h₀ h₁=>by rw[IntKind.wrap_u64];omega) 30 aG (x % 18446744073709551616 / 2147483648) aa aa;rw[show((2:Int) ^ 30 - 1)=1073741823 by decide,show((2:Int) ^ 30)=1073741824 by decide]at h;rw[h]
  omega

theorem LZ {x n:Int} (hx:0≤x) (hn:1≤n):0≤agT x n∧agT x n<n:=by
  rw[ahq hx];exact⟨Int.emod_nonneg _ aa,Int.emod_lt_of_pos _ aa⟩

theorem oQ {c:List Int} (hc:Code c) {a:Int} (ha:0≤a) (h n:Int): ∃r:Int×Int×Int,fN.f c a h n=some r∧0≤r.2.1∧0≤r.1∧(1≤n→r.1<n)∧(n<1→r.1=0):=by
  unfold fN.f;have hl:=hc.1;have hb:=S1 (agX.wrap (h*6364136223846793005)+1442695040888963407)
  by_cases hn:n<1
  · exact⟨_,ak hn,ha,agI _,fun x=>absurd x aa,fun _=>rfl⟩
  · rw[aj hn]
    generalize Go.bits .and .u64 (agX.wrap (agX.wrap (h*6364136223846793005)+1442695040888963407) / 2147483648) 1073741823=b at hb
    by_cases hl2:a<(c.length:Int)
    · rw[ak hl2,ak ha,aj aa]
      obtain⟨i,rfl⟩:=agM ha;have hy:=hc.2 _ (GJ (show i<c.length by omega));have e:wrap64 (wrap64 b+wrap64 (rd c (i:Int)))=b+rd c (i:Int):=by
        rw[bN (x:=b) aa aa,bN (x:=rd c (i:Int)) aa aa,bN aa aa]
      have e2:wrap64 ((i:Int)+1)=i+1:=bN aa aa;have ht:=LZ (x:=b+rd c (i:Int)) (n:=n) aa aa;refine⟨_,rfl, ?_, ?_,fun _=> ?_,fun x=>absurd x hn⟩
      · show 0≤wrap64 ((i:Int)+1)
        omega
      · show 0≤agT _ n
        rw[e];exact ht.1
      · show agT _ n<n
        rw[e];exact ht.2
    · rw[aj hl2,aj aa]
      have ht:=LZ (x:=b) (n:=n) aa aa;refine⟨_,rfl,ha, ?_,fun _=> ?_,fun x=>absurd x hn⟩
      · show 0≤agT (wrap64 b) n
        rw[bN aa aa];exact ht.1
      · show agT (wrap64 b) n<n
        rw[bN aa aa];exact ht.2

theorem Bg {c:List Int} (hc:Code c) {a:Int} (ha:0≤a) (h:Int) (l:List Int) (hl:0<l.length): ∃r:Int×Int×Int,oR.f c a h l=some r∧0≤r.2.1∧r.1∈l:=by
  unfold oR.f;obtain⟨r,e,h1,h2,h3,_⟩:=oQ hc ha h (l.length:Int);have h4:=h3 aa;rw[e];simp only[Option.bind_some];rw[ak h2,ak h4];obtain⟨i,hi⟩:=agM h2;exact⟨_,rfl,h1,by rw[hi];exact GJ aa⟩

theorem S3 (l:List Int) (hl:l.length≤1048576):mo.f l=some l:=S5 l hl
theorem S9 (s:List UInt8) (c:UInt8) (hs:s.length≤1048576): ∀(d i j:Nat) (acc:List ByteArray),i+d=s.length→j≤i→acc.length≤i→
    Ev (fun k=>jH.l0 k (bs s) (c.toNat:Int) acc (j:Int) (i:Int)) (acc++(glue ((s.take i).drop j) (iY c (s.drop i))).map bs):=by
  intro d
  induction d with
  | zero=>
    intro i j acc hi hj ha;have e:i=s.length:=by omega
    subst e;refine bX ?_;simp only[jH.l0];refine cB (by rw[iU];omega) ?_;refine bz aa ?_;refine bz (by rw[iU];omega) ?_;refine bz aa ?_;rw[iU,LR,List.drop_length,iY];refine bK (congrArg some ?_);simp[glue]
  | succ d ih=>
    intro i j acc hi hj ha;have hil:i<s.length:=by omega
    refine bX ?_;simp only[jH.l0];refine bz (by rw[iU];omega) ?_;refine bz aa ?_;rw[zm hil,ahd hil]
    by_cases h:s[i]=c
    · refine bz (by rw[h]) ?_
      refine bz aa ?_;refine bz aa ?_;refine bz (by rw[iU];omega) ?_;refine bz aa ?_;rw[eE aa,LR,h,Bd];have h1:=ih (i+1) (i+1) (acc++[bs ((s.take i).drop j)]) aa (agO _) (by simp;omega);rw[ahe (show(s.take (i+1)).length≤i+1 by rw[List.length_take];omega),LS (xo _ _)]at h1;refine L5 h1 ?_;simp[glue]
    · refine cB (fun e=>h (UInt8.toNat_inj.1 aa)) ?_
      rw[eE aa,zn h,SS];have h1:=ih (i+1) j acc aa aa aa;rw[ahr hil,List.drop_append_of_le_length (by simp;omega)]at h1;exact h1

theorem GK (s:List UInt8) (c:UInt8) (hs:s.length≤1048576):Ev (fun k=>jH.f k (bs s) (c.toNat:Int)) ((iY c s).map bs):=by
  unfold jH.f;have h:=S9 s c hs s.length 0 0 [] aa aa bQ;rw[List.drop_zero,List.take_zero,LS (xo _ _),List.nil_append]at h;exact h

theorem Ta (s:List UInt8) (hs:s.length≤9): ∀(d i x:Nat),i+d=s.length→1≤i→1≤x→(2≤i→10≤x)→2≤s.length→x<10 ^ i→
    ∃v:Int,Ev (fun k=>fP.l0 k (bs s) (x:Int) (i:Int)) v∧(v= -1∨10≤v):=by
  intro d
  induction d with
  | zero=>
    intro i x hi h1 hx h2 hl hp;refine⟨x, ?_,Or.inr (by have:=h2 aa;omega)⟩;refine bX ?_;simp only[fP.l0];refine cB (by rw[iU];omega) ?_;exact bD _
  | succ d ih=>
    intro i x hi h1 hx h2 hl hp;have hil:i<s.length:=by omega
    have U7:(10:Nat) ^ i≤10 ^ 9:=ahb aa aa
    by_cases c1:s[i].toNat<48
    · refine⟨-1, ?_,Or.inl rfl⟩
      refine bX ?_;simp only[fP.l0];refine bz (by rw[iU];omega) ?_;refine bz aa ?_;rw[zm hil];refine bz aa ?_;exact bD _
    by_cases c2:57<s[i].toNat
    · refine⟨-1, ?_,Or.inl rfl⟩
      refine bX ?_;simp only[fP.l0];refine bz (by rw[iU];omega) ?_;refine bz aa ?_;rw[zm hil];refine cB aa ?_;refine bz aa ?_;exact bD _
    obtain⟨v,h3,h4⟩:=ih (i+1) (x*10+(s[i].toNat - 48)) aa aa aa aa hl (by rw[Nat.pow_succ];omega);refine⟨v, ?_,h4⟩;refine bX ?_;simp only[fP.l0];refine bz (by rw[iU];omega) ?_;refine bz aa ?_;rw[zm hil];refine cB aa ?_;refine cB aa ?_;have e:wrap64 (wrap64 ((x:Int)*10)+((s[i].toNat:Int) - 48) % 256)=((x*10+(s[i].toNat - 48):Nat):Int):=by
      rw[bN (x:=(x:Int)*10) aa aa,bN aa aa]
      omega
    rw[e,eE aa];exact h3

theorem L6 (b:UInt8):Ev (fun k=>fP.f k (bs [b])) (if 48≤b.toNat∧b.toNat≤57 then (b.toNat:Int) - 48 else -1):=by
  have e0:bt (bs [b]) 0=(b.toNat:Int):=zm (l:=[b]) (i:=0) bQ;unfold fP.f;refine cB (by rw[iU];simp) ?_;refine cB (by rw[iU];simp) ?_;refine cB (by rw[iU];simp) ?_;refine bX ?_;simp only[fP.j0];refine cB aG ?_;refine bX ?_;simp only[fP.l0];refine bz (by rw[iU];simp) ?_;refine bz aa ?_;rw[e0]
  by_cases c1:b.toNat<48
  · refine bz aa ?_
    rw[aj aa];exact bD _
  by_cases c2:57<b.toNat
  · refine cB aa ?_
    refine bz aa ?_;rw[aj aa];exact bD _
  refine cB aa ?_;refine cB aa ?_;refine bX ?_;simp only[fP.l0];refine cB (by rw[iU,bN aa aa];simp) ?_;rw[ak aa];refine bK (congrArg some ?_);rw[bN (x:=(0:Int)*10) aa aa,bN aa aa]
  omega

theorem GL {a:Int} (h0:0≤a) (h1:a<10):Ev (fun k=>fP.f k (bs [dg a])) a:=by
  have h:=L6 (dg a);have:=LU h0 h1;rw[ak aa]at h;refine L5 h aa

theorem GM (s:List UInt8): ∃v:Int,Ev (fun k=>fP.f k (bs s)) v∧(0≤v→v<10→s= [dg v]):=by
  have fail: ∀k,fP.j0 (k+1) (bs s) true=some (-1):=fun k=>by simp[fP.j0]
  by_cases c0:s.length=0
  · refine⟨-1, ?_,by omega⟩
    unfold fP.f;refine bz (by rw[iU];omega) ?_;exact bX ⟨0,fun k _=>fail k⟩
  by_cases c9:9<s.length
  · refine⟨-1, ?_,by omega⟩
    unfold fP.f;refine cB (by rw[iU];omega) ?_;refine bz (by rw[iU];omega) ?_;exact bX ⟨0,fun k _=>fail k⟩
  by_cases c1:s.length=1
  · match s,c1 with
    | [b],_=>
      refine⟨_,L6 b,fun h0 h1=> ?_⟩
      by_cases c:48≤b.toNat∧b.toNat≤57
      · rw[ak c,SX c.1]
      · rw[aj c]at h0
        omega
  have h0:0<s.length:=by omega
  have e0:bt (bs s) 0=(s[0].toNat:Int):=zm h0
  by_cases c2:s[0].toNat=48
  · refine⟨-1, ?_,by omega⟩
    unfold fP.f;refine cB (by rw[iU];omega) ?_;refine cB (by rw[iU];omega) ?_;refine bz (by rw[iU];omega) ?_;refine bz (by rw[iU];omega) ?_;rw[e0,c2];exact bX ⟨0,fun k _=>fail k⟩
  have e1:(((s[0].toNat:Nat):Int) == 48)=false:=by
    apply beq_eq_false_iff_ne.2
    omega
  by_cases c3:s[0].toNat<48∨57<s[0].toNat
  · refine⟨-1, ?_,by omega⟩
    unfold fP.f;refine cB (by rw[iU];omega) ?_;refine cB (by rw[iU];omega) ?_;refine bz (by rw[iU];omega) ?_;refine bz (by rw[iU];omega) ?_;rw[e0,e1];refine bX ?_;simp only[fP.j0];refine cB aG ?_;refine bX ?_;simp only[fP.l0];refine bz (by rw[iU];omega) ?_;refine bz aa ?_;rw[e0]
    by_cases c4:s[0].toNat<48
    · refine bz aa ?_
      exact bD _
    · refine cB aa ?_
      refine bz aa ?_;exact bD _
  · obtain⟨v,h3,h4⟩:=Ta s aa (s.length - 1) 1 (s[0].toNat - 48) aa aa aa aa aa aa
    refine⟨v, ?_,by omega⟩;unfold fP.f;refine cB (by rw[iU];omega) ?_;refine cB (by rw[iU];omega) ?_;refine bz (by rw[iU];omega) ?_;refine bz (by rw[iU];omega) ?_;rw[e0,e1];refine bX ?_;simp only[fP.j0];refine cB aG ?_;refine bX ?_;simp only[fP.l0];refine bz (by rw[iU];omega) ?_;refine bz aa ?_;rw[e0];refine cB aa ?_;refine cB aa ?_;have e:wrap64 (wrap64 ((0:Int)*10)+((s[0].toNat:Int) - 48) % 256)=((s[0].toNat - 48:Nat):Int):=by
      rw[bN (x:=(0:Int)*10) aa aa,bN aa aa]
      omega
    rw[e,show wrap64 ((0:Int)+1)=((1:Nat):Int) from bN aa aa];exact h3
theorem L7 {xs:List (List UInt8)} {i:Nat} (h:i<xs.length):eX agY (xs.map bs) (i:Int)=bs xs[i]:=by
  simp[eX,aho,h]

theorem Tc (ps:List (List UInt8)) (hps:ps.length≤1048576) (hpl: ∀p∈ps,p.length≤1048576) (n:Int): ∀(d i:Nat) (E:List (List Int)),i+d=ps.length→E.length=i→(∀r∈E,r.length=2)→
    ∃r,Ev (fun k=>gA.l0 k (ps.map bs) (i:Int) n E) r∧
      ((r=(0,[],false)∧∀l,fH n (E++l)=true→ps.drop i≠l.map word)∨
       ∃l,r=(n,E++l,true)∧fH n (E++l)=true∧ps.drop i=l.map word):=by
  intro d
  induction d with
  | zero=>
    intro i E hi hE hr;have hm:Mod E:=⟨by omega,fun r h=>by rw[hr r h];omega⟩;have e:ps.drop i= []:=ahe aa
    by_cases g:fH n E=true
    · refine⟨(n,E,true), ?_,Or.inr ⟨[],by rw[ahk],by rw[ahk];exact g,e⟩⟩
      refine bX ?_;simp only[gA.l0];refine cB (by rw[agZ];omega) ?_;refine bu (D7 n E hm) ?_;rw[g]
      repeat (first|with_reducible exact bD _ |dsimp only |refine dx ?_ |refine dz ?_ |simp only[bne_self_eq_false,agC,agD,agB,agE]|rw[bN aa aa]|((with_reducible refine bK (congrArg some ?_));rfl))
    · refine⟨(0,[],false), ?_,Or.inl ⟨rfl,fun l hg hl=> ?_⟩⟩
      · refine bX ?_;simp only[gA.l0]
        refine cB (by rw[agZ];omega) ?_;refine bu (D7 n E hm) ?_;rw[Bool.eq_false_iff.2 g]
        repeat (first|with_reducible exact bD _ |dsimp only |refine dx ?_ |refine dz ?_ |simp only[bne_self_eq_false,agC,agD,agB,agE]|rw[bN aa aa]|((with_reducible refine bK (congrArg some ?_));rfl))
      · rw[e]at hl
        have:l= []:=by simpa using hl.symm
        rw[this,ahk]at hg;exact g hg
  | succ d ih=>
    intro i E hi hE hr;have hil:i<ps.length:=by omega
    have hp:=hpl ps[i] (ag5 hil);have hsp:=GK ps[i] 45 hp;have U8:(((45:UInt8).toNat:Nat):Int)=45:=rfl;rw[U8]at hsp;have hd:ps.drop i=ps[i] :: ps.drop (i+1):=ahd hil
    by_cases h2:(iY 45 ps[i]).length=2
    · obtain⟨u,v,huv⟩:=GN h2
      obtain⟨a,ha,ha'⟩:=GM u;obtain⟨b,hb,hb'⟩:=GM v;obtain⟨r,h3,h4⟩:=ih (i+1) (E++[[a,b]]) aa (by simp[hE]) (fun r h=>by
        rcases ahj.1 h with h|h
        · exact hr r h
        · rw[List.mem_singleton.1 h];rfl)
      have hj:ps[i]=u++45 :: v:=by rw[← GG 45 ps[i],huv];rfl
      refine⟨r, ?_, ?_⟩
      · refine bX ?_;simp only[gA.l0]
        refine bz (by rw[agZ];omega) ?_;refine bz aa ?_;rw[L7 hil];refine bu hsp ?_;rw[huv];refine bz bQ ?_;refine bz bQ ?_;refine bu (f:=fun k t=>_) (show Ev (fun k=>fP.f k (eX agY (ag6 bs [u,v]) 0)) a from ha) ?_;refine bz bQ ?_;refine bu (f:=fun k t=>_) (show Ev (fun k=>fP.f k (eX agY (ag6 bs [u,v]) 1)) b from hb) ?_;refine bz aa ?_;rw[eE aa];exact h3
      · rcases h4 with ⟨rfl,h4⟩|⟨l,rfl,h5,h6⟩
        · refine Or.inl ⟨rfl,fun l hg hl=> ?_⟩
          cases l with
          | nil=>rw[hd]at hl;cases hl
          | cons e l=>
            rw[hd,ahl]at hl
            injection hl with hl1 hl2
            have hw:=LX hg (e:=e) bQ;rw[← hl1,huv]at hw
            injection hw with hw1 U7
            injection U7 with U7 _
            obtain⟨x,y,rfl,ex,ey,x0,x1,y0,y1⟩:=D8 hg (e:=e) bQ;rw[ex]at hw1;rw[ey]at U7;subst hw1 U7;have ea:=GD ha (GL x0 aa);have eb:=GD hb (GL y0 aa);subst ea eb;exact h4 l (by rw[ahm];exact hg) hl2
        · have hg:fH n (E++([a,b] :: l))=true:=by rw[ahm]at h5;exact h5
          refine Or.inr ⟨[a,b] :: l,by rw[ahm];rfl,hg, ?_⟩;obtain⟨x,y,e,ex,ey,x0,x1,y0,y1⟩:=D8 hg (e:=[a,b]) bQ
          injection e with e1 e2
          injection e2 with e2 _
          subst e1 e2;rw[hd,ahl,h6,hj,ha' x0 aa,hb' y0 aa]
          rfl
    · refine⟨(0,[],false), ?_,Or.inl ⟨rfl,fun l hg hl=> ?_⟩⟩
      · refine bX ?_;simp only[gA.l0]
        refine bz (by rw[agZ];omega) ?_;refine bz aa ?_;rw[L7 hil];refine bu hsp ?_;refine cB (by rw[agZ];omega) ?_;exact bD _
      · cases l with
        | nil=>rw[hd]at hl;cases hl
        | cons e l=>
          rw[hd,ahl]at hl
          injection hl with hl1 hl2
          have hw:=LX hg (e:=e) bQ;rw[← hl1]at hw;rw[hw]at h2;exact h2 rfl

theorem Td (c:UInt8) (s:List UInt8):(iY c s).length≤s.length+1:=by
  rw[SU];have:=List.count_le_length (a:=c) (l:=s)
  omega

theorem Tf {c:UInt8} {s p:List UInt8} (h:p∈iY c s):p.length≤s.length:=by
  induction s generalizing p with
  | nil=>simp[iY]at h;simp[h]
  | cons b s ih=>
    by_cases e:b=c
    · subst e
      rw[Bd]at h;rcases ag4.1 h with rfl|h
      · simp
      · have:=ih h;simp;omega
    · rw[zn e]at h
      cases hs:iY c s with
      | nil=>exact absurd hs (xo c s)
      | cons x xs=>
        rw[hs]at h ih;rcases ag4.1 h with rfl|h
        · have:=ih (agU)
          simp at this ⊢
          omega
        · have:=ih (ag3 _ h)
          simp;omega

theorem Th (s:List UInt8) (hs:s.length≤1048576): ∃r,Ev (fun k=>gA.f k (bs s)) r∧
    ((r=(0,[],false)∧∀n l,fH n l=true→s≠txt n l)∨∃n l,r=(n,l,true)∧fH n l=true∧s=txt n l):=by
  have hsp:=GK s 58 hs;have U9:(((58:UInt8).toNat:Nat):Int)=58:=rfl;rw[U9]at hsp
  by_cases h2:(iY 58 s).length=2
  · obtain⟨u,v,huv⟩:=GN h2
    have hj:s=u++58 :: v:=by rw[← GG 58 s,huv];rfl
    have hv:v.length+1≤s.length:=by rw[hj,List.length_append,agB];omega
    obtain⟨n,hn,hn'⟩:=GM u;have U7:=GK v 44 aa;have U8:(((44:UInt8).toNat:Nat):Int)=44:=rfl;rw[U8]at U7;have hc:=Td 44 v;obtain⟨ps,hpe,hps,hpl,hem⟩: ∃ps:List (List UInt8),ps=(if v= [] then [] else iY 44 v)∧ps.length≤1048576∧(∀p∈ps,p.length≤1048576)∧oO 44 ps=v:=by
      refine⟨_,rfl, ?_, ?_, ?_⟩
      · split
        · simp
        · omega
      · intro p hp
        split at hp
        · cases hp
        · have:=Tf hp;omega
      · split
        · next h=>rw[h];rfl
        · exact GG 44 v
    obtain⟨r,h3,h4⟩:=Tc ps hps hpl n ps.length 0 [] aa rfl bQ;refine⟨r, ?_, ?_⟩
    · unfold gA.f
      refine bu hsp ?_;rw[huv];refine bz bQ ?_;refine bz bQ ?_;refine bu (f:=fun k t=>_) (show Ev (fun k=>fP.f k (eX agY (ag6 bs [u,v]) 0)) n from hn) ?_;refine bu (bD _) ?_;refine bz bQ ?_;refine bu (f:=fun k t=>_) (show Ev (fun k=>jH.f k (eX agY (ag6 bs [u,v]) 1) 44) _ from U7) ?_;have ev:(eX agY (ag6 bs [u,v]) 1).toList=v:=SR v;rw[ev]
      by_cases hv0:v= []
      · refine bz hv0 ?_
        rw[ak hv0]at hpe;refine bX ?_;simp only[gA.j0];rw[hpe]at h3;exact h3
      · refine cB hv0 ?_
        rw[aj hv0]at hpe;refine bX ?_;simp only[gA.j0];rw[hpe]at h3;exact h3
    · rw[List.drop_zero]at h4
      rcases h4 with ⟨rfl,h4⟩|⟨l,rfl,h5,h6⟩
      · refine Or.inl ⟨rfl,fun n' l hg hs'=> ?_⟩
        have hts:=LW hg;rw[← hs',huv]at hts
        injection hts with t1 t2
        injection t2 with t2 _
        subst t1;obtain⟨g1,g2,g3⟩:=gG hg;have en:=GD hn (GL (a:=n') aa aa);subst en;refine h4 l hg ?_;rw[hpe];cases l with
        | nil=>
          rw[ak (by rw[t2];rfl)]
          rfl
        | cons e l=>
          rw[aj,t2,SY hg bQ];rw[t2];cases l<;>simp[oO,word]
      · rw[List.nil_append]at h5
        refine Or.inr ⟨n,l,rfl,h5, ?_⟩;obtain⟨g1,g2,g3⟩:=gG h5;rw[hj,hn' aa aa,← hem,h6]
        rfl
  · refine⟨(0,[],false), ?_,Or.inl ⟨rfl,fun n l hg hs'=> ?_⟩⟩
    · unfold gA.f
      refine bu hsp ?_;refine cB (by rw[agZ];omega) ?_;exact bD _
    · rw[hs',LW hg]at h2
      exact h2 rfl

def Ge (a:Nat) (l:List (List Int)):Prop:=l.length≤a∧∀r∈l,r.length≤2
def Gd (l:List (List Int)):Prop:=l.length≤11∧∀r∈l,r.length≤3
theorem Gd.mod {l:List (List Int)} (h:Gd l):Mod l:=⟨by have:=h.1;omega,fun r hr=>by have:=h.2 r hr;omega⟩

theorem Ge.nil (a:Nat):Ge a []:=⟨Nat.zero_le _,fun r h=>absurd h bQ⟩

theorem Ge.snoc {a:Nat} {l:List (List Int)} (h:Ge a l) (hl:l.length<a) (x y:Int):Ge a (l++[[x,y]]):=by
  refine⟨by simp;omega,fun r hr=> ?_⟩;rcases ahj.1 hr with hr|hr
  · exact h.2 r hr
  · rw[List.mem_singleton.1 hr];exact agO _

theorem Ge.gd {l:List (List Int)} (h:Ge 11 l):Gd l:=⟨h.1,fun r hr=>by have:=h.2 r hr;omega⟩
theorem Ge.mono {a b:Nat} {l:List (List Int)} (h:Ge a l) (hab:a≤b):Ge b l:=⟨Nat.le_trans h.1 hab,h.2⟩
theorem Ti (n:Int) (l:List (List Int)) (hl:Ge 10 l): ∀(d i:Nat),i+d=l.length→Ev (fun k=>iZ.l0 k (i:Int) n l n (l.take i)) (n,l):=by
  have h10:=hl.1;intro d
  induction d with
  | zero=>
    intro i hi;refine bX ?_;simp only[iZ.l0];refine cB aa ?_;rw[List.take_of_length_le aa];exact bD _
  | succ d ih=>
    intro i hi;refine bX ?_;simp only[iZ.l0];have hr:(aH l (i:Int)).length≤2:=by
      rw[pG aa];exact hl.2 _ (ag5 _)
    refine bz aa (bz aa (bu (bK (S3 _ aa)) (bz (by simp;omega) ?_)));rw[eE aa];have:=ih (i+1) aa;rw[ahr aa,← pG aa]at this;exact this

theorem copy_eq (n:Int) (l:List (List Int)) (hl:Ge 10 l):Ev (fun k=>iZ.f k n l) (n,l):=Ti n l hl l.length 0 aa

section
variable {c:List Int} (hc:Code c)
include hc

omit hc in
theorem Tj (n:Int): ∀(d:Nat) (l:List (List Int)) (a h:Int),0≤a→l.length+d=11→Ge 11 l→Dr (fun k=>jR.l0 k c a h n l) (fun r=>Gd r.2.1∧0≤r.2.2.1):=by
  intro d
  induction d with
  | zero=>
    intro l a h ha hl hg;refine qO ?_;simp only[jR.l0];exact xp aa (oP ⟨hg.gd,ha⟩)
  | succ d ih=>
    intro l a h ha hl hg;refine qO ?_;simp only[jR.l0];refine mZ aa (mZ aa ?_);exact ih _ a h ha (by simp;omega) (hg.snoc aa 0 0)

theorem Tm {a:Int} (ha:0≤a) (h n:Int) (l:List (List Int)) (hl:Ge 10 l):Dr (fun k=>jR.f k c a h n l) (fun r=>Gd r.2.1∧0≤r.2.2.1):=by
  unfold jR.f;have h10:=hl.1;have gd:=(hl.mono (show 10≤11 by omega)).gd;have U7:Dr (fun k=>iZ.f k n l) (fun r=>r=(n,l)):=⟨_,copy_eq n l hl,rfl⟩;refine jb (mm (oQ hc ha h 40)) (fun r hr=> ?_);refine pF (fun _=> ?_) (fun _=>pF (fun _=> ?_) (fun _=>pF (fun _=> ?_) (fun _=>pF (fun _=> ?_) (fun _=> ?_))))
  · exact jb (mm (Bg hc hr.1 _ _ bQ)) (fun p hp=>oP ⟨gd,hp.1⟩)
  · refine jb U7 (fun q hq=> ?_)
    subst hq;exact mZ (by simp only;omega) (oP ⟨((hl.mono (show 10≤11 by omega)).snoc aa 0 n).gd,hr.1⟩)
  · refine jb U7 (fun q hq=> ?_)
    subst hq;refine pF (fun h0=> ?_) (fun _=>oP ⟨gd,hr.1⟩);simp only at h0;refine jb (mm (oQ hc hr.1 _ _)) (fun p hp=> ?_);have h1:=hp.2.2.1 (by simp only;omega);simp only at h1;obtain⟨i,hi⟩:=agM hp.2.1;have hrow:(aH l p.1).length≤2:=by
      rw[hi,pG aa];exact hl.2 _ (ag5 _)
    refine mZ hp.2.1 (mZ h1 (mZ (by simp only;omega) (oP ⟨⟨by simp only[List.length_set];omega,fun r hr=> ?_⟩,hp.1⟩)));rcases List.mem_or_eq_of_mem_set hr with h|h
    · have:=hl.2 r h;omega
    · rw[h];simp;omega
  · refine jb U7 (fun q hq=> ?_)
    subst hq;exact Tj n (11 - l.length) l _ _ hr.1 aa (hl.mono aa)
  · exact oP ⟨gd,hr.1⟩

theorem Tn (n z:Int) (hz:1≤z) (m:Nat) (hm:m≤10): ∀(d:Nat) (l:List (List Int)) (a h:Int),0≤a→d≤100→Ge m l→Dr (fun k=>fI.l1 k z (m:Int) (d:Int) c a h n l) (fun r=>Ge 10 r.2.1∧0≤r.2.2.1):=by
  intro d
  induction d with
  | zero=>
    intro l a h ha hd hl;refine qO ?_;simp only[fI.l1];refine xp aa (qO ?_);simp only[fI.j3];exact xp aG (oP ⟨hl.mono hm,ha⟩)
  | succ d ih=>
    intro l a h ha hd hl;refine qO ?_;simp only[fI.l1];refine mZ aa (qO ?_);simp only[fI.j3];have hlm:=hl.1;refine pF (fun hx=> ?_) (fun _=>oP ⟨hl.mono hm,ha⟩);have hlt:l.length<m:=by have:=of_decide_eq_true hx;omega
    have e:wrap64 (((d+1:Nat):Int) - 1)=(d:Int):=by rw[bN aa aa];omega
    rw[e];refine jb (mm (oQ hc ha _ _)) (fun p hp=>jb (mm (oQ hc hp.1 _ _)) (fun q hq=> ?_));refine pF (fun _=> ?_) (fun _=>mZ aa (ih _ _ _ hq.1 aa (hl.snoc hlt _ _)));refine jb (mm (oQ hc hq.1 _ _)) (fun s hs=> ?_);refine pF (fun _=>xp aa (mZ aa (ih _ _ _ hs.1 aa (hl.snoc hlt _ _)))) (fun _=>mZ aa (ih _ _ _ hs.1 aa (hl.snoc hlt _ _)))

theorem D9 (n z:Int) (hz:1≤z) (m:Nat) (hm:m≤10) (b:Bool) (v:Int) (l:List (List Int)) {a:Int} (ha:0≤a) (h:Int) (hl:Ge m l):Dr (fun k=>fI.j1 k z (m:Int) b v false c a h n l) (fun r=>Ge 10 r.2.1∧0≤r.2.2.1):=by
  refine qO ?_;simp only[fI.j1];refine xp aG (jb (mm (oQ hc ha _ _)) (fun r hr=> ?_));rw[bN (x:=(m:Int)+1) aa aa]at hr;have h2:=hr.2.2.1 aa;obtain⟨d,hd⟩:=agM hr.2.1;rw[hd];exact Tn hc n z hz m hm d l _ _ hr.1 aa hl

theorem Tp (n z:Int) (hz:1≤z) (L8:z≤8) (m:Nat) (hm:m≤10) (b:Bool): ∀(d v:Nat) (l:List (List Int)) (a h:Int),0≤a→z≤v+d→v≤100→Ge m l→Dr (fun k=>fI.l0 k z (m:Int) b (v:Int) c a h n l) (fun r=>Ge 10 r.2.1∧0≤r.2.2.1):=by
  intro d
  induction d with
  | zero=>
    intro v l a h ha hv U7 hl;refine qO ?_;simp only[fI.l0];exact xp aa (D9 hc n z hz m hm b v l ha h hl)
  | succ d ih=>
    intro v l a h ha hv U7 hl;have hlm:=hl.1;refine qO ?_;simp only[fI.l0];refine pF (fun U8=> ?_) (fun _=>D9 hc n z hz m hm b v l ha h hl);refine pF (fun _=> ?_) (fun _=>D9 hc n z hz m hm b v l ha h hl)
    by_cases hlt:(l.length:Int)<m
    · rw[aV hlt]
      refine qO ?_;simp only[fI.j1];rw[eE (i:=v) aa];refine mZ (by first|exact trivial|rfl) (jb (mm (oQ hc ha _ _)) (fun p hp=>jb (mm (oQ hc hp.1 _ _)) (fun q hq=> ?_)));refine pF (fun _=>mZ aa (ih (v+1) _ _ _ hq.1 aa aa (hl.snoc aa _ _))) (fun _=>mZ aa (ih (v+1) _ _ _ hq.1 aa aa (hl.snoc aa _ _)))
    · rw[cj hlt]
      exact D9 hc n z hz m hm b v l ha h hl

theorem Tq {a:Int} (ha:0≤a) (h z:Int) (hz:1≤z) (L8:z≤8) (m:Int) (hm0:0≤m) (hm:m≤10):Dr (fun k=>fI.f k c a h z m) (fun r=>Ge 10 r.2.1∧0≤r.2.2.1):=by
  unfold fI.f;obtain⟨m',rfl⟩:=agM hm0;exact jb (mm (oQ hc ha _ _)) (fun r hr=>Tp hc z z hz L8 m' aa _ 8 1 [] _ _ hr.1 aa aa (Ge.nil _))

omit hc in
theorem Tt {p:Prop} [Decidable p] {x y:Option ByteArray} (h1: ∃t:ByteArray,x=some t∧t.size≤100) (h2: ∃t:ByteArray,y=some t∧t.size≤100): ∃t:ByteArray,(if p then x else y)=some t∧t.size≤100:=by
  by_cases h:p
  · rw[ak h];exact h1
  · rw[aj h];exact h2

omit hc in
theorem Tu (a:ByteArray): ∃t:ByteArray,xq.f a=some t∧t.size≤100:=by
  unfold xq.f
  repeat' with_reducible refine Tt ?_ ?_
  all_goals exact⟨_,rfl,by decide⟩

omit hc in
theorem Tv (a:ByteArray):Dr (fun k=>xw.f k a) (fun r=>Ge 10 r.2.1):=by
  unfold xw.f;obtain⟨t,ht,hs⟩:=Tu a;obtain⟨s,rfl⟩:=SQ t;rw[iU]at hs;refine jb (mm ⟨_,ht,rfl⟩) (fun x hx=> ?_);rw[← hx];obtain⟨r,he,hr⟩:=Th s aa;refine jb (P:=fun x=>x=r) ⟨r,he,rfl⟩ (fun x hx=> ?_);subst hx;refine oP ?_;rcases hr with ⟨rfl,_⟩|⟨n,l,rfl,hg,_⟩
  · exact Ge.nil _
  · obtain⟨_,_,h3,h4⟩:=(Bf n l).1 hg
    refine⟨h3,fun r hr=> ?_⟩;obtain⟨x,y,rfl,_⟩:=h4 r hr;exact agO _

theorem Tz {a:Int} (ha:0≤a) (h:Int):Dr (fun k=>xx.f k c a h) (fun r=>Ge 10 r.2.1∧0≤r.2.2.1):=by
  unfold xx.f;refine jb (mm (oQ hc ha _ _)) (fun r hr=>pF (fun _=> ?_) (fun _=> ?_))
  · refine jb (mm ⟨_,rfl,rfl⟩) (fun x hx=> ?_)
    have U8:x.length=14:=by rw[← hx];rfl
    refine jb (mm (oQ hc hr.1 _ _)) (fun p hp=> ?_);have h1:=hp.2.2.1 aa;exact mZ hp.2.1 (mZ h1 (jb (Tv _) (fun q hq=>oP ⟨hq,hp.1⟩)))
  · refine jb (mm (oQ hc hr.1 _ _)) (fun p hp=> ?_)
    have U7:=hp.2.2.1 aa;have U9:=hp.2.1;have e:wrap64 (1+p.1)=1+p.1:=bN aa aa;rw[e];refine jb (mm (Bg hc hp.1 _ _ bQ)) (fun z hz=> ?_);have hz1:1≤z.1∧z.1≤8:=by
      have:=hz.2;simp only[ag4,List.not_mem_nil,or_false]at this
      omega
    refine jb (mm (Bg hc hz.1 _ _ aG)) (fun m hm=> ?_);have hm1:0≤m.1∧m.1≤10:=by
      have: ∀y∈([2,4,6,6,8,10]:List Int),0≤y∧y≤10:=by decide
      exact this _ hm.2
    exact jb (Tq hc hm.1 _ _ hz1.1 hz1.2 _ hm1.1 hm1.2) (fun q hq=>oP hq)

theorem L9 {a:Int} (ha:0≤a) (h:Int):Dr (fun k=>tC.f k c a h) (fun r=>Gd r.2.1∧0≤r.2.2.1):=by
  unfold tC.f;exact jb (Tz hc ha h) (fun r hr=>jb (Tm hc hr.2 _ _ _ hr.1) (fun q hq=>oP hq))

end
section
variable {c:List Int} (hc:Code c)
include hc

theorem TA {a:Int} (ha:0≤a) (h m:Int): ∃r:Int×Int×Int,xy.f c a h m=some r∧0≤r.2.1:=by
  unfold xy.f;obtain⟨r,e,h1,_⟩:=oQ hc ha h 14;rw[e];simp only[Option.bind_some]
  by_cases h0:r.1=0
  · rw[ak h0]
    obtain⟨p,e2,h2,_⟩:=Bg hc h1 r.2.2 [-1,wrap64 (m+1),1099511627776, -4611686018427387904] bQ;rw[e2];exact⟨_,rfl,h2⟩
  · rw[aj h0]
    obtain⟨p,e2,h2,_⟩:=oQ hc h1 r.2.2 (wrap64 (m+1));rw[e2];exact⟨_,rfl,h2⟩

end
section
variable {c:List Int} (hc:Code c)
include hc

theorem GP:Dr (fun k=>oS.f k c) (fun r=>Mod r.2.1):=by
  unfold oS.f;refine jb (LY c hc) (fun s hs=> ?_);obtain⟨s0,s1,s2⟩:=s;obtain⟨rfl,hs⟩:=hs;refine jb (L9 hc hs _) (fun g hg=>jb (mm (TA hc hg.2 _ _)) (fun p hp=>jb (mm (Bg hc hp _ _ bQ)) (fun q hq=>oP (Gd.mod hg.1))))

theorem TB:Dr (fun k=>xz.f k c) (fun r=>Mod r.2):=by
  unfold xz.f;refine jb (LY c hc) (fun s hs=> ?_);obtain⟨s0,s1,s2⟩:=s;obtain⟨rfl,hs⟩:=hs;exact jb (L9 hc hs _) (fun g hg=>oP (Gd.mod hg.1))

end
theorem TC (a b:List Int) (hl:a.length≤1048576) (hab:a.length=b.length): ∀(d i:Nat),i+d=a.length→
    Ev (fun k=>mq.l0 k a b (i:Int)) (decide (a.drop i=b.drop i)):=by
  intro d
  induction d with
  | zero=>
    intro i hi;refine bX ?_;simp only[mq.l0];rw[ahe aa,ahe aa]
    repeat (first|with_reducible exact bD _ |dsimp only |refine dx ?_ |refine dz ?_ |simp only[bne_self_eq_false,agC,agD,agB,agE]|rw[bN aa aa]|((with_reducible refine bK (congrArg some ?_));rfl))
  | succ d ih=>
    intro i hi;refine bX ?_;simp only[mq.l0];rw[ahd (by omega:i<a.length),ahd (by omega:i<b.length),eE aa]
    by_cases e:rd a i=rd b i
    · repeat (first|with_reducible exact bD _ |dsimp only |refine dx ?_ |refine dz ?_ |simp only[bne_self_eq_false,agC,agD,agB,agE]|rw[bN aa aa]|((with_reducible refine bK (congrArg some ?_));rfl))
      have:=ih (i+1) aa;rw[gz aa,gz aa]at e;rw[e,Mc];exact this
    · rw[cj (fun h=>e (by rw[gz aa,gz aa];exact(List.cons.inj h).1))]
      repeat (first|with_reducible exact bD _ |dsimp only |refine dx ?_ |refine dz ?_ |simp only[bne_self_eq_false,agC,agD,agB,agE]|rw[bN aa aa]|((with_reducible refine bK (congrArg some ?_));rfl))

theorem Md (a:List Int) (hl:a.length≤1048576):Ev (fun k=>mq.f k a a) true:=by
  unfold mq.f;refine bz rfl ?_;have:=TC a a hl rfl a.length 0 aa;rw[aV rfl]at this;exact this
theorem Me (a:List (List Int)) (ha:Mod a):Ev (fun k=>m5.f k a a) true:=by
  have h1:=ha.1;have main: ∀(d i:Nat),i+d=a.length→Ev (fun k=>m5.l0 k a a (i:Int)) true:=by
    intro d
    induction d with
    | zero=>
      intro i hi;refine bX ?_;simp only[m5.l0];exact cB aa (bD _)
    | succ d ih=>
      intro i hi;have hr:(aH a (i:Int)).length≤1048576:=by
        rw[pG aa];exact ha.2 _ (ag5 _)
      refine bX ?_;simp only[m5.l0];rw[eE (i:=i) aa];exact bz aa (bz aa (bz aa (bu (Md _ hr) (bz rfl (ih (i+1) aa)))))
  unfold m5.f;exact bz rfl (main a.length 0 aa)

theorem TD (l:List (List Int)): ∀(d j:Nat) (x:Int),qd l d j=(x,0)→∃i:Nat,j≤i∧i<j+d∧x=((i+1:Nat):Int)∧dO l i>0∧∀t,j≤t→t<i→¬dO l t>0:=by
  intro d
  induction d with
  | zero=>
    intro j x h;unfold qd at h;have:=(Prod.mk.inj h).2
    omega
  | succ d ih=>
    intro j x h;unfold qd at h
    by_cases c:dO l j>0
    · rw[ak c]at h
      exact⟨j,agO _,by omega,(Prod.mk.inj h).1.symm,c,fun t h1 h2=>absurd h1 aa⟩
    · rw[aj c]at h
      obtain⟨i,h1,h2,h3,h4,h5⟩:=ih (j+1) x h;refine⟨i,by omega,by omega,h3,h4,fun t h6 h7=> ?_⟩
      by_cases e:t=j
      · rw[e];exact c
      · exact h5 t aa h7

section
variable {c:List Int} (hc:Code c)
include hc

theorem TE:Ev (fun k=>cM.j9 k c) true:=by
  obtain⟨⟨n,l,a⟩,hd,hl⟩:=GP hc;simp only at hl;obtain⟨r,r1,hs,hi⟩:=SN n l a hl;obtain⟨c1,c2,c3⟩:=Mh n l a hl;have p2:=SD n l a hl;have p3:=GA n l a hl;have d1:Ev (fun k=>xA.f k c) (n,l,a):=by
    unfold xA.f;exact bu hd (bD _)
  have d2:Ev (fun k=>xB.f k c) (n,l,a):=by
    unfold xB.f;exact bu hd (bD _)
  have d3:Ev (fun k=>xC.f k c) (n,l,a):=by
    unfold xC.f;exact bu hd (bD _)
  refine bX ?_;simp only[cM.j9];refine bu d1 (bu hi (bu hs (bu d2 (bu c3 (bu c2 (bu d3 (bu p3 (bu p2 (bz rfl (bu (Md _ r1) (bz rfl (bz rfl (bu (Me _ c1) (bz rfl (bz rfl ?_)))))))))))))));rw[beq_self_eq_true];exact bD _

theorem Mj:Ev (fun k=>cM.j6 k c) true:=by
  obtain⟨⟨n,l⟩,hd,hl⟩:=TB hc;simp only at hl;obtain⟨hs,hi⟩:=SK n l hl;have h9:=TE hc;refine bX ?_;simp only[cM.j6];refine bu hd (bu hi (bu hs (bz rfl ?_)));rw[bne_self_eq_false];refine bX ?_;simp only[cM.j7];refine cB aG ?_
  by_cases hz:(zl n l).2=0
  · by_cases hg:fH n l=true
    · obtain⟨g1,g2,g3⟩:=gG hg
      have e:zl n l=qd l 8 0:=ak hg;rw[e]at hz ⊢;obtain⟨i,i1,i2,i3,i4,i5⟩:=TD l 8 0 (qd l 8 0).1 (by rw[← hz]);have U7: ∀x:Nat,1≤x→x≤12→gL n l (x:Int) 1=0:=fun x h1 h2=>by
        unfold gL;rw[ak hg,ak ⟨by omega,by omega⟩]
      have n1:=D6 n l ((i+1:Nat):Int) hl;unfold uV at n1;rw[ak (U7 (i+1) aa aa),agG,agK]at n1;rw[i3];refine bz hz (bu n1 (bz rfl ?_));simp only;rw[cj (show ¬dO l i<1 by omega)];refine bX ?_;simp only[cM.j8];refine cB aG ?_
      by_cases c2:((i+1:Nat):Int)>1
      · have n2:=D6 n l (i:Int) hl
        unfold uV at n2;rw[ak (U7 i aa aa),agG]at n2;have hb:=D2 l g3 (show i - 1≤12 by omega);have hn:=i5 (i - 1) aa aa;rw[bN (x:=((i+1:Nat):Int) - 1) aa aa,show((i+1:Nat):Int) - 1=(i:Int) by omega];exact bz c2 (bu n2 (bz rfl (bz (by simp only;omega) h9)))
      · exact cB c2 h9
    · have e:zl n l=(0,1):=aj hg
      rw[e]at hz;exact absurd hz aG
  · exact cB hz h9

theorem TF {n:Int} {l:List (List Int)} (hl:Mod l) (hg:fH n l=true) (m:Nat) (hm:1≤m∧m≤12): ∀(d t:Nat),t+d=m→Ev (fun k=>cM.l1 k c (m:Int) (dO l (m - 1)) (wrap64 (sD l m t)) ((t+1:Nat):Int) n l) true:=by
  obtain⟨g1,g2,g3⟩:=gG hg;intro d
  induction d with
  | zero=>
    intro t ht;obtain rfl:t=m:=by omega
    have hb:=D2 l g3 (show t - 1≤12 by omega);have h6:=Mj hc;refine bX ?_;simp only[cM.l1];rw[LO l t hm,bN (x:=dO l (t - 1)) aa aa];exact cB aa (bz rfl h6)
  | succ d ih=>
    intro t ht;have h2:=ih (t+1) aa;have hp:=GA n l ((t+1:Nat):Int) hl;have GQ:gL n l ((t+1:Nat):Int) 1=0:=by
      unfold gL;rw[ak hg,ak ⟨by omega,by omega⟩]
    unfold zi at hp;rw[ak GQ,agG,Gy g3 (t+1) ⟨by omega,by omega⟩]at hp;refine bX ?_;simp only[cM.l1];rw[GR,eE (i:=t+1) aa];refine bz aa (cB aa ?_)
    by_cases e:m % (t+1)=0
    · rw[Su l m t hm.1 e]at h2
      refine bz aa (bu hp (bz rfl ?_));simp only;rw[wW];exact h2
    · rw[Sv l m t e]at h2
      exact cB aa h2

theorem Mo:Ev (fun k=>cM.j3 k c) true:=by
  obtain⟨⟨n,l,a⟩,hd,hl⟩:=GP hc;simp only at hl;have hs:=SH n l a hl;have hi:=D6 n l a hl;have d1:Ev (fun k=>xD.f k c) (n,l,a):=by
    unfold xD.f;exact bu hd (bD _)
  refine bX ?_;simp only[cM.j3];refine bu d1 (bu hi (bu hs (bz rfl ?_)));rw[bne_self_eq_false];refine bX ?_;simp only[cM.j4];refine cB aG ?_;unfold uV
  by_cases e:gL n l a 1=0
  · obtain⟨hg,ha,hb⟩:=tB e
    obtain⟨m,rfl⟩:=agM (show 0≤a by omega);have h2:=TF hc hl hg m ⟨by omega,by omega⟩ m 0 aa;rw[show wrap64 (sD l m 0)=0 from bN (x:=0) aG aG]at h2;rw[ak e,agG];exact bz rfl h2
  · rw[aj e]
    exact cB e (Mj hc)

theorem TG {n:Int} {l:List (List Int)} (hl:Mod l) (hg:fH n l=true) (m:Nat) (hm:1≤m∧m≤12) (hs:(nL l m).length≤400): ∀(d i:Nat),i+d=(nL l m).length→Ev (fun k=>cM.l0 k c (nL l m) (i:Int) n l) true:=by
  intro d
  induction d with
  | zero=>
    intro i hi;refine bX ?_;simp only[cM.l0];exact cB aa (Mo hc)
  | succ d ih=>
    intro i hi;have hw:(nL l m)[i]∈nL l m:=ag5 _;have e:aH (nL l m) (i:Int)=(nL l m)[i]:=pG aa;generalize (nL l m)[i]=w at hw e;obtain⟨w1,w2⟩:=List.mem_filter.1 hw;have hwk:=Mp (l:=l) hm w w1;have hlen:=(GS hm.1 w w1).1;unfold lB at w2;rw[Bool.and_eq_true]at w2;have h2:=TH n l w hl aa;have GQ:code n l w=0:=by
      unfold code;rw[ak hg,ak hwk]
    rw[GQ]at h2;have hp:=Mq hg hwk;rw[w2.1]at hp;have hq:Ev (fun k=>xE.f k n l w) (true,0):=by
      unfold xE.f;exact bu h2 (bz rfl (bu hp (bD _)))
    refine bX ?_;simp only[cM.l0];rw[e,eE (i:=i) aa];exact bz aa (bz aa (bu hq (bz rfl (bz rfl (ih (i+1) aa)))))

theorem TI (n:Int) (l:List (List Int)) (a:Int) (hl:Mod l):Ev (fun k=>cM.j0 k c a (xF n l a).1 (xF n l a).2 false n l) true:=by
  have h3:=Mo hc;refine bX ?_;simp only[cM.j0];refine cB aG ?_;unfold xF
  by_cases e:gL n l a 1=0
  · obtain⟨hg,ha,hb⟩:=tB e
    obtain⟨g1,g2,g3⟩:=gG hg;obtain⟨m,rfl⟩:=agM (show 0≤a by omega);have hm:1≤m∧m≤12:=⟨by omega,by omega⟩;rw[ak e,agG]
    by_cases e2:dO l (m - 1)>400
    · rw[ak e2]
      exact cB aG h3
    · rw[aj e2]
      have p1:=GA n l (m:Int) hl;have p2:=(Mh n l (m:Int) hl).2.2;have p3:=D6 n l (m:Int) hl;unfold zi at p1;unfold Bh tD at p2;unfold uV at p3;rw[ak e,agG]at p1 p3;rw[ak e,agG,aj e2]at p2;have k1:=LP l m hm.1;have k2:=SB g3 m hm;have k3:(nL l m).length≤(gP l m).length:=List.length_filter_le _ _;refine bz rfl (bu p1 (bu p2 (bu p3 (bz rfl (bz rfl (bz rfl (bz k2.symm ?_)))))));simp only;rw[k1,bne_self_eq_false];refine bX ?_;simp only[cM.j1];exact cB aG (TG hc hl hg m hm aa (nL l m).length 0 aa)
  · rw[aj e]
    exact cB e h3

end

theorem TJ {x:Int} (h:(Lit.int .u8 x).wf=true):0≤x∧x≤255:=by
  simpa [Lit.wf,IntKind.min,IntKind.max,IntKind.signed,IntKind.bits] using h

theorem FnPrimeCycles:cM.Pure:=by
  intro c _ hb;refine TK ?_;unfold cM.f xG.f
  by_cases Bi:(c.length:Int)>4096
  · rw[aV Bi]
    exact bu (bD _) (bz rfl (bD _))
  · rw[cj Bi]
    have hc:Code c:=⟨by omega,fun y hy=>TJ (hb y hy)⟩;refine bu (bD _) (cB aG ?_);obtain⟨⟨n,l,a⟩,hd,hl⟩:=GP hc;simp only at hl;obtain⟨r1,hs,hi⟩:=TL n l a hl;have d1:Ev (fun k=>xH.f k c) (n,l,a):=by
      unfold xH.f;exact bu hd (bD _)
    exact bu d1 (bu hi (bu hs (bz rfl (bu (Me _ r1) (TI hc n l a hl)))))
end Go.Proofs.Ytkadhadceongiaa.Pure
