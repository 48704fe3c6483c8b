/- The plain proofs for this law. -/
import Derived.Test.YtkadhadceongiaaC6
import Derived.Test.YtkadhadceongiaaAux
namespace Go.Proofs.Ytkadhadceongiaa.Pure
open Go.RowKit Go.Proofs.Ytkadhadceongiaa.G Go.Proofs.YtkadhadceongiaaW.PrintWords Go.Proofs.YtkadhadceongiaaW.PrintLast Go.Proofs.YtkadhadceongiaaW.PrintMore Go.Proofs.Ytkadhadceongiaa.Aux
open List renaming length_cons → agP, length_nil → agR, range → ahe, mem_range → ahi, length_append → ahj, mem_filter → ahk, replicate → ahl, filter_cons_of_pos → ahq, drop_eq_getElem_cons → ag4, filter_cons_of_neg → ahr, flatMap_cons → ahs, drop_eq_nil_of_le → ag5, mem_map → ahv, length_take → ahw, flatMap_append → ahx, nodup_cons → ahy, getD_eq_getElem?_getD → ahz, append_assoc → ahc, length_singleton → ahD, filter_append → ahE, range' → ahF, all_cons → ahG, getElem_mem → agX, map_congr_left → ahJ, nil_append → ag9, length_drop → ahL, append_nil → aha, range_succ → ahN, mem_flatMap → ahO, filter → ahP, range_eq_range' → ahQ, getElem_append_left → ahR, mem_singleton → ag6, length_range → ahT, getElem_range → ahU, drop_zero → ahX, range'_succ → ahZ, length_map → agU, Pairwise → ah0, length_reverse → ah1, all_eq_true → ah2, length_set → ah3, flatMap_map → ah6, getElem?_eq_getElem → ah7, filter_congr → ah8, getElem_take → aia, nodup_range → aic, getElem_append_right → aif, take_succ_eq_append_getElem → ahd, countP_eq_length_filter → aih
open Bool renaming not_true → agV, not_false → agW, false_and → ahf, true_and → ahg, and_eq_true → ahh, not_eq_true → ahm, and_true → ahA, and_false → ahH, false_or → ahY, eq_iff_iff → ah9
open Int renaming toNat_natCast → agQ, add_zero → aho, zero_mul → aht, mul_le_mul_of_nonneg_left → ahu, eq_ofNat_of_zero_le → agO, le_refl → ahC, add_mul → ahI, mul_nonneg → ahV, mul_one → ahW, mul_le_mul_of_nonneg_right → ah4, tmod_eq_emod_of_nonneg → aie
open Option renaming bind_some → ag8
open Nat renaming mod_lt → ahn, le_refl → ahp, add_sub_cancel → ahB, mod_self → ahK, le_trans → ahM, mod_eq_of_lt → ag7, add_mod_mod → aid
open List.Pairwise renaming filter → ahS, imp → aib
open List.cons renaming inj → ah5
set_option linter.unusedVariables false
set_option linter.unusedSimpArgs false

theorem oO {xs:List (List Int)} {i:Nat} (h:i<xs.length):aM xs (i:Int)=xs[i]:=by
 simp[aM,ahz,h]

def Mod (l:List (List Int)):Prop:=l.length≤1048576∧∀r∈l,r.length≤1048576

theorem nB (a b c:Int):kX.f a b c=some (decide (b≤a∧a≤c)):=by
 unfold kX.f
 by_cases h:b≤a
 ·rw[aC h];simp[h]
 ·rw[aA h];simp[h]

theorem mD (a b c:Int):jR.f a b c=some (decide (b≤a∧a≤c)):=by
 unfold jR.f
 by_cases h:b≤a
 ·rw[aC h];simp[h]
 ·rw[aA h];simp[h]

def xD (n:Int) (e:List Int):Bool:=decide (e.length=2) && (decide (0≤rd e 0∧rd e 0≤wrap64 (n - 1)) && decide (0≤rd e 1∧rd e 1≤wrap64 (n - 1)))

def e5 (n:Int) (l:List (List Int)):Bool:=l.all (xD n) && (decide (1≤n∧n≤8) && decide ((l.length:Int)≤10))

theorem RA (n:Int) (l:List (List Int)) (hl:Mod l): ∀(d i:Nat),i+d=l.length→
  Ev (fun k=>fC.l0 k (i:Int) n l) ((l.drop i).all (xD n)):=by
 have hl1:=hl.1;intro d
 induction d with
 | zero=>
  intro i hi;refine bZ ?_;simp only[fC.l0];rw[ag5 aa]
  repeat (first|with_reducible exact bD _ |dsimp only |refine cS ?_ |refine cT ?_ |simp only[bne_self_eq_false,agV,agW,agP,agR]|rw[bU aa aa]|((with_reducible refine bQ (congrArg some ?_));rfl))
 | succ d ih=>
  intro i hi;refine bZ ?_;simp only[fC.l0];rw[ag4 (by omega:i<l.length),ahG,oO aa,ep aa];generalize l[i]=e;have:=ih (i+1) aa;unfold xD
  by_cases h2:(e.length:Int)=2
  ·rw[aV (show e.length=2 by omega),ahg]
   by_cases ha:0≤rd e 0∧rd e 0≤wrap64 (n - 1)
   ·by_cases hb:0≤rd e 1∧rd e 1≤wrap64 (n - 1)
    ·rw[aV ha,aV hb,ahg,ahg]
     repeat (first|with_reducible exact bD _ |dsimp only |with_reducible refine bw (bQ ((nB _ _ _).trans (congrArg some (aV ha)))) ?_ |with_reducible refine bw (bQ ((nB _ _ _).trans (congrArg some (aV hb)))) ?_ |refine cS ?_ |refine cT ?_ |simp only[bne_self_eq_false,agV,agW,agP,agR]|rw[bU aa aa]|with_reducible exact(bQ ((nB _ _ _).trans (congrArg some (aV ha))))|with_reducible exact(bQ ((nB _ _ _).trans (congrArg some (aV hb))))|((with_reducible refine bQ (congrArg some ?_));rfl))
     exact this
    ·rw[cz hb,ahH,ahf]
     repeat (first|with_reducible exact bD _ |dsimp only |with_reducible refine bw (bQ ((nB _ _ _).trans (congrArg some (aV ha)))) ?_ |with_reducible refine bw (bQ ((nB _ _ _).trans (congrArg some (cz hb)))) ?_ |refine cS ?_ |refine cT ?_ |simp only[bne_self_eq_false,agV,agW,agP,agR]|rw[bU aa aa]|with_reducible exact(bQ ((nB _ _ _).trans (congrArg some (aV ha))))|with_reducible exact(bQ ((nB _ _ _).trans (congrArg some (cz hb))))|((with_reducible refine bQ (congrArg some ?_));rfl))
   ·rw[cz ha,ahf,ahf]
    repeat (first|with_reducible exact bD _ |dsimp only |with_reducible refine bw (bQ ((nB _ _ _).trans (congrArg some (cz ha)))) ?_ |refine cS ?_ |refine cT ?_ |simp only[bne_self_eq_false,agV,agW,agP,agR]|rw[bU aa aa]|with_reducible exact(bQ ((nB _ _ _).trans (congrArg some (cz ha))))|((with_reducible refine bQ (congrArg some ?_));rfl))
  ·rw[cz (show ¬e.length=2 by omega),ahf,ahf]
   repeat (first|with_reducible exact bD _ |dsimp only |refine cS ?_ |refine cT ?_ |simp only[bne_self_eq_false,agV,agW,agP,agR]|rw[bU aa aa]|((with_reducible refine bQ (congrArg some ?_));rfl))

theorem zC (n:Int) (l:List (List Int)) (hl:Mod l):Ev (fun k=>fC.f k n l) (e5 n l):=by
 unfold fC.f e5
 by_cases h1:1≤n∧n≤8
 ·rw[aV h1,ahg]
  repeat (first|with_reducible exact bD _ |dsimp only |with_reducible refine bw (bQ ((nB n 1 8).trans (congrArg some (aV h1)))) ?_ |refine cS ?_ |refine cT ?_ |simp only[bne_self_eq_false,agV,agW,agP,agR]|rw[bU aa aa]|with_reducible exact(bQ ((nB n 1 8).trans (congrArg some (aV h1))))|((with_reducible refine bQ (congrArg some ?_));rfl))
  refine bZ ?_;simp only[fC.j0]
  by_cases h2:(l.length:Int)≤10
  ·rw[aV h2,cz (show ¬(l.length:Int)>10 by omega),ahA]
   repeat (first|with_reducible exact bD _ |dsimp only |refine cS ?_ |refine cT ?_ |simp only[bne_self_eq_false,agV,agW,agP,agR]|rw[bU aa aa]|((with_reducible refine bQ (congrArg some ?_));rfl))
   exact RA n l hl l.length 0 aa
  ·rw[cz h2,aV (show(l.length:Int)>10 by omega),ahH]
   repeat (first|with_reducible exact bD _ |dsimp only |refine cS ?_ |refine cT ?_ |simp only[bne_self_eq_false,agV,agW,agP,agR]|rw[bU aa aa]|((with_reducible refine bQ (congrArg some ?_));rfl))
 ·rw[cz h1,ahf,ahH]
  repeat (first|with_reducible exact bD _ |dsimp only |with_reducible refine bw (bQ ((nB n 1 8).trans (congrArg some (cz h1)))) ?_ |refine cS ?_ |refine cT ?_ |simp only[bne_self_eq_false,agV,agW,agP,agR]|rw[bU aa aa]|with_reducible exact(bQ ((nB n 1 8).trans (congrArg some (cz h1))))|((with_reducible refine bQ (congrArg some ?_));rfl))
  refine bZ ?_;simp only[fC.j0]
  repeat (first|with_reducible exact bD _ |dsimp only |refine cS ?_ |refine cT ?_ |simp only[bne_self_eq_false,agV,agW,agP,agR]|rw[bU aa aa]|((with_reducible refine bQ (congrArg some ?_));rfl))

theorem RB (n:Int) (l:List (List Int)) (hl:Mod l): ∀(d i:Nat),i+d=l.length→
  Ev (fun k=>jo.l0 k l (l.length:Int) (i:Int) n l) ((l.drop i).all (xD n) && (decide (1≤n∧n≤8) && decide ((l.length:Int)≤10))):=by
 have hl1:=hl.1;intro d
 induction d with
 | zero=>
  intro i hi;refine bZ ?_;simp only[jo.l0];rw[ag5 aa,List.all_nil,ahg]
  by_cases h1:1≤n∧n≤8
  ·rw[aV h1,ahg]
   repeat (first|with_reducible exact bD _ |dsimp only |with_reducible refine bw (bQ ((mD n 1 8).trans (congrArg some (aV h1)))) ?_ |refine cS ?_ |refine cT ?_ |simp only[bne_self_eq_false,agV,agW,agP,agR]|rw[bU aa aa]|with_reducible exact(bQ ((mD n 1 8).trans (congrArg some (aV h1))))|((with_reducible refine bQ (congrArg some ?_));rfl))
  ·rw[cz h1,ahf]
   repeat (first|with_reducible exact bD _ |dsimp only |with_reducible refine bw (bQ ((mD n 1 8).trans (congrArg some (cz h1)))) ?_ |refine cS ?_ |refine cT ?_ |simp only[bne_self_eq_false,agV,agW,agP,agR]|rw[bU aa aa]|with_reducible exact(bQ ((mD n 1 8).trans (congrArg some (cz h1))))|((with_reducible refine bQ (congrArg some ?_));rfl))
 | succ d ih=>
  intro i hi;refine bZ ?_;simp only[jo.l0];rw[ag4 (by omega:i<l.length),ahG,oO aa,ep aa];generalize l[i]=e;have:=ih (i+1) aa;unfold xD at this ⊢
  by_cases h2:(e.length:Int)=2
  ·rw[aV (show e.length=2 by omega),ahg]
   by_cases ha:0≤rd e 0∧rd e 0≤wrap64 (n - 1)
   ·by_cases hb:0≤rd e 1∧rd e 1≤wrap64 (n - 1)
    ·rw[aV ha,aV hb,ahg,ahg]
     repeat (first|with_reducible exact bD _ |dsimp only |with_reducible refine bw (bQ ((mD _ _ _).trans (congrArg some (aV ha)))) ?_ |with_reducible refine bw (bQ ((mD _ _ _).trans (congrArg some (aV hb)))) ?_ |refine cS ?_ |refine cT ?_ |simp only[bne_self_eq_false,agV,agW,agP,agR]|rw[bU aa aa]|with_reducible exact(bQ ((mD _ _ _).trans (congrArg some (aV ha))))|with_reducible exact(bQ ((mD _ _ _).trans (congrArg some (aV hb))))|((with_reducible refine bQ (congrArg some ?_));rfl))
     exact this
    ·rw[cz hb,ahH,ahf,ahf]
     repeat (first|with_reducible exact bD _ |dsimp only |with_reducible refine bw (bQ ((mD _ _ _).trans (congrArg some (aV ha)))) ?_ |with_reducible refine bw (bQ ((mD _ _ _).trans (congrArg some (cz hb)))) ?_ |refine cS ?_ |refine cT ?_ |simp only[bne_self_eq_false,agV,agW,agP,agR]|rw[bU aa aa]|with_reducible exact(bQ ((mD _ _ _).trans (congrArg some (aV ha))))|with_reducible exact(bQ ((mD _ _ _).trans (congrArg some (cz hb))))|((with_reducible refine bQ (congrArg some ?_));rfl))
   ·rw[cz ha,ahf,ahf,ahf]
    repeat (first|with_reducible exact bD _ |dsimp only |with_reducible refine bw (bQ ((mD _ _ _).trans (congrArg some (cz ha)))) ?_ |refine cS ?_ |refine cT ?_ |simp only[bne_self_eq_false,agV,agW,agP,agR]|rw[bU aa aa]|with_reducible exact(bQ ((mD _ _ _).trans (congrArg some (cz ha))))|((with_reducible refine bQ (congrArg some ?_));rfl))
  ·rw[cz (show ¬e.length=2 by omega),ahf,ahf,ahf]
   repeat (first|with_reducible exact bD _ |dsimp only |refine cS ?_ |refine cT ?_ |simp only[bne_self_eq_false,agV,agW,agP,agR]|rw[bU aa aa]|((with_reducible refine bQ (congrArg some ?_));rfl))

theorem zH (n:Int) (l:List (List Int)) (hl:Mod l):Ev (fun k=>jo.f k n l) (e5 n l):=by
 unfold jo.f;exact RB n l hl l.length 0 aa

theorem GH {α:Type} {e:List α} (h:e.length=2): ∃a b,e= [a,b]:=by
 match e,h with
 | [a,b],_=>exact⟨a,b,rfl⟩

theorem zB (n:Int) (l:List (List Int)):e5 n l=true↔1≤n∧n≤8∧l.length≤10∧∀e∈l,∃a b:Int,e= [a,b]∧0≤a∧a<n∧0≤b∧b<n:=by
 unfold e5;rw[ahh,ahh,decide_eq_true_iff,decide_eq_true_iff,ah2]
 constructor
 ·rintro⟨h,⟨h1,h2⟩,h3⟩
  refine⟨h1,h2,by omega,fun e he=> ?_⟩;have:=h e he;unfold xD at this;rw[ahh,ahh,decide_eq_true_iff,decide_eq_true_iff,decide_eq_true_iff,bU aa aa]at this;obtain⟨he2,ha,hb⟩:=this;obtain⟨a,b,rfl⟩:=GH he2;simp only[show rd [a,b] 0=a from rfl,show rd [a,b] 1=b from rfl]at ha hb;exact⟨a,b,rfl,by omega,by omega,by omega,by omega⟩
 ·rintro⟨h1,h2,h3,h⟩
  refine⟨fun e he=> ?_,⟨h1,h2⟩,by omega⟩;obtain⟨a,b,rfl,h4,h5,h6,h7⟩:=h e he;unfold xD;rw[ahh,ahh,decide_eq_true_iff,decide_eq_true_iff,decide_eq_true_iff,bU aa aa];simp only[show rd [a,b] 0=a from rfl,show rd [a,b] 1=b from rfl];exact⟨rfl,by omega,by omega⟩
theorem GV {n:Int} {l:List (List Int)} (h:e5 n l=true) {i:Nat} (hi:i<l.length):
  (aM l (i:Int)).length=2∧∃a b:Nat,rd (aM l (i:Int)) 0=a∧rd (aM l (i:Int)) 1=b∧(a:Int)<n∧(b:Int)<n:=by
 rw[oO hi];obtain⟨h1,h2,h3,h4⟩:=(zB n l).1 h;obtain⟨a,b,e,ha,ha',hb,hb'⟩:=h4 _ (agX hi);rw[e];refine⟨rfl,a.toNat,b.toNat, ?_, ?_,by omega,by omega⟩
 ·show a=_
  omega
 ·show b=_
  omega

theorem fL {n:Int} {l:List (List Int)} (h:e5 n l=true):1≤n∧n≤8∧l.length≤10:=by
 obtain⟨h1,h2,h3,h4⟩:=(zB n l).1 h;exact⟨h1,h2,h3⟩

def tl (l:List (List Int)) (p:Nat):Int:=if p % 2=1 then rd (aM l ((p / 2:Nat):Int)) 1 else rd (aM l ((p / 2:Nat):Int)) 0
def hd (l:List (List Int)) (p:Nat):Int:=if p % 2=1 then rd (aM l ((p / 2:Nat):Int)) 0 else rd (aM l ((p / 2:Nat):Int)) 1
def inv (p:Nat):Nat:=if p % 2=0 then p+1 else p - 1
def next (l:List (List Int)) (p q:Nat):Bool:=decide (hd l p=tl l q) && decide (q≠inv p)

theorem half (p:Nat) (h:p<1000):wrap64 (Int.tdiv (p:Int) 2)=((p / 2:Nat):Int):=by
 rw[Int.tdiv_eq_ediv_of_nonneg aa,bU aa aa]
 omega

theorem GW (p:Nat):Int.tmod (p:Int) 2=((p % 2:Nat):Int):=by
 rw[aie aa]
 omega

theorem EK (p:Nat) (h:p<20):Go.bits .xor .i64 (p:Int) 1=((inv p:Nat):Int):=by
 have: ∀q:Fin 20,Go.bits .xor .i64 (q.val:Int) 1=((inv q.val:Nat):Int):=by decide
 exact this ⟨p,h⟩

section
variable {n:Int} {l:List (List Int)} (h:e5 n l=true)
include h

theorem xE {p:Nat} (hp:p<2*l.length):kE.f n l (p:Int)=some (tl l p,hd l p):=by
 obtain⟨g1,g2,g3⟩:=fL h;obtain⟨e2,a,b,ea,eb,ha,hb⟩:=GV h (show p / 2<l.length by omega);unfold kE.f tl hd;rw[half p aa,GW,aC aa,aC aa]
 by_cases c:p % 2=1
 ·rw[aC (show((p % 2:Nat):Int)=1 by omega),aC aa,aC aa,aC c,aC c]
 ·rw[aA (show ¬((p % 2:Nat):Int)=1 by omega),aC aa,aC aa,aA c,aA c]

theorem sI {p:Nat} (hp:p<2*l.length):iC.f n l (p:Int)=some (tl l p,hd l p):=by
 obtain⟨g1,g2,g3⟩:=fL h;obtain⟨e2,a,b,ea,eb,ha,hb⟩:=GV h (show p / 2<l.length by omega);unfold iC.f tl hd;rw[half p aa,GW,bU (x:=1 - ((p % 2:Nat):Int)) aa aa,aC aa,aC aa,aC aa,aC aa,aC aa,aC aa]
 by_cases c:p % 2=1
 ·rw[aC c,aC c,c]
  rfl
 ·rw[aA c,aA c,show p % 2=0 by omega]
  rfl

theorem Mh {p q:Nat} (hp:p<2*l.length) (hq:q<2*l.length):qI.f n l (p:Int) (q:Int)=some (next l p q):=by
 obtain⟨g1,g2,g3⟩:=fL h;unfold qI.f next;rw[sI h hp,sI h hq,ag8,ag8,EK p aa]
 by_cases c:hd l p=tl l q
 ·rw[aC c.symm,aV c,ahg]
  by_cases c2:q=inv p
  ·rw[c2];simp
  ·simp[c2,bne]
   omega
 ·rw[aA (fun e=>c e.symm),cz c,ahf]

end
def zeros (n:Nat):List (List Int):=ahl n (ahl n 0)

theorem RC {α:Type} (n:Nat) (x:α):ahl n x++[x]=ahl (n+1) x:=List.replicate_succ'.symm

theorem EL (n:Int) (h0:0≤n) (h1:n≤1000):Ev (fun k=>kr.f k n) (zeros n.toNat):=by
 have: ∀(d v:Nat),(v:Int)+d=n→Ev (fun k=>kr.l0 k n (ahl v (ahl n.toNat 0)) n (v:Int)) (zeros n.toNat):=by
  intro d
  induction d with
  | zero=>
   intro v hv;refine bZ ?_;simp only[kr.l0];rw[show v=n.toNat by omega]
   repeat (first|with_reducible exact bD _ |dsimp only |refine cS ?_ |refine cT ?_ |simp only[bne_self_eq_false,agV,agW,agP,agR]|rw[bU aa aa]|((with_reducible refine bQ (congrArg some ?_));rfl))
  | succ d ih=>
   intro v hv;have:=ih (v+1) aa;rw[← RC]at this;refine bZ ?_;simp only[kr.l0];rw[ep aa];refine bq aa ?_;refine bq aa ?_;refine bq aa ?_;refine bq (by simp;omega) ?_;exact this
 exact this n.toNat 0 aa

def Sm:Nat→(Nat→Int)→Int
 | 0,_=>0
 | n+1,f=>Sm n f+f n

theorem jq {n:Nat} {f g:Nat→Int} (h: ∀i,i<n→f i=g i):Sm n f=Sm n g:=by
 induction n with
 | zero=>rfl
 | succ n ih=>unfold Sm;rw[ih (fun i hi=>h i aa),h n aa]

theorem vq (n:Nat) (f g:Nat→Int):Sm n (fun i=>f i+g i)=Sm n f+Sm n g:=by
 induction n with
 | zero=>rfl
 | succ n ih=>
  show Sm n (fun i=>f i+g i)+(f n+g n)=Sm n f+f n+(Sm n g+g n)
  rw[ih];omega

theorem Mj (n:Nat) (c:Int) (f:Nat→Int):Sm n (fun i=>c*f i)=c*Sm n f:=by
 induction n with
 | zero=>simp[Sm]
 | succ n ih=>unfold Sm;rw[ih,Int.mul_add]

theorem GX (n:Nat) (c:Int) (f:Nat→Int):Sm n (fun i=>f i*c)=Sm n f*c:=by
 induction n with
 | zero=>simp[Sm]
 | succ n ih=>unfold Sm;rw[ih,ahI]

theorem vr (n:Nat):Sm n (fun _=>0)=0:=by
 induction n with
 | zero=>rfl
 | succ n ih=>unfold Sm;rw[ih];rfl

theorem BJ (n m:Nat) (f:Nat→Nat→Int):Sm n (fun i=>Sm m (fun j=>f i j))=Sm m (fun j=>Sm n (fun i=>f i j)):=by
 induction n with
 | zero=>exact(vr m).symm
 | succ n ih=>
  show Sm n (fun i=>Sm m (fun j=>f i j))+Sm m (fun j=>f n j)=_
  rw[ih,← vq]
  rfl

theorem zI {n:Nat} {f:Nat→Int} {b:Int} (h: ∀i,i<n→f i≤b):Sm n f≤n*b:=by
 induction n with
 | zero=>simp[Sm]
 | succ n ih=>
  have h1:=ih (fun i hi=>h i aa);have h2:=h n aa;unfold Sm;rw[Int.natCast_add,ahI]
  omega

theorem uh {n:Nat} {f:Nat→Int} (h: ∀i,i<n→0≤f i):0≤Sm n f:=by
 induction n with
 | zero=>simp[Sm]
 | succ n ih=>
  have h1:=ih (fun i hi=>h i aa);have h2:=h n aa;unfold Sm
  omega

def mul (n:Nat) (a b:Nat→Nat→Int):Nat→Nat→Int:=fun i j=>Sm n (fun k=>a i k*b k j)

def tr (n:Nat) (a:Nat→Nat→Int):Int:=Sm n (fun i=>a i i)

def pw (n:Nat) (a:Nat→Nat→Int):Nat→Nat→Nat→Int
 | 0=>a
 | p+1=>mul n (pw n a p) a

def lI (m:List (List Int)) (i j:Nat):Int:=rd (aM m (i:Int)) (j:Int)

def rowOf (n:Nat) (f:Nat→Int):List Int:=(ahe n).map f

def ofFn (n:Nat) (f:Nat→Nat→Int):List (List Int):=(ahe n).map (fun i=>rowOf n (f i))

theorem jQ (n:Nat) (f:Nat→Int):(rowOf n f).length=n:=by simp[rowOf]

theorem oS {n i:Nat} (f:Nat→Int) (h:i<n):rd (rowOf n f) (i:Int)=f i:=RD f h

theorem oT {n:Nat} {f g:Nat→Int} (h: ∀i,i<n→f i=g i):rowOf n f=rowOf n g:=by
 unfold rowOf;exact ahJ (fun i hi=>h i (ahi.1 hi))

theorem zJ {n i:Nat} (f:Nat→Int) (v:Int) (h:i<n):(rowOf n f).set i v=rowOf n (fun j=>if j=i then v else f j):=by
 refine xp (by rw[ah3,jQ,jQ]) (fun j hj=> ?_);rw[ah3,jQ]at hj;rw[EM (by rw[jQ];exact h),oS _ hj,oS _ hj]

theorem xF (n:Nat):rowOf n (fun _=>0)=ahl n 0:=by
 refine xp (by rw[jQ,List.length_replicate]) (fun j hj=> ?_);rw[jQ]at hj;rw[oS _ hj,Mo]

theorem nV (n:Nat) (f:Nat→Nat→Int):(ofFn n f).length=n:=by simp[ofFn]

theorem qj {n i:Nat} (f:Nat→Nat→Int) (h:i<n):aM (ofFn n f) (i:Int)=rowOf n (f i):=by
 rw[oO (by rw[nV];exact h)];simp[ofFn]

theorem GY {n i j:Nat} (f:Nat→Nat→Int) (hi:i<n) (hj:j<n):lI (ofFn n f) i j=f i j:=by
 unfold lI;rw[qj f hi,oS _ hj]

theorem qJ {n:Nat} {f g:Nat→Nat→Int} (h: ∀i j,i<n→j<n→f i j=g i j):ofFn n f=ofFn n g:=by
 unfold ofFn;exact ahJ (fun i hi=>oT (fun j hj=>h i j (ahi.1 hi) hj))

theorem GZ {n i:Nat} (f:Nat→Nat→Int) (r:Nat→Int) (h:i<n):(ofFn n f).set i (rowOf n r)=ofFn n (fun k=>if k=i then r else f k):=by
 apply List.ext_getElem
 ·rw[ah3,nV,nV]
 ·intro k h1 h2
  rw[nV]at h2;simp only[List.getElem_set,ofFn,List.getElem_map,ahU]
  by_cases e:k=i
  ·subst e;simp
  ·rw[aA (fun x=>e x.symm),aA e]

def Sq (n:Nat) (m:List (List Int)):Prop:=m.length=n∧∀i:Nat,i<n→(aM m (i:Int)).length=n

theorem Mp (n:Nat) (f:Nat→Nat→Int):Sq n (ofFn n f):=⟨nV n f,fun i hi=>by rw[qj f hi,jQ]⟩

theorem G0 (a b:Int):wrap64 (wrap64 a+wrap64 b)=wrap64 (a+b):=by
 unfold wrap64
 omega

theorem EI (a b:Int):wrap64 (wrap64 a+b)=wrap64 (a+b):=by
 unfold wrap64
 omega

theorem Mq (a:Int): -9223372036854775808≤wrap64 a∧wrap64 a≤9223372036854775807:=by
 unfold wrap64
 omega

def mE (l:List (List Int)) (p:Nat):Nat→List Int
 | 0=>ahl (2*l.length) 0
 | q+1=>if next l p q=true then (mE l p q).set q 1 else mE l p q

def qK (l:List (List Int)) (n:Nat):List (List Int):=(ahe n).map (fun p=>mE l p (2*l.length))

theorem EN (l:List (List Int)) (p q:Nat):(mE l p q).length=2*l.length:=by
 induction q with
 | zero=>simp[mE]
 | succ q ih=>unfold mE;split<;>simp[ih]

theorem zK (l:List (List Int)) (n:Nat):(qK l n).length=n:=by simp[qK]

theorem Mu (l:List (List Int)) (n:Nat):qK l (n+1)=qK l n++[mE l n (2*l.length)]:=xG _ _

theorem RE (l:List (List Int)) (p:Nat): ∀(q j:Nat),q≤2*l.length→rd (mE l p q) (j:Int)=if j<q∧next l p j=true then 1 else 0:=by
 intro q
 induction q with
 | zero=>
  intro j _;rw[aA aa];exact Mo _ _
 | succ q ih=>
  intro j hq;have hl:=EN l p q;unfold mE
  by_cases c:next l p q=true
  ·rw[aC c,EM aa]
   by_cases e:j=q
   ·subst e
    rw[aC rfl,aC ⟨by omega,c⟩]
   ·rw[aA e,ih j aa]
    by_cases c2:j<q∧next l p j=true
    ·rw[aC c2,aC ⟨by omega,c2.2⟩]
    ·rw[aA c2,aA (fun x=>c2 ⟨by omega,x.2⟩)]
  ·rw[aA c,ih j aa]
   by_cases c2:j<q∧next l p j=true
   ·rw[aC c2,aC ⟨by omega,c2.2⟩]
   ·rw[aA c2,aA (fun x=> ?_)]
    by_cases e:j=q
    ·subst e;exact c x.2
    ·exact c2 ⟨by omega,x.2⟩

theorem BL {l:List (List Int)} {p q:Nat}:next l p q=true↔hd l p=tl l q∧q≠inv p:=by
 unfold next;rw[ahh,decide_eq_true_iff,decide_eq_true_iff]

def stage (l:List (List Int)) (p q:Nat):List (List Int):=qK l p++mE l p q :: ahl (2*l.length - (p+1)) (ahl (2*l.length) 0)

theorem RF (l:List (List Int)) (p q:Nat) (h:p<2*l.length):(stage l p q).length=2*l.length:=by
 simp[stage,zK];omega

theorem RG (l:List (List Int)) (p q:Nat):aM (stage l p q) (p:Int)=mE l p q:=by
 unfold stage;rw[oO (by simp[zK])];rw[aif (by rw[zK];omega)];simp[zK]

theorem RH (l:List (List Int)) (p q:Nat) (r:List Int):(stage l p q).set p r=qK l p++r :: ahl (2*l.length - (p+1)) (ahl (2*l.length) 0):=by
 unfold stage;rw[List.set_append_right _ _ (by rw[zK];omega),zK,Nat.sub_self,List.set_cons_zero]

theorem RI (l:List (List Int)):0<2*l.length→stage l 0 0=zeros (2*l.length):=by
 intro h;unfold stage qK zeros mE;rw[show 2*l.length - (0+1)=2*l.length - 1 by omega];simp only[List.range_zero,List.map_nil,ag9];rw[← List.replicate_succ,Nat.sub_add_cancel aa]

theorem RJ (l:List (List Int)) (p:Nat) (h:p+1<2*l.length):stage l p (2*l.length)=stage l (p+1) 0:=by
 unfold stage;rw[Mu,show 2*l.length - (p+1)=(2*l.length - (p+1+1))+1 by omega,List.replicate_succ,ahc]
 rfl

theorem RK (l:List (List Int)) (p:Nat) (h:p+1=2*l.length):stage l p (2*l.length)=qK l (2*l.length):=by
 unfold stage;rw[show 2*l.length - (p+1)=0 by omega,List.replicate_zero,← Mu,h]

section
variable {n:Int} {l:List (List Int)} (h:e5 n l=true)
include h

theorem Mv (p:Nat) (hp:p<2*l.length) (r:List (List Int)) (hr:Ev (fun k=>iM.l0 k (stage l p (2*l.length)) (2*(l.length:Int)) ((p+1:Nat):Int) n l) r):
  ∀(d q:Nat),q+d=2*l.length→Ev (fun k=>iM.l1 k (stage l p q) (p:Int) (hd l p) (2*(l.length:Int)) (p:Int) (2*(l.length:Int)) (q:Int) n l) r:=by
 obtain⟨g1,g2,g3⟩:=fL h;intro d
 induction d with
 | zero=>
  intro q hq;have e:q=2*l.length:=by omega
  refine bZ ?_;simp only[iM.l1];rw[ep (i:=p) aa,e]
  repeat (first|with_reducible exact bD _ |dsimp only |refine cS ?_ |refine cT ?_ |simp only[bne_self_eq_false,agV,agW,agP,agR]|rw[bU aa aa]|((with_reducible refine bQ (congrArg some ?_));rfl))
  exact hr
 | succ d ih=>
  intro q hq;have hi:=ih (q+1) aa;have he:=sI h (show q<2*l.length by omega);have hx:=EK p aa;have hlen:=EN l p q;have hs:=RF l p q hp;refine bZ ?_;simp only[iM.l1];rw[ep (i:=q) aa,hx,RG]
  by_cases c:next l p q=true
  ·have e2:(stage l p q).set p ((mE l p q).set q 1)=stage l p (q+1):=by
    rw[RH];unfold stage;rw[show mE l p (q+1)=(if next l p q=true then (mE l p q).set q 1 else mE l p q) from rfl,aC c]
   obtain⟨c1,c2⟩:=BL.1 c;rw[agQ,agQ,e2]
   repeat (first|with_reducible exact bD _ |dsimp only |with_reducible refine bw (bQ he) ?_ |refine cS ?_ |refine cT ?_ |simp only[bne_self_eq_false,agV,agW,agP,agR]|rw[bU aa aa]|with_reducible exact(bQ he)|((with_reducible refine bQ (congrArg some ?_));rfl))
   exact hi
  ·have e2:stage l p q=stage l p (q+1):=by
    unfold stage;rw[show mE l p (q+1)=(if next l p q=true then (mE l p q).set q 1 else mE l p q) from rfl,aA c]
   rw[← e2]at hi
   by_cases c1:hd l p=tl l q
   ·have c2:q=inv p:=by
     apply Classical.byContradiction;intro e;exact c (BL.2 ⟨c1,e⟩)
    repeat (first|with_reducible exact bD _ |dsimp only |with_reducible refine bw (bQ he) ?_ |refine cS ?_ |refine cT ?_ |simp only[bne_self_eq_false,agV,agW,agP,agR]|rw[bU aa aa]|with_reducible exact(bQ he)|((with_reducible refine bQ (congrArg some ?_));rfl))
    exact hi
   ·repeat (first|with_reducible exact bD _ |dsimp only |with_reducible refine bw (bQ he) ?_ |refine cS ?_ |refine cT ?_ |simp only[bne_self_eq_false,agV,agW,agP,agR]|rw[bU aa aa]|with_reducible exact(bQ he)|((with_reducible refine bQ (congrArg some ?_));rfl))
    exact hi

theorem RL:Ev (fun k=>iM.f k n l) (qK l (2*l.length)):=by
 obtain⟨g1,g2,g3⟩:=fL h;have main: ∀(d p:Nat),p+1+d=2*l.length→Ev (fun k=>iM.l0 k (stage l p 0) (2*(l.length:Int)) (p:Int) n l) (qK l (2*l.length)):=by
  intro d
  induction d with
  | zero=>
   intro p hp;have he:=sI h (show p<2*l.length by omega);refine bZ ?_;simp only[iM.l0];unfold kY.f
   repeat (first|with_reducible exact bD _ |dsimp only |with_reducible refine bw (bQ he) ?_ |with_reducible refine bw (bD _) ?_ |refine cS ?_ |refine cT ?_ |simp only[bne_self_eq_false,agV,agW,agP,agR]|rw[bU aa aa]|with_reducible exact(bQ he)|with_reducible exact(bD _)|((with_reducible refine bQ (congrArg some ?_));rfl))
   refine Mv h p aa _ ?_ (2*l.length) 0 aa;rw[RK l p aa];refine bZ ?_;simp only[iM.l0]
   repeat (first|with_reducible exact bD _ |dsimp only |refine cS ?_ |refine cT ?_ |simp only[bne_self_eq_false,agV,agW,agP,agR]|rw[bU aa aa]|((with_reducible refine bQ (congrArg some ?_));rfl))
  | succ d ih=>
   intro p hp;have hi:=ih (p+1) aa;have he:=sI h (show p<2*l.length by omega);refine bZ ?_;simp only[iM.l0];unfold kY.f
   repeat (first|with_reducible exact bD _ |dsimp only |with_reducible refine bw (bQ he) ?_ |with_reducible refine bw (bD _) ?_ |refine cS ?_ |refine cT ?_ |simp only[bne_self_eq_false,agV,agW,agP,agR]|rw[bU aa aa]|with_reducible exact(bQ he)|with_reducible exact(bD _)|((with_reducible refine bQ (congrArg some ?_));rfl))
   refine Mv h p aa _ ?_ (2*l.length) 0 aa;rw[RJ l p aa];exact hi
 unfold iM.f kY.f;refine bw (bD _) ?_;rw[bU (x:=2*(l.length:Int)) aa aa];refine bw (EL (2*(l.length:Int)) aa aa) ?_;refine bw (bD _) ?_;rw[bU (x:=2*(l.length:Int)) aa aa];rw[show(2*(l.length:Int)).toNat=2*l.length by omega]
 by_cases e:l.length=0
 ·refine bZ ?_;simp only[iM.l0]
  refine cD aa ?_;refine bQ (congrArg some ?_);rw[e]
  rfl
 ·rw[← RI l aa]
  exact main (2*l.length - 1) 0 aa

end
section
variable (n:Nat) (hn:n≤1000) (a b:List (List Int)) (ha:Sq n a) (hb:Sq n b)

def part (k i j:Nat):Int:=wrap64 (Sm k (fun m=>lI a i m*lI b m j))

def rt (i k j:Nat):List (List Int):=ofFn n (fun p q=>if p<i then part a b n p q else if p=i then (if q<j then part a b (k+1) p q else part a b k p q) else 0)

theorem RM (i k:Nat):rt n a b i k n=rt n a b i (k+1) 0:=by
 refine qJ (fun p q hp hq=> ?_)
 by_cases c:p<i
 ·simp only[aC c]
 ·by_cases e:p=i
  ·simp only[aA c,aC e,aC hq,aA (Nat.not_lt_zero q)]
  ·simp only[aA c,aA e]

theorem My (i j:Nat):part a b 0 i j=0:=by
 unfold part Sm;exact bU az az

theorem RN (i:Nat):rt n a b i n 0=rt n a b (i+1) 0 0:=by
 refine qJ (fun p q hp hq=> ?_)
 by_cases c:p<i
 ·rw[aC c,aC aa]
 ·by_cases e:p=i
  ·rw[aA c,aC e,aA aa,aC aa]
  ·rw[aA c,aA e,aA aa]
   by_cases e2:p=i+1
   ·rw[aC e2,aA aa,My]
   ·rw[aA e2]

theorem RO (k i j:Nat) (h:lI a i k=0):part a b (k+1) i j=part a b k i j:=by
 unfold part;rw[show Sm (k+1) (fun m=>lI a i m*lI b m j)=Sm k (fun m=>lI a i m*lI b m j)+lI a i k*lI b k j from rfl,h,aht,aho]

theorem RP (i k:Nat) (h:lI a i k=0):rt n a b i k 0=rt n a b i (k+1) 0:=by
 refine qJ (fun p q hp hq=> ?_)
 by_cases c:p<i
 ·simp only[aC c]
 ·by_cases e:p=i
  ·subst e
   simp only[aA c,aC,aA (Nat.not_lt_zero q),RO a b k p q h]
  ·simp only[aA c,aA e]

theorem RQ (k i j:Nat):wrap64 (part a b k i j+wrap64 (lI a i k*lI b k j))=part a b (k+1) i j:=by
 unfold part;rw[G0]
 rfl

theorem G1 (i k j:Nat):(rt n a b i k j).length=n:=nV _ _

theorem G2 {i:Nat} (k j:Nat) (hi:i<n):aM (rt n a b i k j) (i:Int)=rowOf n (fun q=>if q<j then part a b (k+1) i q else part a b k i q):=by
 unfold rt;rw[qj _ hi];refine oT (fun q hq=> ?_);rw[aA (Nat.lt_irrefl i),aC rfl]

theorem RR {i j:Nat} (k:Nat) (hi:i<n) (hj:j<n):(rt n a b i k j).set i ((aM (rt n a b i k j) (i:Int)).set j (wrap64 (rd (aM (rt n a b i k j) (i:Int)) (j:Int)+wrap64 (lI a i k*lI b k j))))=rt n a b i k (j+1):=by
 rw[G2 n a b k j hi,oS _ hj,aA (Nat.lt_irrefl j),RQ,zJ _ _ hj];unfold rt;rw[GZ _ _ hi];refine qJ (fun p q hp hq=> ?_)
 by_cases e:p=i
 ·subst e
  rw[aC rfl,aA (Nat.lt_irrefl p),aC rfl]
  by_cases e2:q=j
  ·subst e2
   rw[aC rfl,aC aa]
  ·rw[aA e2]
   by_cases c:q<j
   ·rw[aC c,aC aa]
   ·rw[aA c,aA aa]
 ·rw[aA e]
  by_cases c:p<i
  ·rw[aC c,aC c]
  ·rw[aA c,aA c,aA e,aA e]

include hn ha hb

theorem RS (i k:Nat) (hi:i<n) (hk:k<n) (r:List (List Int)) (hr:Ev (fun f=>gx.l1 f b (rt n a b i k n) (i:Int) a (n:Int) (i:Int) (aM a (i:Int)) (n:Int) ((k+1:Nat):Int)) r):
  ∀(d j:Nat),j+d=n→Ev (fun f=>gx.l2 f b (rt n a b i k j) (i:Int) (lI a i k) a (n:Int) (i:Int) (aM a (i:Int)) (n:Int) (k:Int) (aM b (k:Int)) (n:Int) (j:Int)) r:=by
 have hbl:=hb.2 k hk;intro d
 induction d with
 | zero=>
  intro j hj;have e:j=n:=by omega
  subst e;refine bZ ?_;simp only[gx.l2];rw[ep (i:=k) aa]
  repeat (first|with_reducible exact bD _ |dsimp only |refine cS ?_ |refine cT ?_ |simp only[bne_self_eq_false,agV,agW,agP,agR]|rw[bU aa aa]|((with_reducible refine bQ (congrArg some ?_));rfl))
  exact hr
 | succ d ih=>
  intro j hj;have h1:=ih (j+1) aa;have hl:=G1 n a b i k j;have hrow:(aM (rt n a b i k j) (i:Int)).length=n:=by rw[G2 n a b k j hi,jQ]
  have hset:=RR n a b (i:=i) (j:=j) k hi aa;refine bZ ?_;simp only[gx.l2];rw[show rd (aM b (k:Int)) (j:Int)=lI b k j from rfl,agQ,agQ,hset,ep (i:=j) aa]
  repeat (first|with_reducible exact bD _ |dsimp only |refine cS ?_ |refine cT ?_ |simp only[bne_self_eq_false,agV,agW,agP,agR]|rw[bU aa aa]|((with_reducible refine bQ (congrArg some ?_));rfl))
  exact h1

theorem RT (i:Nat) (hi:i<n) (r:List (List Int)) (hr:Ev (fun f=>gx.l0 f b (rt n a b (i+1) 0 0) a (n:Int) ((i+1:Nat):Int)) r):
  ∀(d k:Nat),k+d=n→Ev (fun f=>gx.l1 f b (rt n a b i k 0) (i:Int) a (n:Int) (i:Int) (aM a (i:Int)) (n:Int) (k:Int)) r:=by
 have hal:=ha.2 i hi;have hbl:=hb.1;intro d
 induction d with
 | zero=>
  intro k hk;have e:k=n:=by omega
  refine bZ ?_;simp only[gx.l1];rw[e,RN,ep (i:=i) aa]
  repeat (first|with_reducible exact bD _ |dsimp only |refine cS ?_ |refine cT ?_ |simp only[bne_self_eq_false,agV,agW,agP,agR]|rw[bU aa aa]|((with_reducible refine bQ (congrArg some ?_));rfl))
  exact hr
 | succ d ih=>
  intro k hk;have h1:=ih (k+1) aa;have hbk:=hb.2 k aa;refine bZ ?_;simp only[gx.l1];rw[show rd (aM a (i:Int)) (k:Int)=lI a i k from rfl,ep (i:=k) aa]
  by_cases c:lI a i k=0
  ·rw[← RP n a b i k c]at h1
   repeat (first|with_reducible exact bD _ |dsimp only |refine cS ?_ |refine cT ?_ |simp only[bne_self_eq_false,agV,agW,agP,agR]|rw[bU aa aa]|((with_reducible refine bQ (congrArg some ?_));rfl))
   exact h1
  ·rw[← RM]at h1
   repeat (first|with_reducible exact bD _ |dsimp only |refine cS ?_ |refine cT ?_ |simp only[bne_self_eq_false,agV,agW,agP,agR]|rw[bU aa aa]|((with_reducible refine bQ (congrArg some ?_));rfl))
   rw[hbk];exact RS n hn a b ha hb i k hi aa r h1 n 0 aa

theorem RU: ∀(d i:Nat),i+d=n→Ev (fun f=>gx.l0 f b (rt n a b i 0 0) a (n:Int) (i:Int)) (ofFn n (part a b n)):=by
 have hal:=ha.1;intro d
 induction d with
 | zero=>
  intro i hi;refine bZ ?_;simp only[gx.l0];have e:rt n a b i 0 0=ofFn n (part a b n):=qJ (fun p q hp hq=>aC aa);rw[e]
  repeat (first|with_reducible exact bD _ |dsimp only |refine cS ?_ |refine cT ?_ |simp only[bne_self_eq_false,agV,agW,agP,agR]|rw[bU aa aa]|((with_reducible refine bQ (congrArg some ?_));rfl))
 | succ d ih=>
  intro i hi;have h1:=ih (i+1) aa;have hai:=ha.2 i aa;refine bZ ?_;simp only[gx.l0]
  repeat (first|with_reducible exact bD _ |dsimp only |refine cS ?_ |refine cT ?_ |simp only[bne_self_eq_false,agV,agW,agP,agR]|rw[bU aa aa]|((with_reducible refine bQ (congrArg some ?_));rfl))
  rw[hai];exact RT n hn a b ha hb i aa _ h1 n 0 aa

theorem RV:Ev (fun f=>gx.f f a b) (ofFn n (part a b n)):=by
 unfold gx.f;rw[ha.1];refine bw (EL (n:Int) aa aa) ?_;have e:zeros (n:Int).toNat=rt n a b 0 0 0:=by
  rw[agQ];apply List.ext_getElem
  ·rw[G1];simp[zeros]
  ·intro k h1 h2
   rw[G1]at h2;rw[← oO,← oO]
   ·by_cases e:k=0
    ·subst e
     rw[G2 n a b 0 0 h2,oO h1];simp only[zeros,List.getElem_replicate];rw[← xF];refine oT (fun q hq=> ?_);rw[aA aa,My]
    ·unfold rt
     rw[qj _ h2,oO h1];simp only[zeros,List.getElem_replicate];rw[← xF];refine oT (fun q hq=> ?_);rw[aA aa,aA e]
 rw[e];exact RU n hn a b ha hb n 0 aa

end

def W (l:List (List Int)) (p q:Nat):Int:=if next l p q=true then 1 else 0

theorem rN (l:List (List Int)) (p q:Nat):0≤W l p q∧W l p q≤1:=by
 unfold W
 split<;>decide

theorem RW (l:List (List Int)):qK l (2*l.length)=ofFn (2*l.length) (W l):=by
 unfold qK ofFn;refine ahJ (fun p hp=> ?_);refine xp (by rw[EN,jQ]) (fun j hj=> ?_);rw[EN]at hj;rw[RE l p _ j (ahp _),oS _ hj];unfold W
 by_cases c:next l p j=true
 ·rw[aC c,aC ⟨hj,c⟩]
 ·rw[aA c,aA (fun e=>c e.2)]

def vec (l:List (List Int)) (N p:Nat):Nat→Nat→Int
 | 0,q=>if q=p then 1 else 0
 | j+1,q=>Sm N (fun r=>vec l N p j r*W l r q)

theorem BM (l:List (List Int)) (N p:Nat) (hN:N≤20): ∀j q,0≤vec l N p j q∧vec l N p j q≤20 ^ j:=by
 intro j
 induction j with
 | zero=>
  intro q;unfold vec
  split<;>decide
 | succ j ih=>
  intro q;unfold vec;have hle: ∀r,r<N→vec l N p j r*W l r q≤20 ^ j:=fun r _=>by
   have h1:=ih r;have h2:=rN l r q;have:vec l N p j r*W l r q≤vec l N p j r*1:=ahu h2.2 h1.1
   omega
  refine⟨uh (fun r _=>ahV (ih r).1 (rN l r q).1), ?_⟩;have h3:=zI hle;have h4:(N:Int)*20 ^ j≤20*20 ^ j:=ah4 aa (Int.pow_nonneg az);rw[Int.pow_succ,Int.mul_comm (20 ^ j) 20]
  omega

theorem zL (N:Nat) (f:Nat→Int) {p:Nat} (hp:p<N):Sm N (fun r=>(if r=p then 1 else 0)*f r)=f p:=by
 induction N with
 | zero=>omega
 | succ N ih=>
  show Sm N (fun r=>(if r=p then 1 else 0)*f r)+(if N=p then 1 else 0)*f N=f p
  by_cases e:p=N
  ·subst e
   rw[aC rfl,Int.one_mul];have:Sm p (fun r=>(if r=p then 1 else 0)*f r)=Sm p (fun _=>0):=jq (fun i hi=>by rw[aA aa,aht]);rw[this,vr,Int.zero_add]
  ·rw[ih aa,aA aa,aht,aho]

theorem G3 (l:List (List Int)) (N:Nat) {p:Nat} (hp:p<N): ∀j q,vec l N p (j+1) q=pw N (W l) j p q:=by
 intro j
 induction j with
 | zero=>
  intro q
  show Sm N (fun r=>(if r=p then 1 else 0)*W l r q)=W l p q
  exact zL N (fun r=>W l r q) hp
 | succ j ih=>
  intro q
  show Sm N (fun r=>vec l N p (j+1) r*W l r q)=Sm N (fun r=>pw N (W l) j p r*W l r q)
  exact jq (fun r _=>by rw[ih r])

def rK (l:List (List Int)) (j:Nat):Int:=tr (2*l.length) (pw (2*l.length) (W l) j)

theorem MA {j:Nat} (h:j≤13):(20:Int) ^ j≤81920000000000000:=by
 have: ∀i:Fin 14,(20:Int) ^ i.val≤81920000000000000:=by decide
 exact this ⟨j,by omega⟩

theorem ug {n:Int} {l:List (List Int)} (h:e5 n l=true) {p q:Nat} (hp:p<2*l.length) (hq:q<2*l.length):jg.f n l (p:Int) (q:Int)=some (next l p q):=by
 obtain⟨g1,g2,g3⟩:=fL h;unfold jg.f next;rw[xE h hp,xE h hq,ag8,ag8,half p aa,half q aa]
 by_cases c:hd l p=tl l q
 ·rw[aC c,aV c,ahg]
  unfold inv
  by_cases c2:((p / 2:Nat):Int)=((q / 2:Nat):Int)
  ·rw[aC c2]
   by_cases c3:p=q
   ·rw[c3]
    simp
    split<;>omega
   ·rw[show((p:Int) == (q:Int))=false from beq_eq_false_iff_ne.2 aa]
    congr 1
    symm
    rw[decide_eq_false_iff_not,Decidable.not_not]
    split<;>omega
  ·rw[aA c2]
   congr 1
   symm
   rw[decide_eq_true_iff]
   split<;>omega
 ·rw[aA c,cz c,ahf]
section
variable {n:Int} {l:List (List Int)} (h:e5 n l=true)

def nW (l:List (List Int)) (N:Nat) (v:Nat→Int) (r q:Nat):List Int:=rowOf N (fun j=>if j<q then Sm (r+1) (fun m=>v m*W l m j) else Sm r (fun m=>v m*W l m j))

theorem RX (N:Nat) (v:Nat→Int) (r q:Nat):(nW l N v r q).length=N:=jQ _ _

theorem RY (N:Nat) (v:Nat→Int) (r:Nat):nW l N v r N=nW l N v (r+1) 0:=by
 refine oT (fun j hj=> ?_);rw[aC hj,aA aa]

theorem RZ (N:Nat) (v:Nat→Int) (r:Nat) (h0:v r=0):nW l N v r 0=nW l N v (r+1) 0:=by
 refine oT (fun j hj=> ?_);rw[aA aa,aA aa]
 show _=Sm r _+v r*W l r j
 rw[h0,aht,aho]

theorem R1 (N:Nat) (v:Nat→Int) (r q:Nat) (hq:q<N):rd (nW l N v r q) (q:Int)=Sm r (fun m=>v m*W l m q):=by
 unfold nW;rw[oS _ hq,aA aa]

theorem R2 (N:Nat) (v:Nat→Int) (r q:Nat) (hq:q<N):(nW l N v r q).set q (Sm (r+1) (fun m=>v m*W l m q))=nW l N v r (q+1):=by
 unfold nW;rw[zJ _ _ hq];refine oT (fun j hj=> ?_)
 by_cases e:j=q
 ·subst e
  rw[aC rfl,aC aa]
 ·rw[aA e]
  by_cases c:j<q
  ·rw[aC c,aC aa]
  ·rw[aA c,aA aa]

theorem R3 (N:Nat) (v:Nat→Int) (r q:Nat) (hc: ¬next l r q=true):nW l N v r q=nW l N v r (q+1):=by
 refine oT (fun j hj=> ?_)
 by_cases e:j=q
 ·subst e
  rw[aA aa,aC aa]
  show _=Sm r _+v r*W l r j
  unfold W;rw[aA hc,Int.mul_zero,aho]
 ·by_cases c:j<q
  ·rw[aC c,aC aa]
  ·rw[aA c,aA aa]

include h

theorem R4 (k:Int) (M:List (List Int)) (p:Int) (v:Nat→Int) (B:Int) (hB:B≤100000000000000000) (hv: ∀r,r<2*l.length→0≤v r∧v r≤B) (x9:Int) (res:List (List Int)) (hr:Ev (fun f=>dK.l1 f k (2*(l.length:Int)) M p (nW l (2*l.length) v (2*l.length) 0) (wrap64 (x9+1)) n l) res):
  ∀(d r:Nat),r+d=2*l.length→Ev (fun f=>dK.l2 f k (2*(l.length:Int)) M p (rowOf (2*l.length) v) x9 (nW l (2*l.length) v r 0) (r:Int) n l) res:=by
 obtain⟨g1,g2,g3⟩:=fL h;have hlen:(rowOf (2*l.length) v).length=2*l.length:=jQ _ _;intro d
 induction d with
 | zero=>
  intro r hr';have e:r=2*l.length:=by omega
  subst e;refine bZ ?_;simp only[dK.l2]
  repeat (first|with_reducible exact bD _ |dsimp only |refine cS ?_ |refine cT ?_ |simp only[bne_self_eq_false,agV,agW,agP,agR]|rw[bU aa aa]|((with_reducible refine bQ (congrArg some ?_));rfl))
  exact hr
 | succ d ih=>
  intro r hr';have h1:=ih (r+1) aa;have U9:=hv r aa;have U7:rd (rowOf (2*l.length) v) (r:Int)=v r:=oS _ aa;have U8: ∀j,0≤Sm r (fun m=>v m*W l m j)∧Sm r (fun m=>v m*W l m j)≤2000000000000000000:=fun j=>by
   refine⟨uh (fun m hm=>ahV (hv m aa).1 (rN l m j).1), ?_⟩;have:Sm r (fun m=>v m*W l m j)≤r*100000000000000000:=zI (fun m hm=>by
    have h1:=hv m aa;have h2:=rN l m j;have:v m*W l m j≤v m*1:=ahu h2.2 h1.1
    omega)
   omega
  have inner: ∀(d q:Nat),0<v r→q+d=2*l.length→Ev (fun f=>dK.l3 f k (2*(l.length:Int)) M p (rowOf (2*l.length) v) x9 (nW l (2*l.length) v r q) (r:Int) (q:Int) n l) res:=by
   intro d
   induction d with
   | zero=>
    intro q hpos hq;have e:q=2*l.length:=by omega
    subst e;refine bZ ?_;simp only[dK.l3];refine cD aa ?_;refine bZ ?_;simp only[dK.j4];rw[ep (i:=r) aa,RY]
    repeat (first|with_reducible exact bD _ |dsimp only |refine cS ?_ |refine cT ?_ |simp only[bne_self_eq_false,agV,agW,agP,agR]|rw[bU aa aa]|((with_reducible refine bQ (congrArg some ?_));rfl))
    exact h1
   | succ d ih2=>
    intro q hpos hq;have h2:=ih2 (q+1) hpos aa;have hn:=ug h (show r<2*l.length by omega) (show q<2*l.length by omega);have hvl:=RX (l:=l) (2*l.length) v r q;refine bZ ?_;simp only[dK.l3];rw[U7,aV (show v r>0 from hpos)]
    repeat (first|with_reducible exact bD _ |dsimp only |refine cS ?_ |refine cT ?_ |simp only[bne_self_eq_false,agV,agW,agP,agR]|rw[bU aa aa]|((with_reducible refine bQ (congrArg some ?_));rfl))
    refine bZ ?_;simp only[dK.j4];rw[U7,ep (i:=q) aa,R1 _ _ _ _ aa]
    by_cases c:next l r q=true
    ·have hs:=U8 q
     have e1:Sm (r+1) (fun m=>v m*W l m q)=Sm r (fun m=>v m*W l m q)+v r:=by
      show Sm r _+v r*W l r q=_
      unfold W;rw[aC c,ahW]
     rw[bU (x:=Sm r (fun m=>v m*W l m q)+v r) aa aa,← e1,agQ,R2 _ _ _ _ aa];rw[c]at hn
     repeat (first|with_reducible exact bD _ |dsimp only |with_reducible refine bw (bQ hn) ?_ |refine cS ?_ |refine cT ?_ |simp only[bne_self_eq_false,agV,agW,agP,agR]|rw[bU aa aa]|with_reducible exact(bQ hn)|((with_reducible refine bQ (congrArg some ?_));rfl))
     exact h2
    ·have hn':=hn
     rw[ahm]at c;rw[c]at hn';rw[← R3 (l:=l) _ v r q (by rw[c];decide)]at h2
     repeat (first|with_reducible exact bD _ |dsimp only |with_reducible refine bw (bQ hn') ?_ |refine cS ?_ |refine cT ?_ |simp only[bne_self_eq_false,agV,agW,agP,agR]|rw[bU aa aa]|with_reducible exact(bQ hn')|((with_reducible refine bQ (congrArg some ?_));rfl))
     exact h2
  refine bZ ?_;simp only[dK.l2];refine bq aa ?_
  by_cases c:0<v r
  ·exact inner (2*l.length) 0 c aa
  ·rw[← RZ _ v r aa]at h1
   refine bZ ?_;simp only[dK.l3];rw[U7,cz (show ¬v r>0 by omega)];refine bq aa ?_;refine bq aa ?_;refine bq aa ?_;refine bZ ?_;simp only[dK.j4];rw[ep (i:=r) aa]
   repeat (first|with_reducible exact bD _ |dsimp only |refine cS ?_ |refine cT ?_ |simp only[bne_self_eq_false,agV,agW,agP,agR]|rw[bU aa aa]|((with_reducible refine bQ (congrArg some ?_));rfl))
   exact h1

theorem G5 (k:Nat) (hk:1≤k∧k≤12):Ev (fun f=>dK.f f n l (k:Int)) (ofFn (2*l.length) (fun p=>vec l (2*l.length) p (k - 1))):=by
 obtain⟨g1,g2,g3⟩:=fL h;have steps: ∀(M:List (List Int)) (p:Nat) (res:List (List Int)),M.length≤20→p<2*l.length→Ev (fun f=>dK.l0 f (k:Int) (2*(l.length:Int)) (M++[rowOf (2*l.length) (vec l (2*l.length) p (k - 1))]) ((p+1:Nat):Int) n l) res→
   ∀(d j:Nat),j+1+d=k→Ev (fun f=>dK.l1 f (k:Int) (2*(l.length:Int)) M (p:Int) (rowOf (2*l.length) (vec l (2*l.length) p j)) ((j+1:Nat):Int) n l) res:=by
  intro M p res hM hp hres d
  induction d with
  | zero=>
   intro j hj;have e:j=k - 1:=by omega
   subst e;refine bZ ?_;simp only[dK.l1];rw[ep (i:=p) aa]
   repeat (first|with_reducible exact bD _ |dsimp only |refine cS ?_ |refine cT ?_ |simp only[bne_self_eq_false,agV,agW,agP,agR]|rw[bU aa aa]|((with_reducible refine bQ (congrArg some ?_));rfl))
   exact hres
  | succ d ih=>
   intro j hj;have h1:=ih (j+1) aa;have hb:=fun r (_:r<2*l.length)=>BM l (2*l.length) p aa j r
   have hB:=MA (show j≤13 by omega);refine bZ ?_;simp only[dK.l1];rw[show(2*(l.length:Int)).toNat=2*l.length by omega,← xF]
   repeat (first|with_reducible exact bD _ |dsimp only |refine cS ?_ |refine cT ?_ |simp only[bne_self_eq_false,agV,agW,agP,agR]|rw[bU aa aa]|((with_reducible refine bQ (congrArg some ?_));rfl))
   refine R4 h (k:Int) M (p:Int) (vec l (2*l.length) p j) (20 ^ j) aa hb _ _ ?_ (2*l.length) 0 aa;rw[ep aa];have e:nW l (2*l.length) (vec l (2*l.length) p j) (2*l.length) 0=rowOf (2*l.length) (vec l (2*l.length) p (j+1)):=oT (fun q hq=>aA aa);rw[e];exact h1
 have main: ∀(d p:Nat),p+d=2*l.length→Ev (fun f=>dK.l0 f (k:Int) (2*(l.length:Int)) ((ahe p).map (fun p=>rowOf (2*l.length) (vec l (2*l.length) p (k - 1)))) (p:Int) n l) (ofFn (2*l.length) (fun p=>vec l (2*l.length) p (k - 1))):=by
  intro d
  induction d with
  | zero=>
   intro p hp;have e:p=2*l.length:=by omega
   subst e;refine bZ ?_;simp only[dK.l0];refine cD aa ?_;exact bD _
  | succ d ih=>
   intro p hp;have h1:=ih (p+1) aa;rw[xG]at h1;have h2:=steps _ p _ (by simp;omega) aa h1 (k - 1) 0 aa;refine bZ ?_;simp only[dK.l0];rw[show(2*(l.length:Int)).toNat=2*l.length by omega,← xF,agQ];have hl:(rowOf (2*l.length) (fun _=>0)).length=2*l.length:=jQ _ _
   repeat (first|with_reducible exact bD _ |dsimp only |with_reducible refine bw (bD _) ?_ |refine cS ?_ |refine cT ?_ |simp only[bne_self_eq_false,agV,agW,agP,agR]|rw[bU aa aa]|with_reducible exact(bD _)|((with_reducible refine bQ (congrArg some ?_));rfl))
   rw[zJ _ _ aa];have e:rowOf (2*l.length) (fun j=>if j=p then 1 else 0)=rowOf (2*l.length) (vec l (2*l.length) p 0):=rfl;rw[e];exact h2
 unfold dK.f;rw[bU (x:=2*(l.length:Int)) aa aa];exact main (2*l.length) 0 aa

end
section
variable {n:Int} {l:List (List Int)} (h:e5 n l=true)
include h

theorem R5 (k:Nat) (hk:1≤k∧k≤12):Ev (fun f=>iL.f f n l (k:Int)) (rK l (k - 1)):=by
 obtain⟨g1,g2,g3⟩:=fL h;obtain⟨N,hN⟩: ∃N,N=2*l.length:=⟨_,rfl⟩;obtain⟨R,hR⟩: ∃R,R=ofFn N (fun p=>vec l N p (k - 1)):=⟨_,rfl⟩;have Va:R.length=N:=by rw[hR,nV]
 have U9: ∀p,p<N→(aM R (p:Int)).length=N:=fun p hp=>by rw[hR,qj _ hp,jQ]
 have U8: ∀p q,p<N→q<N→rd (aM R (p:Int)) (q:Int)=vec l N p (k - 1) q:=fun p q hp hq=>by rw[hR,qj _ hp,oS _ hq]
 have ek:k - 1+1=k:=by omega
 have hT:rK l (k - 1)=Sm N (fun p=>vec l N p k p):=by
  unfold rK tr;rw[← hN];refine jq (fun p hp=> ?_);rw[← G3 l N hp,ek]
 have U7: ∀p q,vec l N p k q=Sm N (fun r=>vec l N p (k - 1) r*W l r q):=fun p q=>by
  conv=>lhs;rw[← ek]
  rfl
 have b1: ∀p q,0≤vec l N p (k - 1) q∧vec l N p (k - 1) q≤20480000000000000:=fun p q=>by
  have h1:=BM l N p aa (k - 1) q;have: ∀i:Fin 12,(20:Int) ^ i.val≤20480000000000000:=by decide
  have h2:=this ⟨k - 1,by omega⟩;simp only at h2
  omega
 have b2: ∀p q m,m≤N→0≤Sm m (fun r=>vec l N p (k - 1) r*W l r q)∧Sm m (fun r=>vec l N p (k - 1) r*W l r q)≤409600000000000000:=fun p q m hm=>by
  refine⟨uh (fun r _=>ahV (b1 p r).1 (rN l r q).1), ?_⟩;have:Sm m (fun r=>vec l N p (k - 1) r*W l r q)≤m*20480000000000000:=zI (fun r _=>by
   have h1:=b1 p r;have h2:=rN l r q;have:vec l N p (k - 1) r*W l r q≤vec l N p (k - 1) r*1:=ahu h2.2 h1.1
   omega)
  omega
 have b3: ∀m,m≤N→0≤Sm m (fun p=>vec l N p k p)∧Sm m (fun p=>vec l N p k p)≤8192000000000000000:=fun m hm=>by
  refine⟨uh (fun p _=>by rw[U7];exact(b2 p p N (ahp _)).1), ?_⟩;have:Sm m (fun p=>vec l N p k p)≤m*409600000000000000:=zI (fun p _=>by rw[U7];exact(b2 p p N (ahp _)).2)
  omega
 have inner: ∀(p:Nat) (hp:p<N) (res:Int),Ev (fun f=>iL.l0 f R (Sm (p+1) (fun p=>vec l N p k p)) ((p+1:Nat):Int) n l) res→
   ∀(d q:Nat),q+d=N→Ev (fun f=>iL.l1 f R (Sm p (fun p=>vec l N p k p)+Sm q (fun r=>vec l N p (k - 1) r*W l r p)) (p:Int) (q:Int) n l) res:=by
  intro p hp res hres d
  induction d with
  | zero=>
   intro q hq;have e:q=N:=by omega
   subst e;refine bZ ?_;simp only[iL.l1];rw[ep (i:=p) aa,← U7];refine cD aa ?_;exact hres
  | succ d ih=>
   intro q hq;have h1:=ih (q+1) aa;rw[show Sm (q+1) (fun r=>vec l N p (k - 1) r*W l r p)=Sm q (fun r=>vec l N p (k - 1) r*W l r p)+vec l N p (k - 1) q*W l q p from rfl]at h1;have hn:=ug h (show q<2*l.length by omega) (show p<2*l.length by omega);have c1:=b1 p q;have c2:=b2 p p q aa;have c3:=b3 p aa;have hl:=U9 p hp;refine bZ ?_;simp only[iL.l1];rw[U8 p q hp aa,ep (i:=q) aa]
   by_cases c:vec l N p (k - 1) q>0
   ·by_cases cn:next l q p=true
    ·rw[show W l q p=1 from aC cn,ahW,← Int.add_assoc]at h1
     rw[cn]at hn;have c4:=b3 (p+1) aa;have c5:=b2 p p (q+1) aa;rw[show Sm (q+1) (fun r=>vec l N p (k - 1) r*W l r p)=Sm q (fun r=>vec l N p (k - 1) r*W l r p)+vec l N p (k - 1) q*W l q p from rfl,show W l q p=1 from aC cn,ahW]at c5;rw[bU (x:=Sm p (fun p=>vec l N p k p)+Sm q (fun r=>vec l N p (k - 1) r*W l r p)+vec l N p (k - 1) q) aa aa]
     repeat (first|with_reducible exact bD _ |dsimp only |with_reducible refine bw (bQ hn) ?_ |refine cS ?_ |refine cT ?_ |simp only[bne_self_eq_false,agV,agW,agP,agR]|rw[bU aa aa]|with_reducible exact(bQ hn)|((with_reducible refine bQ (congrArg some ?_));rfl))
     exact h1
    ·rw[show W l q p=0 from aA cn,Int.mul_zero,aho]at h1
     rw[ahm]at cn;rw[cn]at hn
     repeat (first|with_reducible exact bD _ |dsimp only |with_reducible refine bw (bQ hn) ?_ |refine cS ?_ |refine cT ?_ |simp only[bne_self_eq_false,agV,agW,agP,agR]|rw[bU aa aa]|with_reducible exact(bQ hn)|((with_reducible refine bQ (congrArg some ?_));rfl))
     exact h1
   ·rw[show vec l N p (k - 1) q=0 by omega,aht,aho]at h1
    repeat (first|with_reducible exact bD _ |dsimp only |refine cS ?_ |refine cT ?_ |simp only[bne_self_eq_false,agV,agW,agP,agR]|rw[bU aa aa]|((with_reducible refine bQ (congrArg some ?_));rfl))
    exact h1
 have outer: ∀(d p:Nat),p+d=N→Ev (fun f=>iL.l0 f R (Sm p (fun p=>vec l N p k p)) (p:Int) n l) (rK l (k - 1)):=by
  intro d
  induction d with
  | zero=>
   intro p hp;have e:p=N:=by omega
   refine bZ ?_;simp only[iL.l0];rw[hT,e];refine cD aa ?_;exact bD _
  | succ d ih=>
   intro p hp;have h1:=inner p aa _ (ih (p+1) aa) N 0 aa;rw[show Sm 0 (fun r=>vec l N p (k - 1) r*W l r p)=0 from rfl,aho]at h1;refine bZ ?_;simp only[iL.l0];refine bq aa ?_;exact h1
 unfold iL.f;refine bw (G5 h k hk) ?_;rw[← hN,← hR];exact outer N 0 aa

end

def pQ (n:Int) (l:List (List Int)) (a lo:Int):Int:=if e5 n l=true then (if lo≤a∧a≤12 then 0 else 2) else 1

theorem MB (n:Int) (l:List (List Int)) (a lo:Int) (hl:Mod l):Ev (fun k=>sJ.f k n l a lo) (pQ n l a lo):=by
 have h1:=zC n l hl;have hc:=nB a lo 12;unfold sJ.f pQ
 by_cases hg:e5 n l=true
 ·rw[hg]at h1
  rw[aC hg]
  by_cases c:lo≤a∧a≤12
  ·rw[aV c]at hc
   rw[aC c]
   repeat (first|with_reducible exact bD _ |dsimp only |with_reducible refine bw (h1) ?_ |with_reducible refine bw (bQ hc) ?_ |refine cS ?_ |refine cT ?_ |simp only[bne_self_eq_false,agV,agW,agP,agR]|rw[bU aa aa]|with_reducible exact(h1)|with_reducible exact(bQ hc)|((with_reducible refine bQ (congrArg some ?_));rfl))
  ·rw[cz c]at hc
   rw[aA c]
   repeat (first|with_reducible exact bD _ |dsimp only |with_reducible refine bw (h1) ?_ |with_reducible refine bw (bQ hc) ?_ |refine cS ?_ |refine cT ?_ |simp only[bne_self_eq_false,agV,agW,agP,agR]|rw[bU aa aa]|with_reducible exact(h1)|with_reducible exact(bQ hc)|((with_reducible refine bQ (congrArg some ?_));rfl))
 ·rw[ahm]at hg
  rw[hg]at h1;rw[aA (by rw[hg];decide)]
  repeat (first|with_reducible exact bD _ |dsimp only |with_reducible refine bw (h1) ?_ |refine cS ?_ |refine cT ?_ |simp only[bne_self_eq_false,agV,agW,agP,agR]|rw[bU aa aa]|with_reducible exact(h1)|((with_reducible refine bQ (congrArg some ?_));rfl))

theorem MC {n:Int} {l:List (List Int)} {a lo:Int} (h:pQ n l a lo=0):e5 n l=true∧lo≤a∧a≤12:=by
 unfold pQ at h
 by_cases hg:e5 n l=true
 ·rw[aC hg]at h
  by_cases c:lo≤a∧a≤12
  ·exact⟨hg,c⟩
  ·rw[aA c]at h
   cases h
 ·rw[aA hg]at h
  cases h

theorem R6 (a:Int):xH.f a=some (decide (1≤a∧a≤12)):=by
 unfold xH.f;rw[mD]
 rfl
def m5 (l:List (List Int)) (w:List Int):Bool:=w.all (fun x=>decide (0≤x∧x≤2*(l.length:Int) - 1))

def steps (l:List (List Int)) (w:List Int):Nat→Nat→Bool
 | 0,_=>true
 | d+1,i=>next l (rd w ((i - 1:Nat):Int)).toNat (rd w (i:Int)).toNat && steps l w d (i+1)

def iy (l:List (List Int)) (w:List Int):Bool:=decide (1≤(w.length:Int)∧(w.length:Int)≤12) && (m5 l w && steps l w (w.length - 1) 1)

theorem ql {l:List (List Int)} {w:List Int} (h:m5 l w=true) {i:Nat} (hi:i<w.length):rd w (i:Int)=(((rd w (i:Int)).toNat:Nat):Int)∧(rd w (i:Int)).toNat<2*l.length:=by
 unfold m5 at h;rw[ah2]at h;have:=of_decide_eq_true (h _ (BB hi))
 omega

section
variable {n:Int} {l:List (List Int)} (h:e5 n l=true) {w:List Int}
include h

theorem R7 (hd:m5 l w=true) (hw:w.length≤1048576): ∀(d i:Nat),i+d=w.length→1≤i→Ev (fun k=>eP.l1 k w (i:Int) n l) (steps l w d i):=by
 intro d
 induction d with
 | zero=>
  intro i hi h1;refine bZ ?_;simp only[eP.l1];unfold steps
  repeat (first|with_reducible exact bD _ |dsimp only |refine cS ?_ |refine cT ?_ |simp only[bne_self_eq_false,agV,agW,agP,agR]|rw[bU aa aa]|((with_reducible refine bQ (congrArg some ?_));rfl))
 | succ d ih=>
  intro i hi h1;obtain⟨e1,r1⟩:=ql hd (show i - 1<w.length by omega);obtain⟨e2,r2⟩:=ql hd (show i<w.length by omega);have:=ih (i+1) aa aa;have hn:=ug h r1 r2;rw[← e1,← e2]at hn;refine bZ ?_;simp only[eP.l1];unfold steps;rw[ep aa,bU (x:=(i:Int) - 1) aa aa,show(i:Int) - 1=((i - 1:Nat):Int) by omega];cases c:next l (rd w ((i - 1:Nat):Int)).toNat (rd w (i:Int)).toNat with
  | true=>
   rw[c]at hn;rw[ahg]
   repeat (first|with_reducible exact bD _ |dsimp only |with_reducible refine bw (bQ hn) ?_ |refine cS ?_ |refine cT ?_ |simp only[bne_self_eq_false,agV,agW,agP,agR]|rw[bU aa aa]|with_reducible exact(bQ hn)|((with_reducible refine bQ (congrArg some ?_));rfl))
   exact this
  | false=>
   rw[c]at hn;rw[ahf]
   repeat (first|with_reducible exact bD _ |dsimp only |with_reducible refine bw (bQ hn) ?_ |refine cS ?_ |refine cT ?_ |simp only[bne_self_eq_false,agV,agW,agP,agR]|rw[bU aa aa]|with_reducible exact(bQ hn)|((with_reducible refine bQ (congrArg some ?_));rfl))

theorem R8 (hd:m5 l w=true) (hw:w.length≤1048576): ∀(d i:Nat),i+d=w.length→1≤i→Ev (fun k=>gy.l0 k w (i:Int) n l) (steps l w d i):=by
 intro d
 induction d with
 | zero=>
  intro i hi h1;refine bZ ?_;simp only[gy.l0];unfold steps
  repeat (first|with_reducible exact bD _ |dsimp only |refine cS ?_ |refine cT ?_ |simp only[bne_self_eq_false,agV,agW,agP,agR]|rw[bU aa aa]|((with_reducible refine bQ (congrArg some ?_));rfl))
 | succ d ih=>
  intro i hi h1;obtain⟨e1,r1⟩:=ql hd (show i - 1<w.length by omega);obtain⟨e2,r2⟩:=ql hd (show i<w.length by omega);have:=ih (i+1) aa aa;have hn:=Mh h r1 r2;rw[← e1,← e2]at hn;refine bZ ?_;simp only[gy.l0];unfold steps;rw[ep aa,bU (x:=(i:Int) - 1) aa aa,show(i:Int) - 1=((i - 1:Nat):Int) by omega];cases c:next l (rd w ((i - 1:Nat):Int)).toNat (rd w (i:Int)).toNat with
  | true=>
   rw[c]at hn;rw[ahg]
   repeat (first|with_reducible exact bD _ |dsimp only |with_reducible refine bw (bQ hn) ?_ |refine cS ?_ |refine cT ?_ |simp only[bne_self_eq_false,agV,agW,agP,agR]|rw[bU aa aa]|with_reducible exact(bQ hn)|((with_reducible refine bQ (congrArg some ?_));rfl))
   exact this
  | false=>
   rw[c]at hn;rw[ahf]
   repeat (first|with_reducible exact bD _ |dsimp only |with_reducible refine bw (bQ hn) ?_ |refine cS ?_ |refine cT ?_ |simp only[bne_self_eq_false,agV,agW,agP,agR]|rw[bU aa aa]|with_reducible exact(bQ hn)|((with_reducible refine bQ (congrArg some ?_));rfl))

theorem R9 (hw:w.length≤1048576) (r:Bool) (h1:m5 l w=true→Ev (fun k=>eP.l1 k w 1 n l) r) (h2:m5 l w=false→r=false):
  ∀(d i:Nat),i+d=w.length→(w.take i).all (fun x=>decide (0≤x∧x≤2*(l.length:Int) - 1))=true→Ev (fun k=>eP.l0 k w (i:Int) n l) r:=by
 obtain⟨g1,g2,g3⟩:=fL h;intro d
 induction d with
 | zero=>
  intro i hi ht;refine bZ ?_;simp only[eP.l0];rw[List.take_of_length_le aa]at ht
  repeat (first|with_reducible exact bD _ |dsimp only |refine cS ?_ |refine cT ?_ |simp only[bne_self_eq_false,agV,agW,agP,agR]|rw[bU aa aa]|((with_reducible refine bQ (congrArg some ?_));rfl))
  exact h1 ht
 | succ d ih=>
  intro i hi ht;refine bZ ?_;simp only[eP.l0];rw[ep aa,bU (x:=2*(l.length:Int)) aa aa,bU (x:=2*(l.length:Int) - 1) aa aa,nB,gf aa]
  by_cases c:0≤w[i]∧w[i]≤2*(l.length:Int) - 1
  ·rw[aV c]
   repeat (first|with_reducible exact bD _ |dsimp only |with_reducible refine bw (bD _) ?_ |refine cS ?_ |refine cT ?_ |simp only[bne_self_eq_false,agV,agW,agP,agR]|rw[bU aa aa]|with_reducible exact(bD _)|((with_reducible refine bQ (congrArg some ?_));rfl))
   refine ih (i+1) aa ?_;rw[ahd aa,List.all_append,ht,ahg,ahG,List.all_nil,ahA];exact aV c
  ·rw[cz c,h2]
   ·repeat (first|with_reducible exact bD _ |dsimp only |with_reducible refine bw (bD _) ?_ |refine cS ?_ |refine cT ?_ |simp only[bne_self_eq_false,agV,agW,agP,agR]|rw[bU aa aa]|with_reducible exact(bD _)|((with_reducible refine bQ (congrArg some ?_));rfl))
   ·unfold m5
    rw[List.all_eq_false];exact⟨w[i],agX _,by rw[decide_eq_true_iff];exact c⟩

theorem EO (hw:w.length≤1048576):Ev (fun k=>eP.f k n l w) (iy l w):=by
 unfold eP.f iy
 by_cases c1:(w.length:Int)<1
 ·rw[cz (show ¬(1≤(w.length:Int)∧(w.length:Int)≤12) by omega),ahf]
  repeat (first|with_reducible exact bD _ |dsimp only |refine cS ?_ |refine cT ?_ |simp only[bne_self_eq_false,agV,agW,agP,agR]|rw[bU aa aa]|((with_reducible refine bQ (congrArg some ?_));rfl))
  refine bZ ?_;simp only[eP.j0]
  repeat (first|with_reducible exact bD _ |dsimp only |refine cS ?_ |refine cT ?_ |simp only[bne_self_eq_false,agV,agW,agP,agR]|rw[bU aa aa]|((with_reducible refine bQ (congrArg some ?_));rfl))
 ·by_cases c2:(w.length:Int)>12
  ·rw[cz (show ¬(1≤(w.length:Int)∧(w.length:Int)≤12) by omega),ahf,aV c2]
   repeat (first|with_reducible exact bD _ |dsimp only |refine cS ?_ |refine cT ?_ |simp only[bne_self_eq_false,agV,agW,agP,agR]|rw[bU aa aa]|((with_reducible refine bQ (congrArg some ?_));rfl))
   refine bZ ?_;simp only[eP.j0]
   repeat (first|with_reducible exact bD _ |dsimp only |refine cS ?_ |refine cT ?_ |simp only[bne_self_eq_false,agV,agW,agP,agR]|rw[bU aa aa]|((with_reducible refine bQ (congrArg some ?_));rfl))
  ·rw[aV (show 1≤(w.length:Int)∧(w.length:Int)≤12 by omega),ahg,cz c2]
   repeat (first|with_reducible exact bD _ |dsimp only |refine cS ?_ |refine cT ?_ |simp only[bne_self_eq_false,agV,agW,agP,agR]|rw[bU aa aa]|((with_reducible refine bQ (congrArg some ?_));rfl))
   refine bZ ?_;simp only[eP.j0]
   repeat (first|with_reducible exact bD _ |dsimp only |refine cS ?_ |refine cT ?_ |simp only[bne_self_eq_false,agV,agW,agP,agR]|rw[bU aa aa]|((with_reducible refine bQ (congrArg some ?_));rfl))
   refine R9 h hw _ (fun hd=> ?_) (fun hd=>by rw[hd,ahf]) w.length 0 aa bJ;rw[hd,ahg];exact R7 h hd hw (w.length - 1) 1 aa aa

theorem Sa (hw:w.length≤1048576): ∀(d i:Nat),i+d=w.length→
  ∃r:Int,Ev (fun k=>nX.l0 k w (w.length:Int) (i:Int) n l) r∧(decide (r≥0))= !(w.drop i).all (fun x=>decide (0≤x∧x≤2*(l.length:Int) - 1)):=by
 obtain⟨g1,g2,g3⟩:=fL h;intro d
 induction d with
 | zero=>
  intro i hi;refine⟨-1, ?_, ?_⟩
  ·refine bZ ?_;simp only[nX.l0]
   repeat (first|with_reducible exact bD _ |dsimp only |refine cS ?_ |refine cT ?_ |simp only[bne_self_eq_false,agV,agW,agP,agR]|rw[bU aa aa]|((with_reducible refine bQ (congrArg some ?_));rfl))
  ·rw[ag5 aa]
   rfl
 | succ d ih=>
  intro i hi;have hc:vu.f w[i] n l=some (!decide (0≤w[i]∧w[i]≤2*(l.length:Int) - 1)):=by
   unfold vu.f kY.f;rw[ag8,bU (x:=2*(l.length:Int)) aa aa,bU (x:=2*(l.length:Int) - 1) aa aa,mD]
   rfl
  by_cases c:0≤w[i]∧w[i]≤2*(l.length:Int) - 1
  ·rw[aV c]at hc
   obtain⟨r,h1,h2⟩:=ih (i+1) aa;refine⟨r, ?_, ?_⟩
   ·refine bZ ?_;simp only[nX.l0]
    rw[ep aa,gf aa]
    repeat (first|with_reducible exact bD _ |dsimp only |with_reducible refine bw (bQ hc) ?_ |refine cS ?_ |refine cT ?_ |simp only[bne_self_eq_false,agV,agW,agP,agR]|rw[bU aa aa]|with_reducible exact(bQ hc)|((with_reducible refine bQ (congrArg some ?_));rfl))
    exact h1
   ·rw[ag4 (by omega:i<w.length),ahG,aV c,ahg]
    exact h2
  ·rw[cz c]at hc
   refine⟨(i:Int), ?_, ?_⟩
   ·refine bZ ?_;simp only[nX.l0]
    rw[ep aa,gf aa]
    repeat (first|with_reducible exact bD _ |dsimp only |with_reducible refine bw (bQ hc) ?_ |refine cS ?_ |refine cT ?_ |simp only[bne_self_eq_false,agV,agW,agP,agR]|rw[bU aa aa]|with_reducible exact(bQ hc)|((with_reducible refine bQ (congrArg some ?_));rfl))
   ·rw[ag4 (by omega:i<w.length),ahG,cz c,ahf]
    simp

theorem Sd (hw:w.length≤1048576):Ev (fun k=>xI.f k n l w) (m5 l w):=by
 obtain⟨r,h1,h2⟩:=Sa h hw w.length 0 aa;have h1':Ev (fun k=>nX.f k w n l) r:=h1;unfold xI.f zM.f;rw[ahX]at h2;have:m5 l w= !decide (r≥0):=by rw[h2,Bool.not_not];rfl
 rw[this];exact bw (bw h1' (bD _)) (bD _)

theorem BF (hw:w.length≤1048576):Ev (fun k=>gy.f k n l w) (iy l w):=by
 unfold gy.f iy;rw[mD]
 by_cases c1:1≤(w.length:Int)∧(w.length:Int)≤12
 ·rw[aV c1,ahg]
  have hq:=Sd h hw;cases hd:m5 l w with
  | true=>
   rw[hd]at hq;rw[ahg]
   repeat (first|with_reducible exact bD _ |dsimp only |with_reducible refine bw (bD _) ?_ |with_reducible refine bw (hq) ?_ |refine cS ?_ |refine cT ?_ |simp only[bne_self_eq_false,agV,agW,agP,agR]|rw[bU aa aa]|with_reducible exact(bD _)|with_reducible exact(hq)|((with_reducible refine bQ (congrArg some ?_));rfl))
   refine bZ ?_;simp only[gy.j0]
   repeat (first|with_reducible exact bD _ |dsimp only |refine cS ?_ |refine cT ?_ |simp only[bne_self_eq_false,agV,agW,agP,agR]|rw[bU aa aa]|((with_reducible refine bQ (congrArg some ?_));rfl))
   exact R8 h hd hw (w.length - 1) 1 aa aa
  | false=>
   rw[hd]at hq;rw[ahf]
   repeat (first|with_reducible exact bD _ |dsimp only |with_reducible refine bw (bD _) ?_ |with_reducible refine bw (hq) ?_ |refine cS ?_ |refine cT ?_ |simp only[bne_self_eq_false,agV,agW,agP,agR]|rw[bU aa aa]|with_reducible exact(bD _)|with_reducible exact(hq)|((with_reducible refine bQ (congrArg some ?_));rfl))
   refine bZ ?_;simp only[gy.j0]
   repeat (first|with_reducible exact bD _ |dsimp only |refine cS ?_ |refine cT ?_ |simp only[bne_self_eq_false,agV,agW,agP,agR]|rw[bU aa aa]|((with_reducible refine bQ (congrArg some ?_));rfl))
 ·rw[cz c1,ahf]
  repeat (first|with_reducible exact bD _ |dsimp only |with_reducible refine bw (bD _) ?_ |refine cS ?_ |refine cT ?_ |simp only[bne_self_eq_false,agV,agW,agP,agR]|rw[bU aa aa]|with_reducible exact(bD _)|((with_reducible refine bQ (congrArg some ?_));rfl))
  refine bZ ?_;simp only[gy.j0]
  repeat (first|with_reducible exact bD _ |dsimp only |refine cS ?_ |refine cT ?_ |simp only[bne_self_eq_false,agV,agW,agP,agR]|rw[bU aa aa]|((with_reducible refine bQ (congrArg some ?_));rfl))

end

def code (n:Int) (l:List (List Int)) (w:List Int):Int:=if e5 n l=true then (if iy l w=true then 0 else 2) else 1

theorem G6 (n:Int) (l:List (List Int)) (w:List Int) (hl:Mod l) (hw:w.length≤1048576):Ev (fun k=>lJ.f k n l w) (code n l w):=by
 have h1:=zC n l hl;unfold lJ.f code
 by_cases hg:e5 n l=true
 ·have w1:=EO hg hw
  rw[hg]at h1;rw[aC hg]
  by_cases hk:iy l w=true
  ·rw[hk]at w1
   rw[aC hk]
   repeat (first|with_reducible exact bD _ |dsimp only |with_reducible refine bw (h1) ?_ |with_reducible refine bw (w1) ?_ |refine cS ?_ |refine cT ?_ |simp only[bne_self_eq_false,agV,agW,agP,agR]|rw[bU aa aa]|with_reducible exact(h1)|with_reducible exact(w1)|((with_reducible refine bQ (congrArg some ?_));rfl))
  ·rw[ahm]at hk
   rw[hk]at w1;rw[aA (by rw[hk];decide)]
   repeat (first|with_reducible exact bD _ |dsimp only |with_reducible refine bw (h1) ?_ |with_reducible refine bw (w1) ?_ |refine cS ?_ |refine cT ?_ |simp only[bne_self_eq_false,agV,agW,agP,agR]|rw[bU aa aa]|with_reducible exact(h1)|with_reducible exact(w1)|((with_reducible refine bQ (congrArg some ?_));rfl))
 ·rw[ahm]at hg
  rw[hg]at h1;rw[aA (by rw[hg];decide)]
  repeat (first|with_reducible exact bD _ |dsimp only |with_reducible refine bw (h1) ?_ |refine cS ?_ |refine cT ?_ |simp only[bne_self_eq_false,agV,agW,agP,agR]|rw[bU aa aa]|with_reducible exact(h1)|((with_reducible refine bQ (congrArg some ?_));rfl))

theorem BG (n:Int) (l:List (List Int)) (w:List Int) (hl:Mod l) (hw:w.length≤1048576):Ev (fun k=>kF.f k n l w) (code n l w):=by
 have h1:=zH n l hl;unfold kF.f uj.f uk.f code
 by_cases hg:e5 n l=true
 ·have w1:=BF hg hw
  rw[hg]at h1;rw[aC hg]
  by_cases hk:iy l w=true
  ·rw[hk]at w1
   rw[aC hk];exact bw (bw h1 (bq rfl (bw (bw w1 (bD _)) (bq rfl (bD _))))) (bD _)
  ·rw[ahm]at hk
   rw[hk]at w1;rw[aA (by rw[hk];decide)];exact bw (bw h1 (bq rfl (bw (bw w1 (bD _)) (cD az (bD _))))) (bD _)
 ·rw[ahm]at hg
  rw[hg]at h1;rw[aA (by rw[hg];decide)];exact bw (bw h1 (cD az (bD _))) (bD _)

theorem BH {n:Int} {l:List (List Int)} {w:List Int} (h:code n l w=0):e5 n l=true∧iy l w=true:=by
 unfold code at h
 by_cases hg:e5 n l=true
 ·rw[aC hg]at h
  by_cases hk:iy l w=true
  ·exact⟨hg,hk⟩
  ·rw[aA hk]at h
   cases h
 ·rw[aA hg]at h
  cases h

theorem oP {l:List (List Int)} {w:List Int} (h:iy l w=true):1≤w.length∧w.length≤12∧m5 l w=true∧steps l w (w.length - 1) 1=true:=by
 unfold iy at h;rw[ahh,ahh,decide_eq_true_iff]at h;obtain⟨h1,h2,h3⟩:=h;exact⟨by omega,by omega,h2,h3⟩
theorem G7 (n:Nat):zeros n=ofFn n (fun _ _=>0):=by
 show ahl n (ahl n 0)=(ahe n).map (fun _=>rowOf n (fun _=>0))
 rw[xF];simp[List.map_const']

def m6 (N s:Nat):List (List Int):=ofFn N (fun i j=>if i=j∧i<s then 1 else 0)

theorem EP (N s:Nat):(m6 N s).length=N:=nV _ _

theorem MD (N:Nat):zeros N=m6 N 0:=by
 rw[G7];exact qJ (fun i j _ _=>(aA aa).symm)

theorem G8 (N s:Nat) (hs:s<N):aM (m6 N s) (s:Int)=rowOf N (fun _=>0):=by
 unfold m6;rw[qj _ hs];exact oT (fun j _=>aA aa)

theorem MF (N s:Nat) (hs:s<N):(m6 N s).set s ((aM (m6 N s) (s:Int)).set s 1)=m6 N (s+1):=by
 rw[G8 N s hs,zJ _ _ hs];unfold m6;rw[GZ _ _ hs];refine qJ (fun i j hi hj=> ?_)
 by_cases c:i=s
 ·subst c
  rw[aC rfl]
  by_cases c2:j=i
  ·rw[aC c2,aC ⟨c2.symm,by omega⟩]
  ·rw[aA c2,aA (fun z=>c2 z.1.symm)]
 ·rw[aA c]
  by_cases c2:i=j∧i<s
  ·rw[aC c2,aC ⟨c2.1,by omega⟩]
  ·rw[aA c2,aA (fun z=>c2 ⟨z.1,by omega⟩)]

def bv (l:List (List Int)) (e:Nat):Nat:=(tl l e).toNat
def ev (l:List (List Int)) (e:Nat):Nat:=(hd l e).toNat

section
variable (l:List (List Int)) (m:Nat) (R:Nat→Nat→Int)

def S2 (a b v w:Nat):Int:=Sm a (fun p=>if bv l p=v then Sm (2*l.length) (fun q=>if ev l q=w then R p q else 0) else 0)+(if bv l a=v then Sm b (fun q=>if ev l q=w then R a q else 0) else 0)

def m7 (a b:Nat):List (List Int):=ofFn m (fun v w=>wrap64 (S2 l R a b v w))
def sK (a b:Nat):List Int:=rowOf m (fun w=>wrap64 (S2 l R a b (bv l a) w))

theorem EJ (a b:Nat):(m7 l m R a b).length=m:=nV _ _
theorem MG (a b:Nat):(sK l m R a b).length=m:=jQ _ _

theorem MH (a b:Nat) (ha:bv l a<m):aM (m7 l m R a b) ((bv l a:Nat):Int)=sK l m R a b:=qj _ ha

theorem MI (a b:Nat) (hb:ev l b<m):(sK l m R a b).set (ev l b) (wrap64 (rd (sK l m R a b) ((ev l b:Nat):Int)+R a b))=sK l m R a (b+1):=by
 unfold sK;rw[oS _ hb,zJ _ _ hb,EI];refine oT (fun w hw=> ?_);have e:S2 l R a (b+1) (bv l a) w=S2 l R a b (bv l a) w+(if ev l b=w then R a b else 0):=by
  unfold S2;rw[aC rfl,aC rfl];exact(Int.add_assoc _ _ _).symm
 by_cases c:w=ev l b
 ·rw[aC c,e,aC c.symm,c]
 ·rw[aA c,e,aA (fun z=>c z.symm),aho]

theorem MJ (a b b':Nat) (ha:bv l a<m):(m7 l m R a b).set (bv l a) (sK l m R a b')=m7 l m R a b':=by
 unfold m7 sK;rw[GZ _ _ ha];refine qJ (fun v w hv hw=> ?_)
 by_cases c:v=bv l a
 ·rw[aC c,c]
 ·rw[aA c]
  unfold S2;rw[aA (fun z=>c z.symm),aA (fun z=>c z.symm)]

theorem MK (a:Nat):m7 l m R a (2*l.length)=m7 l m R (a+1) 0:=by
 refine qJ (fun v w hv hw=> ?_)
 congr 1
 unfold S2
 show _=(_+_)+(if bv l (a+1)=v then 0 else 0)
 have:(if bv l (a+1)=v then (0:Int) else 0)=0:=by split<;>rfl
 rw[this,aho]

theorem ML:m7 l m R 0 0=zeros m:=by
 rw[G7];refine qJ (fun v w hv hw=> ?_);have:S2 l R 0 0 v w=0:=by
  unfold S2
  show 0+(if bv l 0=v then 0 else 0)=(0:Int)
  split<;>rfl
 rw[this];exact bU az az

end

section
variable {n:Int} {l:List (List Int)} (h:e5 n l=true) (m:Nat) (hm:n=(m:Int)) (R:Nat→Nat→Int)
include h hm

theorem vv {e:Nat} (he:e<2*l.length):tl l e=((bv l e:Nat):Int)∧bv l e<m∧hd l e=((ev l e:Nat):Int)∧ev l e<m:=by
 obtain⟨e2,a,b,ea,eb,ha,hb⟩:=GV h (show e / 2<l.length by omega);have h1:0≤tl l e∧tl l e<n:=by
  unfold tl
  split
  ·rw[eb];omega
  ·rw[ea];omega
 have h2:0≤hd l e∧hd l e<n:=by
  unfold hd
  split
  ·rw[ea];omega
  ·rw[eb];omega
 unfold bv ev
 omega

theorem Sf (a:Nat) (ha:a<2*l.length) (r:List (List Int)×Int) (hr:Ev (fun k=>eK.l1 k (m7 l m R (a+1) 0) (ofFn (2*l.length) R) ((a+1:Nat):Int) n l) r):
  ∀(d b:Nat),b+d=2*l.length→Ev (fun k=>eK.l2 k (m7 l m R a 0) (ofFn (2*l.length) R) (a:Int) (sK l m R a b) (b:Int) n l) r:=by
 obtain⟨g1,g2,g3⟩:=fL h;obtain⟨t1,t2,_,_⟩:=vv h m hm ha;have hrl:(ofFn (2*l.length) R).length=2*l.length:=nV _ _;intro d
 induction d with
 | zero=>
  intro b hb;obtain rfl:b=2*l.length:=by omega
  have he:=xE h ha;refine bZ ?_;simp only[eK.l2];rw[he,t1];refine cD aa (bw (bD _) ?_)
  show Ev (fun k=>eK.l1 k ((m7 l m R a 0).set (((bv l a:Nat):Int)).toNat (sK l m R a (2*l.length))) (ofFn (2*l.length) R) (wrap64 ((a:Int)+1)) n l) r
  rw[agQ,MJ l m R a 0 _ t2,MK,ep (i:=a) aa];exact hr
 | succ d ih=>
  intro b hb;have h1:=ih (b+1) aa;have he:=xE h (show b<2*l.length by omega);obtain⟨_,_,u1,u2⟩:=vv h m hm (show b<2*l.length by omega);have hl:=MG l m R a b;have hset:=MI l m R a b u2;have hrow:(aM (ofFn (2*l.length) R) (a:Int)).length=2*l.length:=by rw[qj _ ha,jQ]
  have hval:rd (aM (ofFn (2*l.length) R) (a:Int)) (b:Int)=R a b:=GY R ha aa;refine bZ ?_;simp only[eK.l2];rw[he,hval,ep (i:=b) aa];refine bq aa (bw (bD _) ?_)
  show Ev (fun k=>if 0≤hd l b then _ else _) r
  rw[u1,agQ,hset];exact bq aa (bq aa (bq aa (bq aa (bq aa (bq aa h1)))))

theorem Sg: ∀(d a:Nat),a+d=2*l.length→Ev (fun k=>eK.l1 k (m7 l m R a 0) (ofFn (2*l.length) R) (a:Int) n l) (m7 l m R (2*l.length) 0,0):=by
 obtain⟨g1,g2,g3⟩:=fL h;have hrl:(ofFn (2*l.length) R).length=2*l.length:=nV _ _;intro d
 induction d with
 | zero=>
  intro a ha;obtain rfl:a=2*l.length:=by omega
  refine bZ ?_;simp only[eK.l1];exact cD aa (bD _)
 | succ d ih=>
  intro a ha;have h1:=ih (a+1) aa;have he:=xE h (show a<2*l.length by omega);obtain⟨t1,t2,_,_⟩:=vv h m hm (show a<2*l.length by omega);have hl:=EJ l m R a 0;refine bZ ?_;simp only[eK.l1];rw[he];refine bq aa (bw (bD _) ?_)
  show Ev (fun k=>if 0≤tl l a then _ else _) _
  rw[t1,MH l m R a 0 t2];exact bq aa (bq aa (Sf h m hm R a aa _ h1 (2*l.length) 0 aa))

theorem Si (a:Nat) (ha:a<2*l.length) (X:List (List Int)) (r:List (List Int)) (hr:Ev (fun k=>eC.l3 k (m7 l m R (a+1) 0) X ((2*l.length:Nat):Int) ((a+1:Nat):Int) n l) r):
  ∀(d b:Nat),b+d=2*l.length→Ev (fun k=>eC.l4 k (m7 l m R a b) X ((bv l a:Nat):Int) ((2*l.length:Nat):Int) (a:Int) (rowOf (2*l.length) (R a)) ((2*l.length:Nat):Int) (b:Int) n l) r:=by
 obtain⟨g1,g2,g3⟩:=fL h;obtain⟨t1,t2,_,_⟩:=vv h m hm ha;have hrl:(rowOf (2*l.length) (R a)).length=2*l.length:=jQ _ _;intro d
 induction d with
 | zero=>
  intro b hb;obtain rfl:b=2*l.length:=by omega
  refine bZ ?_;simp only[eC.l4];rw[MK,ep (i:=a) aa];exact cD aa hr
 | succ d ih=>
  intro b hb;have h1:=ih (b+1) aa;have he:=sI h (show b<2*l.length by omega);obtain⟨_,_,u1,u2⟩:=vv h m hm (show b<2*l.length by omega);have hl:=MG l m R a b;have U7:=EJ l m R a b;have hval:rd (rowOf (2*l.length) (R a)) (b:Int)=R a b:=oS _ aa;refine bZ ?_;simp only[eC.l4];rw[he,hval,ep (i:=b) aa,MH l m R a b t2];refine bq aa (bq aa (bq aa (bw (bD _) (bq aa (bq aa ?_)))))
  show Ev (fun k=>if 0≤hd l b then _ else _) r
  rw[u1,agQ,agQ,MI l m R a b u2,MJ l m R a b (b+1) t2];exact bq aa (bq aa h1)

theorem Sj: ∀(d a:Nat),a+d=2*l.length→Ev (fun k=>eC.l3 k (m7 l m R a 0) (ofFn (2*l.length) R) ((2*l.length:Nat):Int) (a:Int) n l) (m7 l m R (2*l.length) 0):=by
 obtain⟨g1,g2,g3⟩:=fL h;have hrl:(ofFn (2*l.length) R).length=2*l.length:=nV _ _;intro d
 induction d with
 | zero=>
  intro a ha;obtain rfl:a=2*l.length:=by omega
  refine bZ ?_;simp only[eC.l3];exact cD aa (bD _)
 | succ d ih=>
  intro a ha;have h1:=ih (a+1) aa;have he:=sI h (show a<2*l.length by omega);obtain⟨t1,t2,_,_⟩:=vv h m hm (show a<2*l.length by omega);have h2:=Si h m hm R a aa (ofFn (2*l.length) R) _ h1 (2*l.length) 0 aa;refine bZ ?_;simp only[eC.l3];rw[he,qj _ (show a<2*l.length by omega),jQ];refine bq aa (bq aa (bq aa (bw (bD _) ?_)))
  show Ev (fun k=>eC.l4 k _ _ (tl l a) _ _ _ _ _ _ _) _
  rw[t1];exact h2

end

section
variable {n:Int} {l:List (List Int)} (h:e5 n l=true) (m:Nat) (hm:n=(m:Int)) (k:Nat) (hk:k≤12)
include h hm hk

def rO (m k i:Nat):List (List Int):=(ahe i).map (fun p=>rowOf m (fun q=>if k=0∧q=p then 1 else 0))

theorem Sl (r:List (List Int)×Int) (hr0:k=0→r=(rO m 0 m,0)) (hr1:k≠0→Ev (fun f=>(dK.f f n l (k:Int)).bind fun t=>eK.l1 f (rO m k m) t 0 n l) r):
  ∀(d i:Nat),i+d=m→Ev (fun f=>eK.l0 f (k:Int) (rO m k i) (i:Int) n l) r:=by
 obtain⟨g1,g2,g3⟩:=fL h;intro d
 induction d with
 | zero=>
  intro i hi;obtain rfl:i=m:=by omega
  refine bZ ?_;simp only[eK.l0];refine cD aa ?_
  by_cases c:k=0
  ·rw[hr0 c]
   subst c;exact bq rfl (bD _)
  ·exact cD aa (hr1 c)
 | succ d ih=>
  intro i hi;have h1:=ih (i+1) aa;have hl:(rO m k i).length=i:=by simp[rO]
  rw[show rO m k (i+1)=rO m k i++[rowOf m (fun q=>if k=0∧q=i then 1 else 0)] from xG _ _]at h1;refine bZ ?_;simp only[eK.l0];rw[ep (i:=i) aa,show n.toNat=m by omega];refine bq aa (bq aa (bq aa (bw (bD _) ?_)))
  by_cases c:k=0
  ·subst c
   have e:(ahl m (0:Int)).set i 1=rowOf m (fun q=>if 0=0∧q=i then 1 else 0):=by
    rw[← xF,zJ _ _ (show i<m by omega)];refine oT (fun q _=> ?_)
    by_cases c2:q=i
    ·rw[aC c2,aC ⟨rfl,c2⟩]
    ·rw[aA c2,aA (fun z=>c2 z.2)]
   rw[← e]at h1;refine bq rfl (bq aa (bq ?_ (bq aa ?_)))
   ·rw[List.length_replicate];omega
   ·rw[agQ]
    exact h1
  ·have e:ahl m (0:Int)=rowOf m (fun q=>if k=0∧q=i then 1 else 0):=by
    rw[← xF];exact oT (fun q _=>(aA (fun z=>c z.1)).symm)
   rw[← e]at h1;exact cD aa (bq aa h1)

omit h hm hk in
theorem Sn:rO m 0 m=m6 m m:=by
 unfold rO m6 ofFn;refine ahJ (fun p hp=> ?_);have:=ahi.1 hp;refine oT (fun q hq=> ?_)
 show(if 0=0∧q=p then (1:Int) else 0)=if p=q∧p<m then 1 else 0
 by_cases c:q=p
 ·rw[aC ⟨rfl,c⟩,aC ⟨c.symm,this⟩]
 ·rw[aA (fun z=>c z.2),aA (fun z=>c z.1.symm)]

omit h hm hk in
theorem Sp (G9:k≠0):rO m k m=zeros m:=by
 rw[G7];unfold rO ofFn;exact ahJ (fun p _=>oT (fun q _=>aA (fun z=>G9 z.1)))

def mZ (l:List (List Int)) (m k:Nat):List (List Int):=if k=0 then m6 m m else m7 l m (fun p q=>vec l (2*l.length) p (k - 1) q) (2*l.length) 0

theorem Sr:Ev (fun f=>eK.l0 f (k:Int) [] 0 n l) (mZ l m k,0):=by
 refine Sl h m hm k hk (mZ l m k,0) (fun c=> ?_) (fun c=> ?_) m 0 aa
 ·unfold mZ
  rw[aC c,Sn]
 ·unfold mZ
  rw[aA c,Sp m k c,← ML l m (fun p q=>vec l (2*l.length) p (k - 1) q)];exact bw (G5 h k ⟨by omega,hk⟩) (Sg h m hm _ (2*l.length) 0 aa)

omit hk in
theorem Ss: ∀(d i:Nat),i+d=m→Ev (fun f=>eC.l0 f (m6 m i) (m:Int) (i:Int)) (m6 m m):=by
 obtain⟨g1,g2,g3⟩:=fL h;intro d
 induction d with
 | zero=>
  intro i hi;obtain rfl:i=m:=by omega
  refine bZ ?_;simp only[eC.l0];exact cD aa (bD _)
 | succ d ih=>
  intro i hi;have h1:=ih (i+1) aa;have hl:=EP m i;have hr:(aM (m6 m i) (i:Int)).length=m:=by rw[G8 m i aa,jQ]
  refine bZ ?_;simp only[eC.l0];rw[agQ i,MF m i aa,ep (i:=i) aa];exact bq aa (bq aa (bq aa (bq aa h1)))

omit hm in
theorem St (hk1:1≤k) (Y:List (List Int)) (r:List (List Int)) (hr:Ev (fun f=>eC.l3 f Y (ofFn (2*l.length) (fun p q=>vec l (2*l.length) p (k - 1) q)) ((2*l.length:Nat):Int) 0 n l) r):
  ∀(d t:Nat),t+d=k - 1→Ev (fun f=>eC.l2 f Y (ofFn (2*l.length) (W l)) (ofFn (2*l.length) (fun p q=>vec l (2*l.length) p t q)) ((k - 1:Nat):Int) (t:Int) n l) r:=by
 obtain⟨g1,g2,g3⟩:=fL h;have U7:Sq (2*l.length) (ofFn (2*l.length) (W l)):=Mp _ _;intro d
 induction d with
 | zero=>
  intro t ht;obtain rfl:t=k - 1:=by omega
  have hl:(ofFn (2*l.length) (fun p q=>vec l (2*l.length) p (k - 1) q)).length=2*l.length:=nV _ _;refine bZ ?_;simp only[eC.l2];rw[hl];exact cD aa hr
 | succ d ih=>
  intro t ht;have h1:=ih (t+1) aa;have hP:Sq (2*l.length) (ofFn (2*l.length) (fun p q=>vec l (2*l.length) p t q)):=Mp _ _;have hmm:=RV (2*l.length) aa _ _ hP U7;have em:ofFn (2*l.length) (part (ofFn (2*l.length) (fun p q=>vec l (2*l.length) p t q)) (ofFn (2*l.length) (W l)) (2*l.length))=ofFn (2*l.length) (fun p q=>vec l (2*l.length) p (t+1) q):=by
   refine qJ (fun p q hp hq=> ?_);unfold part;have e1:Sm (2*l.length) (fun m=>lI (ofFn (2*l.length) (fun p q=>vec l (2*l.length) p t q)) p m*lI (ofFn (2*l.length) (W l)) m q)=vec l (2*l.length) p (t+1) q:=jq (fun m hm=>by rw[GY _ hp hm,GY _ hm hq]);have hb:=BM l (2*l.length) p aa (t+1) q;have:=MA (show t+1≤13 by omega);rw[e1,bU aa aa]
  rw[em]at hmm;refine bZ ?_;simp only[eC.l2];rw[ep (i:=t) aa];exact bq aa (bw hmm h1)

omit hm in
theorem Su (hk1:1≤k) (Y:List (List Int)) (r:List (List Int)) (hr:Ev (fun f=>eC.l2 f Y (ofFn (2*l.length) (W l)) (m6 (2*l.length) (2*l.length)) ((k - 1:Nat):Int) 0 n l) r):
  ∀(d i:Nat),i+d=2*l.length→Ev (fun f=>eC.l1 f (k:Int) Y (ofFn (2*l.length) (W l)) (m6 (2*l.length) i) ((2*l.length:Nat):Int) (i:Int) n l) r:=by
 obtain⟨g1,g2,g3⟩:=fL h;intro d
 induction d with
 | zero=>
  intro i hi;obtain rfl:i=2*l.length:=by omega
  refine bZ ?_;simp only[eC.l1];rw[bU (x:=(k:Int) - 1) aa aa,show(k:Int) - 1=((k - 1:Nat):Int) by omega];exact cD aa hr
 | succ d ih=>
  intro i hi;have h1:=ih (i+1) aa;have hl:=EP (2*l.length) i;have hrw:(aM (m6 (2*l.length) i) (i:Int)).length=2*l.length:=by rw[G8 _ i aa,jQ]
  refine bZ ?_;simp only[eC.l1];rw[agQ i,MF _ i aa,ep (i:=i) aa];exact bq aa (bq aa (bq aa (bq aa h1)))

omit h hm hk in
theorem Sv:m6 (2*l.length) (2*l.length)=ofFn (2*l.length) (fun p q=>vec l (2*l.length) p 0 q):=by
 refine qJ (fun p q hp hq=> ?_)
 show _=if q=p then (1:Int) else 0
 by_cases c:q=p
 ·rw[aC c,aC ⟨c.symm,hp⟩]
 ·rw[aA c,aA (fun z=>c z.1.symm)]

theorem GR:Ev (fun f=>eC.f f n l (k:Int)) (mZ l m k):=by
 obtain⟨g1,g2,g3⟩:=fL h;have hs:=EL n aa aa;rw[show n.toNat=m by omega]at hs;unfold eC.f kY.f;refine bw hs ?_;unfold mZ
 by_cases c:k=0
 ·rw[aC c,MD,EP]
  subst c;exact bq rfl (Ss h m hm m 0 aa)
 ·rw[aA c]
  have hE:=RL h;rw[RW]at hE;have h2:=EL (2*(l.length:Int)) aa aa;rw[show(2*(l.length:Int)).toNat=2*l.length by omega,MD]at h2;have h3:=Sj h m hm (fun p q=>vec l (2*l.length) p (k - 1) q) (2*l.length) 0 aa;rw[ML]at h3;have h4:=St h k hk aa _ _ h3 (k - 1) 0 aa;rw[← Sv]at h4;have h5:=Su h k hk aa _ _ h4 (2*l.length) 0 aa;refine cD aa (bw hE (bw (bD _) ?_));rw[bU (x:=2*(l.length:Int)) aa aa];refine bw h2 ?_;rw[EP];exact h5

end
theorem Mc (n:Int) (l:List (List Int)) (a:Int) (hl:Mod l):Ev (fun k=>vw.f k n l a) (pQ n l a 0):=by
 have h1:=zH n l hl;unfold vw.f xJ.f pQ;rw[mD]
 by_cases hg:e5 n l=true
 ·rw[hg]at h1
  rw[aC hg]
  by_cases c:0≤a∧a≤12
  ·rw[aV c,aC c]
   exact bw h1 (bq rfl (bw (bD _) (bq rfl (bD _))))
  ·rw[cz c,aA c]
   exact bw h1 (bq rfl (bw (bD _) (cD az (bD _))))
 ·rw[ahm]at hg
  rw[hg]at h1;rw[aA (by rw[hg];decide)];exact bw h1 (cD az (bD _))

theorem Sz (l:List (List Int)) (m k:Nat) (hm:m≤8):Mod (mZ l m k):=by
 have hx: ∀f:Nat→Nat→Int,Mod (ofFn m f):=by
  intro f;refine⟨by rw[nV];omega,fun r hr=> ?_⟩;simp only[ofFn,ahv]at hr;obtain⟨p,_,rfl⟩:=hr;rw[jQ]
  omega
 unfold mZ
 split
 ·exact hx _
 ·exact hx _

theorem Rn (n:Int) (l:List (List Int)) (a:Int) (hl:Mod l): ∃r:List (List Int)×Int,Mod r.1∧Ev (fun k=>eK.f k n l a) r∧Ev (fun k=>rM.f k n l a) r:=by
 unfold eK.f rM.f;have h1:=MB n l a 0 hl;have h2:=Mc n l a hl
 by_cases c:pQ n l a 0=0
 ·obtain⟨hg,ha,hb⟩:=MC c
  obtain⟨g1,g2,g3⟩:=fL hg;obtain⟨k,rfl⟩:=agO ha;obtain⟨m,hm⟩:=agO (show 0≤n by omega);refine⟨(mZ l m k,0),Sz l m k aa, ?_, ?_⟩
  ·exact bw h1 (bq c (Sr hg m hm k aa))
  ·exact bw h2 (bq c (bw (GR hg m hm k aa) (bD _)))
 ·exact⟨([],pQ n l a 0),⟨by simp,fun r hr=>absurd hr bJ⟩,bw h1 (cD c (bD _)),bw h2 (cD c (bD _))⟩

def um (l:List (List Int)) (w:List Int):Nat→Nat→Bool
 | 0,_=>true
 | d+1,i=>next l (rd w (i:Int)).toNat (rd w (((i+1) % w.length:Nat):Int)).toNat && um l w d (i+1)

theorem SA (i n:Nat) (h:i<1048576):Int.tmod (wrap64 ((i:Int)+1)) (n:Int)=(((i+1) % n:Nat):Int):=by
 rw[ep aa,aie aa]
 rfl

section
variable {n:Int} {l:List (List Int)} (h:e5 n l=true) {w:List Int}
include h

theorem SB (hd:m5 l w=true) (hw:w.length≤1048576): ∀(d i:Nat),i+d=w.length→Ev (fun k=>kZ.l0 k w w (w.length:Int) (i:Int) n l) (um l w d i && decide ((w.length:Int)>0)):=by
 obtain⟨g1,g2,g3⟩:=fL h;intro d
 induction d with
 | zero=>
  intro i hi;refine bZ ?_;simp only[kZ.l0];unfold um;rw[ahg]
  repeat (first|with_reducible exact bD _ |dsimp only |refine cS ?_ |refine cT ?_ |simp only[bne_self_eq_false,agV,agW,agP,agR]|rw[bU aa aa]|((with_reducible refine bQ (congrArg some ?_));rfl))
 | succ d ih=>
  intro i hi;have hm:(i+1) % w.length<w.length:=ahn _ aa;obtain⟨e1,r1⟩:=ql hd (show i<w.length by omega);obtain⟨e2,r2⟩:=ql hd hm;have:=ih (i+1) aa;have ha:=sI h r1;have hb:=sI h r2;have hx:=EK (rd w (i:Int)).toNat aa;rw[← e1]at ha hx;rw[← e2]at hb;refine bZ ?_;simp only[kZ.l0];unfold um next;rw[SA i w.length aa,ep aa,hx]
  by_cases c1:Pure.hd l (rd w (i:Int)).toNat=tl l (rd w (((i+1) % w.length:Nat):Int)).toNat
  ·rw[aV c1,ahg]
   by_cases c2:(rd w (((i+1) % w.length:Nat):Int)).toNat=inv (rd w (i:Int)).toNat
   ·rw[cz (show ¬((rd w (((i+1) % w.length:Nat):Int)).toNat≠inv (rd w (i:Int)).toNat) from fun e=>e c2),ahf,ahf]
    have U7:rd w (((i+1) % w.length:Nat):Int)=((inv (rd w (i:Int)).toNat:Nat):Int):=by omega
    repeat (first|with_reducible exact bD _ |dsimp only |with_reducible refine bw (bQ ha) ?_ |with_reducible refine bw (bQ hb) ?_ |refine cS ?_ |refine cT ?_ |simp only[bne_self_eq_false,agV,agW,agP,agR]|rw[bU aa aa]|with_reducible exact(bQ ha)|with_reducible exact(bQ hb)|((with_reducible refine bQ (congrArg some ?_));rfl))
   ·rw[aV (show(rd w (((i+1) % w.length:Nat):Int)).toNat≠inv (rd w (i:Int)).toNat from c2),ahg]
    have U7: ¬rd w (((i+1) % w.length:Nat):Int)=((inv (rd w (i:Int)).toNat:Nat):Int):=by omega
    repeat (first|with_reducible exact bD _ |dsimp only |with_reducible refine bw (bQ ha) ?_ |with_reducible refine bw (bQ hb) ?_ |refine cS ?_ |refine cT ?_ |simp only[bne_self_eq_false,agV,agW,agP,agR]|rw[bU aa aa]|with_reducible exact(bQ ha)|with_reducible exact(bQ hb)|((with_reducible refine bQ (congrArg some ?_));rfl))
    exact this
  ·rw[cz c1,ahf,ahf,ahf]
   repeat (first|with_reducible exact bD _ |dsimp only |with_reducible refine bw (bQ ha) ?_ |with_reducible refine bw (bQ hb) ?_ |refine cS ?_ |refine cT ?_ |simp only[bne_self_eq_false,agV,agW,agP,agR]|rw[bU aa aa]|with_reducible exact(bQ ha)|with_reducible exact(bQ hb)|((with_reducible refine bQ (congrArg some ?_));rfl))

theorem MM (hd:m5 l w=true) (hw:w.length≤1048576):Ev (fun k=>kZ.f k n l w) (um l w w.length 0 && decide ((w.length:Int)>0)):=by
 unfold kZ.f;exact SB h hd hw w.length 0 aa

end
theorem Rk (n:Int) (l:List (List Int)) (w:List Int) (hl:Mod l) (hw:w.length≤1048576): ∃r:Bool×Int,Ev (fun k=>xK.f k n l w) r∧Ev (fun k=>rL.f k n l w) r:=by
 unfold xK.f rL.f;have h1:=zC n l hl;have h2:=zH n l hl
 by_cases hg:e5 n l=true
 ·rw[hg]at h1 h2
  refine⟨(iy l w,0), ?_, ?_⟩
  ·repeat (first|with_reducible exact bD _ |dsimp only |with_reducible refine bw (h1) ?_ |with_reducible refine bw (EO hg hw) ?_ |refine cS ?_ |refine cT ?_ |simp only[bne_self_eq_false,agV,agW,agP,agR]|rw[bU aa aa]|with_reducible exact(h1)|with_reducible exact(EO hg hw)|((with_reducible refine bQ (congrArg some ?_));rfl))
  ·repeat (first|with_reducible exact bD _ |dsimp only |with_reducible refine bw (h2) ?_ |with_reducible refine bw (BF hg hw) ?_ |refine cS ?_ |refine cT ?_ |simp only[bne_self_eq_false,agV,agW,agP,agR]|rw[bU aa aa]|with_reducible exact(h2)|with_reducible exact(BF hg hw)|((with_reducible refine bQ (congrArg some ?_));rfl))
 ·rw[ahm]at hg
  rw[hg]at h1 h2;refine⟨(false,1), ?_, ?_⟩
  ·repeat (first|with_reducible exact bD _ |dsimp only |with_reducible refine bw (h1) ?_ |refine cS ?_ |refine cT ?_ |simp only[bne_self_eq_false,agV,agW,agP,agR]|rw[bU aa aa]|with_reducible exact(h1)|((with_reducible refine bQ (congrArg some ?_));rfl))
  ·repeat (first|with_reducible exact bD _ |dsimp only |with_reducible refine bw (h2) ?_ |refine cS ?_ |refine cT ?_ |simp only[bne_self_eq_false,agV,agW,agP,agR]|rw[bU aa aa]|with_reducible exact(h2)|((with_reducible refine bQ (congrArg some ?_));rfl))
theorem MN (l:List (List Int)) (w:List Int): ∀(d i:Nat),i+1+d=w.length→steps l w d (i+1)=true→um l w (d+1) i=next l (rd w ((w.length - 1:Nat):Int)).toNat (rd w 0).toNat:=by
 intro d
 induction d with
 | zero=>
  intro i hi hs;unfold um um;rw[ahA,show(i+1) % w.length=0 by rw[show i+1=w.length by omega,ahK],show i=w.length - 1 by omega]
  rfl
 | succ d ih=>
  intro i hi hs;unfold steps at hs;rw[ahh]at hs;unfold um;rw[ag7 aa,ih (i+1) aa hs.2];have:=hs.1;rw[show i+1 - 1=i by omega]at this;rw[this,ahg]

theorem Rl (n:Int) (l:List (List Int)) (w:List Int) (hl:Mod l) (hw:w.length≤1048576): ∃r:Bool×Int,Ev (fun k=>xL.f k n l w) r∧Ev (fun k=>oQ.f k n l w) r:=by
 unfold xL.f oQ.f;have h1:=zC n l hl;have h2:=zH n l hl
 by_cases hg:e5 n l=true
 ·rw[hg]at h1 h2
  have w1:=EO hg hw;have w2:=BF hg hw
  by_cases hwk:iy l w=true
  ·rw[hwk]at w1 w2
   have s1:Ev (fun k=>lJ.f k n l w) 0:=by
    unfold lJ.f
    repeat (first|with_reducible exact bD _ |dsimp only |with_reducible refine bw (h1) ?_ |with_reducible refine bw (w1) ?_ |refine cS ?_ |refine cT ?_ |simp only[bne_self_eq_false,agV,agW,agP,agR]|rw[bU aa aa]|with_reducible exact(h1)|with_reducible exact(w1)|((with_reducible refine bQ (congrArg some ?_));rfl))
   have s2:Ev (fun k=>kF.f k n l w) 0:=by
    unfold kF.f uj.f uk.f;refine bw (bw h2 (bq rfl (bw (bw w2 (bD _)) (bq rfl (bD _))))) (bD _)
   unfold iy at hwk;rw[ahh,ahh,decide_eq_true_iff]at hwk;obtain⟨hlen,hd,hs⟩:=hwk;have hc:=MN l w (w.length - 1) 0 aa hs;rw[show w.length - 1+1=w.length by omega]at hc;have i1:=MM hg hd hw;rw[hc,aV aa,ahA]at i1;obtain⟨e1,r1⟩:=ql hd (show w.length - 1<w.length by omega);obtain⟨e2,r2⟩:=ql hd (show 0<w.length by omega);have hn:=ug hg r1 r2;rw[← e1,← e2]at hn;have c1:Ev (fun _=>ld.f n l w) (next l (rd w ((w.length - 1:Nat):Int)).toNat (rd w 0).toNat):=by
    unfold ld.f;rw[bU (x:=(w.length:Int) - 1) aa aa,show(w.length:Int) - 1=((w.length - 1:Nat):Int) by omega]
    repeat (first|with_reducible exact bD _ |dsimp only |with_reducible refine bw (bQ hn) ?_ |refine cS ?_ |refine cT ?_ |simp only[bne_self_eq_false,agV,agW,agP,agR]|rw[bU aa aa]|with_reducible exact(bQ hn)|((with_reducible refine bQ (congrArg some ?_));rfl))
   refine⟨(next l (rd w ((w.length - 1:Nat):Int)).toNat (rd w 0).toNat,0), ?_, ?_⟩
   ·repeat (first|with_reducible exact bD _ |dsimp only |with_reducible refine bw (s1) ?_ |with_reducible refine bw (c1) ?_ |refine cS ?_ |refine cT ?_ |simp only[bne_self_eq_false,agV,agW,agP,agR]|rw[bU aa aa]|with_reducible exact(s1)|with_reducible exact(c1)|((with_reducible refine bQ (congrArg some ?_));rfl))
   ·repeat (first|with_reducible exact bD _ |dsimp only |with_reducible refine bw (s2) ?_ |with_reducible refine bw (i1) ?_ |refine cS ?_ |refine cT ?_ |simp only[bne_self_eq_false,agV,agW,agP,agR]|rw[bU aa aa]|with_reducible exact(s2)|with_reducible exact(i1)|((with_reducible refine bQ (congrArg some ?_));rfl))
  ·rw[ahm]at hwk
   rw[hwk]at w1 w2;have s1:Ev (fun k=>lJ.f k n l w) 2:=by
    unfold lJ.f
    repeat (first|with_reducible exact bD _ |dsimp only |with_reducible refine bw (h1) ?_ |with_reducible refine bw (w1) ?_ |refine cS ?_ |refine cT ?_ |simp only[bne_self_eq_false,agV,agW,agP,agR]|rw[bU aa aa]|with_reducible exact(h1)|with_reducible exact(w1)|((with_reducible refine bQ (congrArg some ?_));rfl))
   have s2:Ev (fun k=>kF.f k n l w) 2:=by
    unfold kF.f uj.f uk.f;refine bw (bw h2 (bq rfl (bw (bw w2 (bD _)) (cD az (bD _))))) (bD _)
   refine⟨(false,2), ?_, ?_⟩
   ·repeat (first|with_reducible exact bD _ |dsimp only |with_reducible refine bw (s1) ?_ |refine cS ?_ |refine cT ?_ |simp only[bne_self_eq_false,agV,agW,agP,agR]|rw[bU aa aa]|with_reducible exact(s1)|((with_reducible refine bQ (congrArg some ?_));rfl))
   ·repeat (first|with_reducible exact bD _ |dsimp only |with_reducible refine bw (s2) ?_ |refine cS ?_ |refine cT ?_ |simp only[bne_self_eq_false,agV,agW,agP,agR]|rw[bU aa aa]|with_reducible exact(s2)|((with_reducible refine bQ (congrArg some ?_));rfl))
 ·rw[ahm]at hg
  rw[hg]at h1 h2;have s1:Ev (fun k=>lJ.f k n l w) 1:=by
   unfold lJ.f
   repeat (first|with_reducible exact bD _ |dsimp only |with_reducible refine bw (h1) ?_ |refine cS ?_ |refine cT ?_ |simp only[bne_self_eq_false,agV,agW,agP,agR]|rw[bU aa aa]|with_reducible exact(h1)|((with_reducible refine bQ (congrArg some ?_));rfl))
  have s2:Ev (fun k=>kF.f k n l w) 1:=by
   unfold kF.f uj.f;refine bw (bw h2 (cD az (bD _))) (bD _)
  refine⟨(false,1), ?_, ?_⟩
  ·repeat (first|with_reducible exact bD _ |dsimp only |with_reducible refine bw (s1) ?_ |refine cS ?_ |refine cT ?_ |simp only[bne_self_eq_false,agV,agW,agP,agR]|rw[bU aa aa]|with_reducible exact(s1)|((with_reducible refine bQ (congrArg some ?_));rfl))
  ·repeat (first|with_reducible exact bD _ |dsimp only |with_reducible refine bw (s2) ?_ |refine cS ?_ |refine cT ?_ |simp only[bne_self_eq_false,agV,agW,agP,agR]|rw[bU aa aa]|with_reducible exact(s2)|((with_reducible refine bQ (congrArg some ?_));rfl))
def turn (w:List Int) (k:Nat):List Int:=w.drop k++w.take k

theorem lS (w:List Int) (k:Nat):(turn w k).length=w.length:=by
 unfold turn;rw[ahj,ahL,ahw]
 omega

def bf:List Int→List Int→Bool
 | x :: xs,y :: ys=>if x=y then bf xs ys else decide (x<y)
 | _,_=>false

theorem He (a:List Int):bf a a=false:=by
 induction a with
 | nil=>rfl
 | cons x xs ih=>unfold bf;rw[aC rfl,ih]

theorem MO: ∀(a b:List Int),a.length=b.length→(bf a b || bf b a)=decide (a≠b):=by
 intro a
 induction a with
 | nil=>
  intro b hb
  match b,hb with
  | [],_=>rfl
  | y :: ys,hb=>simp at hb
 | cons x xs ih=>
  intro b hb
  match b,hb with
  | [],hb=>simp at hb
  | y :: ys,hb=>
   unfold bf
   by_cases c:x=y
   ·subst c
    rw[aC rfl,aC rfl,ih ys (by simpa using hb)]
    by_cases c2:xs=ys
    ·rw[c2];simp
    ·rw[aV c2,aV (by intro e;exact c2 (ah5 e).2)]
   ·rw[aA c,aA (fun e=>c e.symm),aV (show x :: xs≠y :: ys from fun e=>c (ah5 e).1)]
    by_cases c2:x<y
    ·rw[aV c2,Bool.true_or]
    ·rw[cz c2,aV aa,ahY]

theorem MP (w:List Int) (k:Nat) (hk:k≤w.length) (hw:w.length≤1000):lT.f w (k:Int)=some (turn w k):=by
 unfold lT.f mC.f turn;rw[aC aa,aC aa,agQ];have h1:(w.drop k).length≤1000:=by rw[ahL];omega
 have h2:(w.take k).length≤1000:=by rw[ahw];omega
 simp only[ag8,agR,ag9];rw[aC aa,ag8,aC aa]

theorem MQ (w:List Int) (k:Nat) (hk:k≤w.length) (hw:w.length≤1000) (h0:0<w.length):oU.f w (k:Int)=some (turn w k):=by
 unfold oU.f turn;rw[aC aa,aC aa,aC h0,aC hw,agQ]

theorem Hf (a b:List Int) (hab:a.length=b.length) (hl:a.length≤1000):Ev (fun k=>lf.f k a b) (bf a b):=by
 have: ∀(d i:Nat),i+d=a.length→Ev (fun k=>lf.l0 k a b (i:Int)) (bf (a.drop i) (b.drop i)):=by
  intro d
  induction d with
  | zero=>
   intro i hi;rw[ag5 aa];refine bZ ?_;simp only[lf.l0];exact cD aa (bD _)
  | succ d ih=>
   intro i hi;have h1:=ih (i+1) aa;rw[ag4 (by omega:i<a.length),ag4 (by omega:i<b.length)];refine bZ ?_;simp only[lf.l0];unfold bf;rw[gf aa,gf aa,ep (i:=i) aa]
   by_cases c:a[i]=b[i]
   ·rw[aC c]
    exact bq aa (bq aa (bq aa (bq c h1)))
   ·rw[aA c]
    exact bq aa (bq aa (bq aa (cD c (bD _))))
 exact this a.length 0 aa

theorem SC (a b:List Int) (hl:a.length≤1048576):Ev (fun k=>nC.f k a b) (decide (a=b)):=by
 unfold nC.f
 by_cases h:a.length=b.length
 ·refine bq aa ?_
  have: ∀(d i:Nat),i+d=a.length→Ev (fun k=>nC.l0 k a b (a.length:Int) (i:Int)) (decide (a.drop i=b.drop i)):=by
   intro d
   induction d with
   | zero=>
    intro i hi;refine bZ ?_;simp only[nC.l0];rw[ag5 aa,ag5 aa]
    repeat (first|with_reducible exact bD _ |dsimp only |refine cS ?_ |refine cT ?_ |simp only[bne_self_eq_false,agV,agW,agP,agR]|rw[bU aa aa]|((with_reducible refine bQ (congrArg some ?_));rfl))
   | succ d ih=>
    intro i hi;refine bZ ?_;simp only[nC.l0];rw[ag4 (by omega:i<a.length),ag4 (by omega:i<b.length),ep aa]
    by_cases e:rd a i=rd b i
    ·repeat (first|with_reducible exact bD _ |dsimp only |refine cS ?_ |refine cT ?_ |simp only[bne_self_eq_false,agV,agW,agP,agR]|rw[bU aa aa]|((with_reducible refine bQ (congrArg some ?_));rfl))
     have:=ih (i+1) aa;rw[gf aa,gf aa]at e;rw[e,LX];exact this
    ·rw[cz (fun h=>e (by rw[gf aa,gf aa];exact(ah5 h).1))]
     repeat (first|with_reducible exact bD _ |dsimp only |refine cS ?_ |refine cT ?_ |simp only[bne_self_eq_false,agV,agW,agP,agR]|rw[bU aa aa]|((with_reducible refine bQ (congrArg some ?_));rfl))
  exact this a.length 0 aa
 ·rw[cz (fun e=>h (by rw[e]))]
  repeat (first|with_reducible exact bD _ |dsimp only |refine cS ?_ |refine cT ?_ |simp only[bne_self_eq_false,agV,agW,agP,agR]|rw[bU aa aa]|((with_reducible refine bQ (congrArg some ?_));rfl))

theorem SD (a b:List Int) (hab:a.length=b.length) (hl:a.length≤1000): ∃z:Int,Ev (fun k=>nD.f k a b) z∧decide (z<0)=bf a b:=by
 have: ∀(d i:Nat),i+d=a.length→∃z:Int,Ev (fun k=>nD.l0 k a b a (a.length:Int) (i:Int)) z∧decide (z<0)=bf (a.drop i) (b.drop i):=by
  intro d
  induction d with
  | zero=>
   intro i hi;rw[ag5 aa];refine⟨0, ?_,rfl⟩;refine bZ ?_;simp only[nD.l0];exact cD aa (cD aa (bD _))
  | succ d ih=>
   intro i hi;obtain⟨z,h1,h2⟩:=ih (i+1) aa;rw[ag4 (by omega:i<a.length),ag4 (by omega:i<b.length)];have hc: ∀x y:Int,vz.f x y=some (if x<y then -1 else if x>y then 1 else 0):=by
    intro x y;unfold vz.f m8.f;simp only[bne_self_eq_false,ag8,if_false,Bool.false_eq_true]
    split
    ·rfl
    ·split<;>rfl
   unfold bf
   by_cases c:a[i]=b[i]
   ·refine⟨z, ?_,by rw[aC c];exact h2⟩
    refine bZ ?_;simp only[nD.l0];rw[hc,gf aa,gf aa,ep (i:=i) aa,c,aA (Int.lt_irrefl _),aA (Int.lt_irrefl _)];exact bq aa (bq aa (bq aa (cD aa (bq aa (bw (bD _) (bq rfl h1))))))
   ·refine⟨if a[i]<b[i] then -1 else if a[i]>b[i] then 1 else 0, ?_, ?_⟩
    ·refine bZ ?_;simp only[nD.l0]
     rw[hc,gf aa,gf aa];refine bq aa (bq aa (bq aa (cD aa (bq aa (bw (bD _) (cD ?_ (bD _)))))))
     split
     ·decide
     ·rw[aC aa]
      decide
    ·rw[aA c]
     by_cases c2:a[i]<b[i]
     ·rw[aC c2,aV c2];rfl
     ·rw[aA c2,aC aa,cz c2];rfl
 obtain⟨z,h1,h2⟩:=this a.length 0 aa;rw[ahX,ahX]at h2;exact⟨z,h1,h2⟩

def oM (w:List Int):Nat→Nat→Bool
 | 0,_=>true
 | d+1,k=>decide (turn w k≠w) && oM w d (k+1)

def least (w:List Int):Nat→Nat→List Int→List Int
 | 0,_,b=>b
 | d+1,k,b=>if bf (turn w k) b=true then least w d (k+1) (turn w k) else least w d (k+1) b

theorem SE (w:List Int) (hw:w.length≤1000): ∀(d k:Nat),k+d=w.length→Ev (fun f=>nE.l0 f w (k:Int)) (oM w d k):=by
 intro d
 induction d with
 | zero=>
  intro k hk;refine bZ ?_;simp only[nE.l0];exact cD aa (bD _)
 | succ d ih=>
  intro k hk;have h1:=ih (k+1) aa;have ht:=MP w k aa hw;have hl:=lS w k;have b1:=Hf (turn w k) w hl aa;have b2:=Hf w (turn w k) hl.symm aa;have ho:=MO (turn w k) w hl;unfold oM;rw[← ho];refine bZ ?_;simp only[nE.l0];rw[ep (i:=k) aa];refine bq aa (bw (bQ ht) ?_);cases c1:bf (turn w k) w with
  | true=>
   rw[c1]at b1;rw[Bool.true_or,ahg];exact bw b1 (bq rfl h1)
  | false=>
   rw[c1]at b1;refine bw b1 (cD az ?_);cases c2:bf w (turn w k) with
   | true=>
    rw[c2]at b2;rw[ahY,ahg];exact bw b2 (bq rfl h1)
   | false=>
    rw[c2]at b2;rw[ahY,ahf];exact bw b2 (cD az (bD _))

theorem SF (w:List Int) (hw:w.length≤1000): ∀(d k:Nat) (b:List Int),k+d=w.length→b.length=w.length→Ev (fun f=>m9.l0 f w b (k:Int)) (least w d k b):=by
 intro d
 induction d with
 | zero=>
  intro k b hk hb;refine bZ ?_;simp only[m9.l0];exact cD aa (bD _)
 | succ d ih=>
  intro k b hk hb;have ht:=MP w k aa hw;have hl:=lS w k;have b1:=Hf (turn w k) b aa aa;unfold least;refine bZ ?_;simp only[m9.l0];rw[ep (i:=k) aa];refine bq aa (bw (bQ ht) ?_);cases c1:bf (turn w k) b with
  | true=>
   rw[c1]at b1;rw[aC rfl];exact bw b1 (bq rfl (ih (k+1) _ aa hl))
  | false=>
   rw[c1]at b1;rw[aA az];exact bw b1 (cD az (ih (k+1) b aa hb))

theorem SG (w:List Int) (hw:w.length≤1000) (h0:0<w.length): ∀(d k:Nat) (b:List Int),k+d=w.length→b.length=w.length→Ev (fun f=>nF.l0 f w b (w.length:Int) (k:Int)) (least w d k b):=by
 intro d
 induction d with
 | zero=>
  intro k b hk hb;refine bZ ?_;simp only[nF.l0];exact cD aa (bD _)
 | succ d ih=>
  intro k b hk hb;have ht:=MQ w k aa hw h0;have hl:=lS w k;obtain⟨z,z1,z2⟩:=SD (turn w k) b aa aa;unfold least;refine bZ ?_;simp only[nF.l0];rw[ep (i:=k) aa];refine bq aa (bw (bQ ht) (bw z1 ?_));cases c1:bf (turn w k) b with
  | true=>
   rw[c1]at z2;rw[aC rfl];exact bq (of_decide_eq_true z2) (ih (k+1) _ aa hl)
  | false=>
   rw[c1]at z2;rw[aA az];exact cD (of_decide_eq_false z2) (ih (k+1) b aa hb)

theorem BN (w:List Int):turn w 0=w:=by
 unfold turn;rw[ahX,List.take_zero,aha]

def gB (w:List Int):List Int:=least w (w.length - 1) 1 w

theorem SH (w:List Int): ∀(d k:Nat) (b:List Int),b.length=w.length→(least w d k b).length=w.length:=by
 intro d
 induction d with
 | zero=>intro k b hb;exact hb
 | succ d ih=>
  intro k b hb;unfold least
  split
  ·exact ih _ _ (lS w k)
  ·exact ih _ _ hb

theorem SI (w:List Int) (hw:w.length≤1000) (h0:0<w.length):Ev (fun f=>m9.f f w) (gB w):=by
 have ho:mC.f w=some w:=by
  unfold mC.f;rw[ag8,agR,ag9,aC aa]
 unfold m9.f;refine bw (bQ ho) ?_;exact SF w hw (w.length - 1) 1 w aa rfl

theorem SJ (w:List Int) (hw:w.length≤1000) (h0:0<w.length):Ev (fun f=>nF.f f w) (gB w):=by
 unfold nF.f qL.f;refine bw (bq aa (bD _)) ?_;have h:=SG w hw h0 w.length 0 w aa rfl;have e:least w w.length 0 w=gB w:=by
  obtain⟨m,hm⟩: ∃m,w.length=m+1:=⟨w.length - 1,by omega⟩;unfold gB;rw[hm,ahB]
  show(if bf (turn w 0) w=true then _ else _)=_
  rw[BN,He,aA az]
 rw[e]at h;exact h

section
variable {n:Int} {l:List (List Int)} (h:e5 n l=true) {w:List Int} (hwk:iy l w=true)
include h hwk

def kU (l:List (List Int)) (w:List Int):Bool:=next l (rd w ((w.length - 1:Nat):Int)).toNat (rd w 0).toNat

theorem GQ:Ev (fun k=>kZ.f k n l w) (kU l w):=by
 obtain⟨h1,h12,hd,hs⟩:=oP hwk;have hc:=MN l w (w.length - 1) 0 aa hs;rw[show w.length - 1+1=w.length by omega]at hc;have i1:=MM h hd aa;rw[hc,aV aa,ahA]at i1;exact i1

theorem MR:Ev (fun _=>ld.f n l w) (kU l w):=by
 obtain⟨h1,h12,hd,hs⟩:=oP hwk;obtain⟨e1,r1⟩:=ql hd (show w.length - 1<w.length by omega);obtain⟨e2,r2⟩:=ql hd (show 0<w.length by omega);have hn:=ug h r1 r2;rw[← e1,← e2]at hn;unfold ld.f;rw[bU (x:=(w.length:Int) - 1) aa aa,show(w.length:Int) - 1=((w.length - 1:Nat):Int) by omega];exact bq aa (bq aa (bq aa (bw (bQ hn) (bD _))))

theorem SK:Ev (fun k=>nE.f k n l w) (oM w (w.length - 1) 1 && kU l w):=by
 obtain⟨h1,h12,hd,hs⟩:=oP hwk;have hc:=MR h hwk;have hn:=SE w aa (w.length - 1) 1 aa;unfold nE.f;cases c:kU l w with
 | true=>
  rw[c]at hc;rw[ahA];exact bw hc (bq rfl hn)
 | false=>
  rw[c]at hc;rw[ahH];exact bw hc (cD az (bD _))

theorem L5:Ev (fun k=>oV.f k n l w) (oM w (w.length - 1) 1 && kU l w):=by
 obtain⟨h1,h12,hd,hs⟩:=oP hwk;have hc:=GQ h hwk;have loop: ∀(d k:Nat),k+d=w.length→Ev (fun f=>oV.l0 f w (k:Int) n l) (oM w d k && kU l w):=by
  intro d
  induction d with
  | zero=>
   intro k hk;refine bZ ?_;simp only[oV.l0];exact cD aa (bw hc (bD _))
  | succ d ih=>
   intro k hk;have h2:=ih (k+1) aa;have ht:=MQ w k aa aa aa;have hl:=lS w k;have he:=SC (turn w k) w aa;unfold oM;refine bZ ?_;simp only[oV.l0];rw[ep (i:=k) aa];refine bq aa (bw (bQ ht) ?_)
   by_cases c:turn w k=w
   ·rw[aV c]at he
    rw[cz (fun z=>z c),ahf,ahf];exact bw he (bq rfl (bD _))
   ·rw[cz c]at he
    rw[aV c,ahg];exact bw he (cD az h2)
 exact loop (w.length - 1) 1 aa

end
theorem xM {n:Nat} {f g:Nat→Int} (h: ∀i,i<n→f i≤g i):Sm n f≤Sm n g:=by
 induction n with
 | zero=>exact ahC _
 | succ n ih=>
  have h1:=ih (fun i hi=>h i aa);have h2:=h n aa;unfold Sm
  omega

theorem MS {n:Nat} {f:Nat→Int} (h: ∀i,i<n→0≤f i) {i:Nat} (hi:i<n):f i≤Sm n f:=by
 induction n with
 | zero=>omega
 | succ n ih=>
  have h2:=h n aa;have h3:=uh (n:=n) (f:=f) (fun i hi=>h i aa);unfold Sm
  by_cases e:i=n
  ·subst e;omega
  ·have:=ih (fun i hi=>h i aa) aa
   omega

theorem Hg {n p:Nat} (hp:p<n):Sm n (fun r=>if r=p then 1 else 0)=1:=by
 have:=zL n (fun _=>1) hp
 simpa using this

theorem SL (n:Nat) (c:Int):Sm n (fun _=>c)=n*c:=by
 induction n with
 | zero=>simp[Sm]
 | succ n ih=>unfold Sm;rw[ih,Int.natCast_add,ahI];simp

theorem SM (m:Nat):inv (2*m)=2*m+1:=by unfold inv;rw[aC aa]
theorem SN (m:Nat):inv (2*m+1)=2*m:=by unfold inv;rw[aA aa];omega
theorem inv_inv (p:Nat):inv (inv p)=p:=by
 unfold inv
 split<;>split<;>omega
theorem Gs {p m:Nat} (h:p<2*m):inv p<2*m:=by
 unfold inv
 split<;>omega

theorem SP (m:Nat) (f:Nat→Int):Sm (2*m) (fun q=>f (inv q))=Sm (2*m) f:=by
 induction m with
 | zero=>rfl
 | succ m ih=>
  show Sm (2*m) (fun q=>f (inv q))+f (inv (2*m))+f (inv (2*m+1))=Sm (2*m) f+f (2*m)+f (2*m+1)
  rw[ih,SM,SN]
  omega

theorem MT (l:List (List Int)) (p:Nat):hd l (inv p)=tl l p:=by
 unfold hd tl inv
 split<;>split<;>(try omega)
 ·rename_i h1 h2
  rw[aA aa,show(p+1) / 2=p / 2 by omega]
 ·rename_i h1 h2
  rw[aC aa,show(p - 1) / 2=p / 2 by omega]

theorem SQ (l:List (List Int)) (p:Nat):tl l (inv p)=hd l p:=by rw[← MT,inv_inv]

theorem Hh (l:List (List Int)) (p q:Nat) (h:next l p q=true):next l (inv q) (inv p)=true:=by
 rw[BL]at h ⊢;rw[MT,SQ];refine⟨h.1.symm,fun e=>h.2 ?_⟩;rw[inv_inv]at e;rw[e]

section
variable (l:List (List Int)) (v:Int)

def aw (t q:Nat):Int:=Sm (2*l.length) (fun p=>if tl l p=v then vec l (2*l.length) p t q else 0)
def fX (t:Nat):Int:=Sm (2*l.length) (aw l v t)
def od (p:Nat):Int:=Sm (2*l.length) (W l p)

theorem MV (p:Nat):0≤od l p:=uh (fun q _=>(rN l p q).1)

theorem SR {p q:Nat} (hq:q<2*l.length) (h:next l p q=true):1≤od l p:=by
 have:=MS (f:=W l p) (fun q _=>(rN l p q).1) hq;unfold W at this;rw[aC h]at this;exact this

theorem BO (hl:l.length≤10) (t q:Nat):0≤aw l v t q:=uh (fun p _=>by
 split
 ·exact(BM l _ p aa t q).1
 ·exact ahC _)

theorem MW {q:Nat} (hq:q<2*l.length):aw l v 0 q=if tl l q=v then 1 else 0:=by
 have:=zL (2*l.length) (fun p=>if tl l p=v then (1:Int) else 0) hq;rw[← this];refine jq (fun p _=> ?_)
 show(if tl l p=v then (if q=p then (1:Int) else 0) else 0)=(if p=q then 1 else 0)*(if tl l p=v then 1 else 0)
 by_cases e:p=q
 ·subst e
  simp
 ·rw[aA (show ¬q=p from fun z=>e z.symm),aA e]
  simp

theorem Hi (t q:Nat):aw l v (t+1) q=Sm (2*l.length) (fun r=>aw l v t r*W l r q):=by
 have e: ∀r,aw l v t r*W l r q=Sm (2*l.length) (fun p=>(if tl l p=v then vec l (2*l.length) p t r else 0)*W l r q):=fun r=>(GX _ _ _).symm
 rw[jq (fun r _=>e r),← BJ];refine jq (fun p _=> ?_)
 split
 ·rfl
 ·simp only[aht]
  exact(vr _).symm

theorem Hj (t:Nat):fX l v (t+1)=Sm (2*l.length) (fun r=>aw l v t r*od l r):=by
 unfold fX;rw[jq (fun q _=>Hi l v t q),BJ];exact jq (fun r _=>Mj _ _ _)

theorem Md (hl:l.length≤10) (t:Nat):0≤fX l v t:=uh (fun q _=>BO l v hl t q)

theorem SS (hl:l.length≤10):fX l v 0≤20:=by
 have:fX l v 0≤(2*l.length:Nat)*1:=zI (fun q hq=>by
  rw[MW l v hq]
  split<;>decide)
 omega

theorem MX (hl:l.length≤10) (M:Nat) (hM: ∀r,r<2*l.length→od l r≤M): ∀t,fX l v t≤((20*M ^ t:Nat):Int):=by
 intro t
 induction t with
 | zero=>exact SS l v hl
 | succ t ih=>
  rw[Hj];have h1:Sm (2*l.length) (fun r=>aw l v t r*od l r)≤Sm (2*l.length) (fun r=>aw l v t r*M):=xM (fun r hr=>ahu (hM r hr) (BO l v hl t r));rw[GX]at h1;have h2:fX l v t*M≤((20*M ^ t:Nat):Int)*M:=ah4 ih aa;have e:20*M ^ (t+1)=20*M ^ t*M:=by rw[Nat.pow_succ,Nat.mul_assoc]
  rw[e,Int.natCast_mul];unfold fX at h2
  omega

def ng:Int:=Sm (2*l.length) (fun q=>if od l q=0 then 1 else 0)

theorem MZ:0≤ng l∧ng l≤(2*l.length:Nat):=by
 refine⟨uh (fun q _=>by split<;>decide), ?_⟩
 have:ng l≤(2*l.length:Nat)*1:=zI (fun q _=>by split<;>decide)
 omega

theorem SU (h:ng l=0) {r:Nat} (hr:r<2*l.length):1≤od l r:=by
 have h1:=MS (f:=fun q=>if od l q=0 then 1 else 0) (fun q _=>by split<;>decide) hr
 have h2:=MV l r;unfold ng at h;rw[h]at h1
 by_cases e:od l r=0
 ·simp only[e,if_true]at h1
  omega
 ·omega

theorem SV {p:Nat} (hp:p<2*l.length) (h0:od l p≠0):od l p+ng l+1≤(2*l.length:Nat):=by
 have e1:=SP l.length (fun q=>if od l q=0 then 1 else 0);have e2:=Hg (Gs hp);have h1:Sm (2*l.length) (fun q=>W l p q+(if od l (inv q)=0 then 1 else 0)+(if q=inv p then 1 else 0))≤Sm (2*l.length) (fun _=>1):=by
  refine xM (fun q hq=> ?_);unfold W
  by_cases c:next l p q=true
  ·have c1:=SR l (Gs hp) (Hh l p q c)
   rw[BL]at c;rw[aC (by rw[BL];exact c),aA aa,aA c.2]
   decide
  ·rw[aA c]
   by_cases c2:q=inv p
   ·subst c2
    rw[inv_inv,aA h0,aC rfl]
    decide
   ·rw[aA c2]
    split<;>decide
 rw[vq,vq,e1,e2,SL]at h1;unfold od ng
 omega

theorem SW (hl:l.length≤10) (t:Nat):fX l v (t+1)≤fX l v (t+2)+ng l*fX l v t:=by
 have e:fX l v (t+2)+ng l*fX l v t=Sm (2*l.length) (fun r=>aw l v (t+1) r*od l r+(if od l r=0 then 1 else 0)*fX l v t):=by
  rw[vq,GX,Hj]
  rfl
 rw[e];refine xM (fun q hq=> ?_);have h1:=BO l v hl (t+1) q;have h2:=MV l q
 by_cases c:od l q=0
 ·rw[aC c,c,Hi]
  have:Sm (2*l.length) (fun r=>aw l v t r*W l r q)≤Sm (2*l.length) (aw l v t):=xM (fun r _=>by
   have:aw l v t r*W l r q≤aw l v t r*1:=ahu (rN l r q).2 (BO l v hl t r)
   omega)
  unfold fX
  omega
 ·rw[aA c]
  have:aw l v (t+1) q*1≤aw l v (t+1) q*od l q:=ahu aa h1
  omega

theorem SX (hl:l.length≤10) (h:ng l=0) (t:Nat): ∀d,fX l v t≤fX l v (t+d):=by
 intro d
 induction d with
 | zero=>exact ahC _
 | succ d ih=>
  refine Int.le_trans ih ?_
  show _≤fX l v (t+d+1)
  rw[Hj];refine xM (fun r hr=> ?_);have:aw l v (t+d) r*1≤aw l v (t+d) r*od l r:=ahu (SU l h hr) (BO l v hl _ r)
  omega

theorem M0 (hl:l.length≤10) (r:Nat) (hr:r<2*l.length):od l r≤((19 - (ng l).toNat:Nat):Int):=by
 have h1:=MZ l
 by_cases c:od l r=0
 ·omega
 ·have:=SV l hr c
  omega

theorem SY (hl:l.length≤10) (k:Nat) (hk:k≤11) (h:fX l v k≤400): ∀t,t≤k→fX l v t≤5000000000000:=by
 intro t ht
 by_cases e:t=k
 ·subst e;omega
 have hd:=MZ l
 by_cases c:ng l=0
 ·have:=SX l v hl c t (k - t)
  rw[show t+(k - t)=k by omega]at this
  omega
 have hM:(19 - (ng l).toNat:Nat)≤18:=by omega
 have h9:=fun t=>MX l v hl _ (M0 l hl) t
 by_cases c9:t≤9
 ·have h1:=h9 t
  have h2:(19 - (ng l).toNat:Nat) ^ t≤18 ^ 9:=ahM (Nat.pow_le_pow_left hM t) (Nat.pow_le_pow_right az c9);have h3:(18:Nat) ^ 9=198359290368:=by decide
  rw[h3]at h2
  omega
 ·have e1:t=10:=by omega
  have e2:k=11:=by omega
  subst e1 e2;have h1:=SW l v hl 9;have h2:=h9 9;have h3:ng l*fX l v 9≤ng l*((20*(19 - (ng l).toNat:Nat) ^ 9:Nat):Int):=ahu h2 hd.1;obtain⟨D,hD⟩:=agO hd.1;rw[hD]at h3 hd c;have U7:D≤20:=by omega
  have h4: ∀D,D<21→D*(20*(19 - D) ^ 9)≤4800000000000:=by decide
  have h5:=h4 D aa;have h6:((D:Int)*((20*(19 - D) ^ 9:Nat):Int))=((D*(20*(19 - D) ^ 9):Nat):Int):=by simp
  rw[agQ,h6]at h3;rw[hD]at h1;have h7:fX l v (9+2)≤400:=h;have h8:fX l v 10≤fX l v (9+2)+D*fX l v 9:=h1
  omega

end

def dB (ws:List Int):Nat:=(rd ws ((ws.length - 1:Nat):Int)).toNat

theorem BP (ws:List Int) (q:Int):rd (ws++[q]) ((ws.length:Nat):Int)=q:=by
 rw[gf bJ];simp

theorem rP (ws:List Int) (q:Nat):dB (ws++[(q:Int)])=q:=by
 unfold dB;rw[ahj,ahD,ahB,BP,agQ]

theorem ER {α β:Type} {f g:α→List β} {L:List α} (h: ∀a∈L,f a=g a):L.flatMap f=L.flatMap g:=by
 induction L with
 | nil=>rfl
 | cons a L ih=>rw[ahs,ahs,h a bJ,ih (fun b hb=>h b (by simp[hb]))]

def cnt (q:Nat):List (List Int)→Int
 | []=>0
 | ws :: L=>(if dB ws=q then 1 else 0)+cnt q L

theorem M3 (q:Nat) (A B:List (List Int)):cnt q (A++B)=cnt q A+cnt q B:=by
 induction A with
 | nil=>simp[cnt]
 | cons ws A ih=>
  show(if dB ws=q then 1 else 0)+cnt q (A++B)=(if dB ws=q then 1 else 0)+cnt q A+cnt q B
  rw[ih]
  omega

theorem M4 (N:Nat) (L:List (List Int)) (h: ∀ws∈L,dB ws<N):(L.length:Int)=Sm N (fun q=>cnt q L):=by
 induction L with
 | nil=>exact(vr N).symm
 | cons ws L ih=>
  have e:Sm N (fun q=>cnt q (ws :: L))=Sm N (fun q=>(if q=dB ws then 1 else 0)+cnt q L):=jq (fun q _=>by
   show(if dB ws=q then (1:Int) else 0)+_=_
   by_cases c:dB ws=q
   ·rw[aC c,aC c.symm]
   ·rw[aA c,aA (fun z=>c z.symm)])
  rw[e,vq,Hg (h ws bJ),← ih (fun w hw=>h w (by simp[hw])),agP]
  omega

theorem M5 (P:Nat→Bool) (f:Nat→List Int) (hf: ∀a,dB (f a)=a) (q:Nat): ∀m,cnt q (((ahe m).filter P).map f)=if q<m∧P q=true then 1 else 0:=by
 intro m
 induction m with
 | zero=>rfl
 | succ m ih=>
  rw[ahN,ahE,List.map_append,M3,ih]
  by_cases c:P m=true
  ·rw[ahq c]
   show _+((if dB (f m)=q then 1 else 0)+0)=_
   rw[hf]
   by_cases e:m=q
   ·subst e
    rw[aA aa,aC rfl,aC ⟨by omega,c⟩]
    rfl
   ·rw[aA e]
    by_cases e2:q<m∧P q=true
    ·rw[aC e2,aC ⟨by omega,e2.2⟩]
     rfl
    ·rw[aA e2,aA (fun z=>e2 ⟨by omega,z.2⟩)]
     rfl
  ·rw[ahr c]
   show _+0=_
   by_cases e2:q<m∧P q=true
   ·rw[aC e2,aC ⟨by omega,e2.2⟩]
    rfl
   ·rw[aA e2,aA (fun z=>e2 ⟨by
     have:q≠m:=fun e=>c (e▸z.2)
     omega,z.2⟩)]
    rfl

section
variable (l:List (List Int)) (v:Int)

def ext1 (ws:List Int):List (List Int):=((ahe (2*l.length)).filter (fun q=>next l (dB ws) q)).map (fun q:Nat=>ws++[(q:Int)])
def longer (L:List (List Int)):List (List Int):=L.flatMap (ext1 l)
def pP:List (List Int):=((ahe (2*l.length)).filter (fun a=>decide (tl l a=v))).map (fun a:Nat=>[(a:Int)])
def Lw:Nat→List (List Int)
 | 0=>pP l v
 | t+1=>longer l (Lw t)

def good (m:Nat) (ws:List Int):Prop:=ws.length=m∧dB ws<2*l.length∧rd ws ((ws.length - 1:Nat):Int)=((dB ws:Nat):Int)

theorem BQ {m:Nat} {ws:List Int} (h:ws.length=m) {q:Nat} (hq:q<2*l.length):good l (m+1) (ws++[(q:Int)]):=by
 refine⟨by rw[ahj,h];rfl,by rw[rP];exact hq, ?_⟩;rw[rP,ahj,ahD,ahB,BP]

theorem SZ {m:Nat} {ws:List Int} (h:good l m ws): ∀x∈ext1 l ws,good l (m+1) x:=by
 intro x hx;simp only[ext1,ahv,ahk,ahi]at hx;obtain⟨q,⟨hq,_⟩,rfl⟩:=hx;exact BQ l h.1 hq

theorem ES {m:Nat} {L:List (List Int)} (h: ∀ws∈L,good l m ws): ∀x∈longer l L,good l (m+1) x:=by
 intro x hx;simp only[longer,ahO]at hx;obtain⟨ws,hw,hx⟩:=hx;exact SZ l (h ws hw) x hx

theorem S0: ∀x∈pP l v,good l 1 x:=by
 intro x hx;simp only[pP,ahv,ahk,ahi]at hx;obtain⟨q,⟨hq,_⟩,rfl⟩:=hx;exact BQ l (ws:=[]) rfl hq

theorem xq: ∀t,∀x∈Lw l v t,good l (t+1) x
 | 0=>S0 l v
 | t+1=>ES l (xq t)

theorem Hl {m:Nat} (L:List (List Int)) (h: ∀ws∈L,good l m ws) {q:Nat} (hq:q<2*l.length):cnt q (longer l L)=Sm (2*l.length) (fun r=>cnt r L*W l r q):=by
 induction L with
 | nil=>
  show 0=Sm (2*l.length) (fun r=>0*W l r q)
  rw[Mj,aht]
 | cons ws L ih=>
  show cnt q (ext1 l ws++longer l L)=Sm (2*l.length) (fun r=>((if dB ws=r then 1 else 0)+cnt r L)*W l r q)
  have e:Sm (2*l.length) (fun r=>((if dB ws=r then 1 else 0)+cnt r L)*W l r q)=Sm (2*l.length) (fun r=>(if r=dB ws then 1 else 0)*W l r q+cnt r L*W l r q):=jq (fun r _=>by
   rw[ahI]
   by_cases c:dB ws=r
   ·rw[aC c,aC c.symm]
   ·rw[aA c,aA (fun z=>c z.symm)])
  rw[M3,e,vq,zL _ _ (h ws bJ).2.1,ih (fun w hw=>h w (by simp[hw]))];have:cnt q (ext1 l ws)=W l (dB ws) q:=by
   unfold ext1 W;rw[M5 _ _ (fun a=>rP ws a)]
   by_cases c:next l (dB ws) q=true
   ·rw[aC ⟨hq,c⟩,aC c]
   ·rw[aA (fun z=>c z.2),aA c]
  rw[this]

theorem S1: ∀(t:Nat) {q:Nat},q<2*l.length→cnt q (Lw l v t)=aw l v t q:=by
 intro t
 induction t with
 | zero=>
  intro q hq;rw[MW l v hq]
  show cnt q (pP l v)=_
  unfold pP;rw[M5 _ (fun a:Nat=>[(a:Int)]) (fun a=>rP [] a)]
  by_cases c:tl l q=v
  ·rw[aC ⟨hq,aV c⟩,aC c]
  ·rw[aA (fun z=>c (of_decide_eq_true z.2)),aA c]
 | succ t ih=>
  intro q hq
  show cnt q (longer l (Lw l v t))=_
  rw[Hl l _ (xq l v t) hq,Hi];exact jq (fun r hr=>by rw[ih hr])

theorem GS (t:Nat):((Lw l v t).length:Int)=fX l v t:=by
 rw[M4 (2*l.length) _ (fun ws hw=>(xq l v t ws hw).2.1)];exact jq (fun q hq=>S1 l v t hq)

def wk:Nat→List Int→List (List Int)
 | 0,ws=>[ws]
 | d+1,ws=>((ahe (2*l.length)).filter (fun q=>if ws.length=0 then decide (tl l q=v) else next l (dB ws) q)).flatMap (fun q:Nat=>wk d (ws++[(q:Int)]))

def oW:Nat→List (List Int)→List (List Int)
 | 0,L=>L
 | d+1,L=>oW d (longer l L)

theorem M6: ∀(d:Nat) (A B:List (List Int)),oW l d (A++B)=oW l d A++oW l d B
 | 0,_,_=>rfl
 | d+1,A,B=>by
  show oW l d (longer l (A++B))=oW l d (longer l A)++oW l d (longer l B)
  rw[← M6 d];unfold longer;rw[ahx]

theorem M7: ∀d,oW l d []= []
 | 0=>rfl
 | d+1=>M7 d

theorem Ho (d:Nat): ∀L:List (List Int),oW l d L=L.flatMap (fun ws=>oW l d [ws])
 | []=>M7 l d
 | ws :: L=>by
  rw[show ws :: L= [ws]++L from rfl,M6,Ho d L];simp

theorem M8: ∀(d:Nat) (ws:List Int),0<ws.length→wk l v d ws=oW l d [ws]
 | 0,_,_=>rfl
 | d+1,ws,h=>by
  show(ahP _ _).flatMap _=oW l d (longer l [ws])
  rw[show longer l [ws]=ext1 l ws by simp[longer],Ho];unfold ext1;rw[ah6];have e:(fun q=>if ws.length=0 then decide (tl l q=v) else next l (dB ws) q)=(fun q=>next l (dB ws) q):=funext (fun q=>aA aa);rw[e];exact ER (fun q _=>M8 d _ bJ)

theorem S3 (d:Nat):wk l v (d+1) []=oW l d (pP l v):=by
 show(ahP _ _).flatMap _=_
 rw[Ho];unfold pP;rw[ah6];have e:(fun q=>if ([]:List Int).length=0 then decide (tl l q=v) else next l (dB []) q)=(fun q=>decide (tl l q=v)):=funext (fun q=>aC rfl);rw[e];exact ER (fun q _=>M8 l v d _ bJ)

theorem M9: ∀(d t:Nat),oW l d (Lw l v t)=Lw l v (t+d)
 | 0,_=>rfl
 | d+1,t=>by
  show oW l d (Lw l v (t+1))=_
  rw[M9 d (t+1),show t+1+d=t+(d+1) by omega]

theorem S5 (d:Nat):wk l v (d+1) []=Lw l v d:=by
 rw[S3,show pP l v=Lw l v 0 from rfl,M9,Nat.zero_add]
end
section
variable {n:Int} {l:List (List Int)} (h:e5 n l=true)
include h

def vA (l:List (List Int)) (ws:List Int) (q d:Nat):List (List Int):=((ahF q d).filter (fun q=>next l (dB ws) q)).map (fun q:Nat=>ws++[(q:Int)])

omit h in
theorem Na (ws:List Int):vA l ws 0 (2*l.length)=ext1 l ws:=by
 unfold vA ext1;rw[ahQ]

omit h in
theorem S9 (ws:List Int) (q d:Nat):vA l ws q (d+1)=(if next l (dB ws) q=true then [ws++[(q:Int)]] else [])++vA l ws (q+1) d:=by
 unfold vA;rw[ahZ]
 by_cases c:next l (dB ws) q=true
 ·rw[ahq c,aC c]
  rfl
 ·rw[ahr c,aA c]
  rfl

theorem Ta {m:Nat} (hm:1≤m) (hm2:m≤1000) (L:List (List Int)) (hL: ∀ws∈L,good l m ws) (i:Nat) (hi:i<L.length) (xB:L.length≤5000000000000) (res:List (List Int)):
  ∀(d q:Nat) (acc:List (List Int)),q+d=2*l.length→acc.length+(vA l L[i] q d).length≤5000000000000→
   Ev (fun k=>iN.l0 k L (acc++vA l L[i] q d) ((i+1:Nat):Int) n l) res→
   Ev (fun k=>iN.l1 k L acc (i:Int) ((dB L[i]:Nat):Int) (q:Int) n l) res:=by
 obtain⟨g1,g2,g3⟩:=fL h;have hg:=hL L[i] (agX hi);have hrow:aM L (i:Int)=L[i]:=by
  show L.getD (i:Int).toNat []=L[i]
  rw[agQ,ahz,ah7 hi]
  rfl
 intro d
 induction d with
 | zero=>
  intro q acc hq hb hr;refine bZ ?_;simp only[iN.l1];rw[bU (x:=2*(l.length:Int)) aa aa,ep (i:=i) aa];refine cD aa ?_
  simpa [vA] using hr
 | succ d ih=>
  intro q acc hq hb hr;have hn:=ug h hg.2.1 (show q<2*l.length by omega);rw[S9]at hb hr;refine bZ ?_;simp only[iN.l1];rw[bU (x:=2*(l.length:Int)) aa aa,hn,ep (i:=q) aa,hrow];refine bq aa (bw (bD _) ?_)
  by_cases c:next l (dB L[i]) q=true
  ·rw[aC c]at hb hr
   rw[ahj,ahD]at hb;have hown:mC.f L[i]=some L[i]:=by
    have:=hg.1;unfold mC.f;simp
    omega
   refine bq c (bq aa (bq aa ?_));rw[hown];refine bw (bD _) (bq (by have:=hg.1;omega) (bq aa ?_));refine ih (q+1) _ aa (by rw[ahj,ahD];omega) ?_;rw[ahc];exact hr
  ·rw[aA c]at hb hr
   refine cD c (ih (q+1) acc aa (by simpa using hb) (by simpa using hr))

theorem Tc {m:Nat} (hm:1≤m) (hm2:m≤1000) (L:List (List Int)) (hL: ∀ws∈L,good l m ws) (xB:L.length≤5000000000000):
  ∀(d i:Nat) (acc:List (List Int)),i+d=L.length→acc.length+(longer l (L.drop i)).length≤5000000000000→
   Ev (fun k=>iN.l0 k L acc (i:Int) n l) (acc++longer l (L.drop i)):=by
 obtain⟨g1,g2,g3⟩:=fL h;intro d
 induction d with
 | zero=>
  intro i acc hi hb;refine bZ ?_;simp only[iN.l0];refine cD aa ?_;rw[ag5 aa]
  show Ev _ (acc++[])
  rw[aha];exact bD _
 | succ d ih=>
  intro i acc hi hb;have hi':i<L.length:=by omega
  have hg:=hL L[i] (agX hi');have hrow:aM L (i:Int)=L[i]:=by
   show L.getD (i:Int).toNat []=L[i]
   rw[agQ,ahz,ah7 hi']
   rfl
  have e:longer l (L.drop i)=ext1 l L[i]++longer l (L.drop (i+1)):=by
   rw[ag4 hi']
   rfl
  rw[e,ahj]at hb;have h1:=ih (i+1) (acc++ext1 l L[i]) aa (by rw[ahj];omega);have h2:=Ta h hm hm2 L hL i hi' xB _ (2*l.length) 0 acc aa (by rw[Na];omega) (by rw[Na];exact h1);refine bZ ?_;simp only[iN.l0];rw[hrow,bU (x:=(L[i].length:Int) - 1) (by have:=hg.1;omega) (by have:=hg.1;omega),show(L[i].length:Int) - 1=((L[i].length - 1:Nat):Int) by have:=hg.1;omega,hg.2.2,e,← ahc];exact bq aa (bq aa (bq aa (bq (by have:=hg.1;omega) h2)))

theorem Nb {m:Nat} (hm:1≤m) (hm2:m≤1000) (L:List (List Int)) (hL: ∀ws∈L,good l m ws) (xB:L.length≤5000000000000) (hb:(longer l L).length≤5000000000000):
  Ev (fun k=>iN.f k n l L) (longer l L):=by
 have:=Tc h hm hm2 L hL xB L.length 0 [] aa (by simpa using hb);exact this

theorem Td (v:Int) (k:Nat) (hk:1≤k∧k≤12) (hb: ∀t,t≤k - 1→(Lw l v t).length≤5000000000000):
  ∀(d t:Nat),t+d=k - 1→Ev (fun f=>jS.l1 f (k:Int) (Lw l v t) ((t+1:Nat):Int) n l) (Lw l v (k - 1)):=by
 intro d
 induction d with
 | zero=>
  intro t ht;obtain rfl:t=k - 1:=by omega
  refine bZ ?_;simp only[jS.l1];exact cD aa (bD _)
 | succ d ih=>
  intro t ht;have h1:=ih (t+1) aa;have h2:=Nb h (m:=t+1) aa aa (Lw l v t) (xq l v t) (hb t aa) (hb (t+1) aa);refine bZ ?_;simp only[jS.l1];rw[ep (i:=t+1) aa];exact bq aa (bw h2 h1)

theorem Tf (v:Int) (k:Nat) (hk:1≤k∧k≤12) (hb: ∀t,t≤k - 1→(Lw l v t).length≤5000000000000):
  ∀(d q:Nat) (acc:List (List Int)),q+d=2*l.length→acc++((ahF q d).filter (fun a=>decide (tl l a=v))).map (fun a:Nat=>[(a:Int)])=pP l v→
   Ev (fun f=>jS.l0 f v (k:Int) acc (q:Int) n l) (Lw l v (k - 1)):=by
 obtain⟨g1,g2,g3⟩:=fL h;intro d
 induction d with
 | zero=>
  intro q acc hq he;have h1:=Td h v k hk hb (k - 1) 0 aa;refine bZ ?_;simp only[jS.l0];rw[bU (x:=2*(l.length:Int)) aa aa];have e:acc=pP l v:=by simpa using he
  rw[show acc=Lw l v 0 from e];exact cD aa h1
 | succ d ih=>
  intro q acc hq he;have hs:=xE h (show q<2*l.length by omega);rw[ahZ]at he;have hal:acc.length≤(pP l v).length:=by rw[← he];simp
  have h0:=hb 0 aa;have h0':(pP l v).length≤5000000000000:=h0;refine bZ ?_;simp only[jS.l0];rw[bU (x:=2*(l.length:Int)) aa aa,hs,ep (i:=q) aa];refine bq aa (bw (bD _) ?_)
  by_cases c:tl l q=v
  ·rw[ahq (p:=fun a=>decide (tl l a=v)) (aV c)]at he
   exact bq c (bq aa (ih (q+1) _ aa (by rw[ahc];exact he)))
  ·rw[ahr (p:=fun a=>decide (tl l a=v)) (fun z=>c (of_decide_eq_true z))]at he
   exact cD c (ih (q+1) _ aa he)

theorem Th (v:Int) (k:Nat) (hk:1≤k∧k≤12) (hb: ∀t,t≤k - 1→(Lw l v t).length≤5000000000000):
  Ev (fun f=>jS.f f n l v (k:Int)) (Lw l v (k - 1)):=by
 refine Tf h v k hk hb (2*l.length) 0 [] aa ?_;unfold pP;rw[ahQ]
 rfl

end
section
variable {n:Int} {l:List (List Int)} (h:e5 n l=true) (v:Int)
include h

def zN (l:List (List Int)) (v:Int) (ws:List Int) (q:Nat):Bool:=if ws.length=0 then decide (tl l q=v) else next l (dB ws) q

theorem Ti (F:List Int→List (List Int)→Option (List (List Int))) (G:Nat→List (List Int)) (ws:List Int) (hw:ws.length=0∨good l ws.length ws) (ET:ws.length≤100) (hF: ∀q,q<2*l.length→∀xs,xs.length+(G q).length≤400→F (ws++[(q:Int)]) xs=some (xs++G q)):
  ∀(d q:Nat) (xs:List (List Int)),q+d=2*l.length→xs.length+(((ahF q d).filter (zN l v ws)).flatMap G).length≤400→
   dF.lp n l n l v F ws (2*(l.length:Int)) (d+1) (q:Int) xs=some (xs++((ahF q d).filter (zN l v ws)).flatMap G):=by
 obtain⟨g1,g2,g3⟩:=fL h;intro d
 induction d with
 | zero=>
  intro q xs hq hb;unfold dF.lp;rw[aA aa];simp
 | succ d ih=>
  intro q xs hq hb;have hs:(if (ws.length:Int)=0 then xN.f (q:Int) n l v else qI.f n l (rd ws (wrap64 ((ws.length:Int) - 1))) (q:Int))=some (zN l v ws q):=by
   unfold zN
   by_cases c:ws.length=0
   ·rw[aC aa,aC c]
    unfold xN.f;rw[sI h (show q<2*l.length by omega),ag8]
    congr 1
   ·rw[aA aa,aA c]
    have hg:=hw.resolve_left c;rw[bU aa aa,show(ws.length:Int) - 1=((ws.length - 1:Nat):Int) by omega,hg.2.2];exact Mh h hg.2.1 aa
  unfold dF.lp;rw[aC aa,hs,ag8,ep (i:=q) aa];rw[ahZ]at hb ⊢
  by_cases c:zN l v ws q=true
  ·rw[ahq c,ahs,ahj]at hb
   rw[ahq c,ahs,aC c,aC aa,hF q aa xs aa,ag8,ih (q+1) _ aa (by rw[ahj];omega),ahc]
  ·rw[ahr c]at hb ⊢
   rw[aA c,ih (q+1) _ aa hb]

theorem Tj: ∀(d:Nat) (ws:List Int) (xs:List (List Int)),(ws.length=0∨good l ws.length ws)→ws.length+d≤100→xs.length+(wk l v d ws).length≤400→
  dF.go n l n l v d ws xs=some (xs++wk l v d ws):=by
 obtain⟨g1,g2,g3⟩:=fL h;intro d
 induction d with
 | zero=>
  intro ws xs hw hl hb;have hc:qL.f ws=some ws:=by
   unfold qL.f;simp
   omega
  show(qL.f ws).bind _=_
  rw[hc,ag8,aC aa]
  rfl
 | succ d ih=>
  intro ws xs hw hl hb
  show(kY.f n l).bind _=_
  unfold kY.f;rw[ag8,bU (x:=2*(l.length:Int)) aa aa,show(2*(l.length:Int)).toNat=2*l.length by omega];have e:wk l v (d+1) ws=((ahF 0 (2*l.length)).filter (zN l v ws)).flatMap (fun q:Nat=>wk l v d (ws++[(q:Int)])):=by
   rw[← ahQ]
   rfl
  rw[e]at hb ⊢;exact Ti h v _ (fun q:Nat=>wk l v d (ws++[(q:Int)])) ws hw aa (fun q hq xs hx=>ih _ _ (.inr (by
   have:=BQ l (ws:=ws) rfl hq;rw[ahj];exact this)) (by rw[ahj,ahD];omega) hx) (2*l.length) 0 xs aa hb

theorem Tm (k:Nat) (hk:1≤k∧k≤12) (hb:(Lw l v (k - 1)).length≤400):dF.f n l (k:Int) n l v=some (Lw l v (k - 1)):=by
 have e:wk l v k []=Lw l v (k - 1):=by
  have:=S5 l v (k - 1);rw[show k - 1+1=k by omega]at this;exact this
 unfold dF.f;rw[aC aa,agQ,Tj h v k [] [] (.inl rfl) (by simp;omega) (by rw[e];simpa using hb),e]
 rfl

end
theorem Nc (l:List (List Int)) (v:Int) (t:Nat):Sm (2*l.length) (fun p=>if tl l p=v then Sm (2*l.length) (vec l (2*l.length) p t) else 0)=fX l v t:=by
 unfold fX aw;rw[BJ];refine jq (fun p _=> ?_)
 by_cases c:tl l p=v
 ·rw[aC c]
  exact jq (fun q _=>(aC c).symm)
 ·rw[aA c]
  exact((jq (fun q _=>aA c)).trans (vr _)).symm

theorem Nh (l:List (List Int)) (v:Int) (hl:l.length≤10) (t:Nat) (ht:t≤11):0≤fX l v t∧fX l v t≤2500000000000000:=by
 refine⟨Md l v hl t, ?_⟩;have h1:=MX l v hl _ (M0 l hl) t;have h2:(19 - (ng l).toNat:Nat) ^ t≤19 ^ 11:=ahM (Nat.pow_le_pow_left aa t) (Nat.pow_le_pow_right az ht);have h3:(19:Nat) ^ 11=116490258898219:=by decide
 rw[h3]at h2
 omega

theorem GU (f:Nat→Int): ∀n,wrap64 (Sm n (fun i=>wrap64 (f i)))=wrap64 (Sm n f)
 | 0=>rfl
 | n+1=>by
  show wrap64 (Sm n (fun i=>wrap64 (f i))+wrap64 (f n))=wrap64 (Sm n f+f n)
  rw[← G0,GU f n,← G0 (Sm n f) (f n)]
  congr 2
  exact bU (Mq _).1 (Mq _).2

section
variable {n:Int} {l:List (List Int)} (h:e5 n l=true) (v:Int) (k:Nat) (hk:1≤k∧k≤12)
include h hk

def sL (l:List (List Int)) (v:Int) (k:Nat):List (List Int)×Int:=if fX l v (k - 1)>400 then ([],3) else (Lw l v (k - 1),0)

theorem Hq (hc:fX l v (k - 1)≤400):(Lw l v (k - 1)).length≤400∧∀t,t≤k - 1→(Lw l v t).length≤5000000000000:=by
 obtain⟨g1,g2,g3⟩:=fL h;refine⟨?_,fun t ht=> ?_⟩
 ·have:=GS l v (k - 1)
  omega
 ·have h1:=GS l v t
  have h2:=SY l v g3 (k - 1) aa hc t ht
  omega

omit hk in
theorem Tn (a:Nat) (ha:a<2*l.length) (hv:tl l a=v) (r:List (List Int)×Int) (s:Int)
  (hr:Ev (fun f=>fN.l0 f v (k:Int) (ofFn (2*l.length) (fun p=>vec l (2*l.length) p (k - 1))) (wrap64 (s+Sm (2*l.length) (vec l (2*l.length) a (k - 1)))) ((a+1:Nat):Int) n l) r):
  ∀(d b:Nat),b+d=2*l.length→Ev (fun f=>fN.l1 f v (k:Int) (ofFn (2*l.length) (fun p=>vec l (2*l.length) p (k - 1))) (wrap64 (s+Sm b (vec l (2*l.length) a (k - 1)))) (a:Int) (b:Int) n l) r:=by
 obtain⟨g1,g2,g3⟩:=fL h;have hl:(ofFn (2*l.length) (fun p=>vec l (2*l.length) p (k - 1))).length=2*l.length:=nV _ _;have hrow:=qj (fun p=>vec l (2*l.length) p (k - 1)) ha;have hrl:(rowOf (2*l.length) (vec l (2*l.length) a (k - 1))).length=2*l.length:=jQ _ _;intro d
 induction d with
 | zero=>
  intro b hb;obtain rfl:b=2*l.length:=by omega
  refine bZ ?_;simp only[fN.l1];rw[ep (i:=a) aa];exact cD aa hr
 | succ d ih=>
  intro b hb;have h1:=ih (b+1) aa;refine bZ ?_;simp only[fN.l1];rw[hrow,oS _ (show b<2*l.length by omega),ep (i:=b) aa,EI,Int.add_assoc];exact bq aa (bq aa (bq aa (bq aa (bq aa h1))))

theorem Tp: ∀(d a:Nat),a+d=2*l.length→
  Ev (fun f=>fN.l0 f v (k:Int) (ofFn (2*l.length) (fun p=>vec l (2*l.length) p (k - 1))) (wrap64 (Sm a (fun p=>if tl l p=v then Sm (2*l.length) (vec l (2*l.length) p (k - 1)) else 0))) (a:Int) n l) (sL l v k):=by
 obtain⟨g1,g2,g3⟩:=fL h;have hl:(ofFn (2*l.length) (fun p=>vec l (2*l.length) p (k - 1))).length=2*l.length:=nV _ _;intro d
 induction d with
 | zero=>
  intro a ha;obtain rfl:a=2*l.length:=by omega
  have hb:=Nh l v g3 (k - 1) aa;refine bZ ?_;simp only[fN.l0];rw[Nc,bU (x:=fX l v (k - 1)) aa aa];refine cD aa ?_;unfold sL
  by_cases c:fX l v (k - 1)>400
  ·rw[aC c]
   exact bq c (bD _)
  ·rw[aA c]
   exact cD c (bw (Th h v k hk (Hq h v k hk aa).2) (bD _))
 | succ d ih=>
  intro a ha;have h1:=ih (a+1) aa;have hs:=xE h (show a<2*l.length by omega);refine bZ ?_;simp only[fN.l0];rw[hs];refine bq aa (bw (bD _) ?_)
  by_cases c:tl l a=v
  ·refine bq c ?_
   have h2:=Tn h v k a aa c (sL l v k) (Sm a (fun p=>if tl l p=v then Sm (2*l.length) (vec l (2*l.length) p (k - 1)) else 0)) (by
    have e:Sm (a+1) (fun p=>if tl l p=v then Sm (2*l.length) (vec l (2*l.length) p (k - 1)) else 0)=Sm a (fun p=>if tl l p=v then Sm (2*l.length) (vec l (2*l.length) p (k - 1)) else 0)+Sm (2*l.length) (vec l (2*l.length) a (k - 1)):=by
     show _+(if tl l a=v then _ else 0)=_
     rw[aC c]
    rw[← e];exact h1) (2*l.length) 0 aa
   rw[show Sm 0 (vec l (2*l.length) a (k - 1))=0 from rfl,aho]at h2;exact h2
  ·rw[ep (i:=a) aa]
   refine cD c ?_;have e:Sm (a+1) (fun p=>if tl l p=v then Sm (2*l.length) (vec l (2*l.length) p (k - 1)) else 0)=Sm a (fun p=>if tl l p=v then Sm (2*l.length) (vec l (2*l.length) p (k - 1)) else 0):=by
    show _+(if tl l a=v then _ else 0)=_
    rw[aA c,aho]
   rw[e]at h1;exact h1

theorem Tq:Ev (fun f=>fN.j1 f v (k:Int) 0 n l) (sL l v k):=by
 have h1:=G5 h k hk;have h2:=Tp h v k hk (2*l.length) 0 aa;have e: ∀f:Nat→Int,wrap64 (Sm 0 f)=0:=fun f=>by
  exact bU (x:=0) az az
 rw[e]at h2;refine bZ ?_;unfold fN.j1;exact bq rfl (bw h1 h2)

theorem Tt (m:Nat) (hm:n=(m:Int)) (u:Nat) (hu:u<m) (R:Nat→Nat→Int) (hR:Sm m (fun w=>S2 l R (2*l.length) 0 u w)=fX l (u:Int) (k - 1)):
  ∀(d i:Nat),i+d=m→Ev (fun f=>ku.l0 f (wrap64 (Sm i (fun w=>wrap64 (S2 l R (2*l.length) 0 u w)))) (rowOf m (fun w=>wrap64 (S2 l R (2*l.length) 0 u w))) (m:Int) (i:Int) n l (u:Int) (k:Int)) (sL l (u:Int) k):=by
 obtain⟨g1,g2,g3⟩:=fL h;have hrl:(rowOf m (fun w=>wrap64 (S2 l R (2*l.length) 0 u w))).length=m:=jQ _ _;intro d
 induction d with
 | zero=>
  intro i hi;obtain rfl:i=m:=by omega
  have hb:=Nh l (u:Int) g3 (k - 1) aa;refine bZ ?_;simp only[ku.l0];rw[GU,hR,bU (x:=fX l (u:Int) (k - 1)) aa aa];refine cD aa ?_
  by_cases c:fX l (u:Int) (k - 1)>400
  ·rw[show sL l (u:Int) k=([],3) from aC c]
   exact bq c (bD _)
  ·rw[show sL l (u:Int) k=(Lw l (u:Int) (k - 1),0) from aA c,Tm h (u:Int) k hk (Hq h _ k hk aa).1]
   exact cD c (bw (bD _) (bD _))
 | succ d ih=>
  intro i hi;have h1:=ih (i+1) aa;refine bZ ?_;simp only[ku.l0];rw[oS _ (show i<m by omega),ep (i:=i) aa,EI];exact bq aa (bq aa (bq aa h1))

omit hk in
theorem Me (m:Nat) (hm:n=(m:Int)) (u:Nat):Sm m (fun w=>S2 l (fun p q=>vec l (2*l.length) p (k - 1) q) (2*l.length) 0 u w)=fX l (u:Int) (k - 1):=by
 have e: ∀w,S2 l (fun p q=>vec l (2*l.length) p (k - 1) q) (2*l.length) 0 u w=Sm (2*l.length) (fun p=>if bv l p=u then Sm (2*l.length) (fun q=>if ev l q=w then vec l (2*l.length) p (k - 1) q else 0) else 0):=by
  intro w;unfold S2;have:(if bv l (2*l.length)=u then Sm 0 (fun q=>if ev l q=w then vec l (2*l.length) (2*l.length) (k - 1) q else 0) else 0)=0:=by split<;>rfl
  rw[this,aho]
 rw[jq (fun w _=>e w),BJ,← Nc];refine jq (fun p hp=> ?_);obtain⟨t1,t2,_,_⟩:=vv h m hm hp
 by_cases c:bv l p=u
 ·have c2:tl l p=(u:Int):=by rw[t1,c]
  rw[aC c2,jq (fun w _=>aC c),BJ];refine jq (fun q hq=> ?_);obtain⟨_,_,_,u2⟩:=vv h m hm hq;refine(jq (fun w _=> ?_)).trans (zL m (fun _=>vec l (2*l.length) p (k - 1) q) u2)
  by_cases c3:w=ev l q
  ·rw[aC c3.symm,aC c3,Int.one_mul]
  ·rw[aA (fun z=>c3 z.symm),aA c3,aht]
 ·have c2: ¬tl l p=(u:Int):=fun z=>c aa
  rw[aA c2,jq (fun w _=>aA c)];exact vr m

end

def vB (n:Int) (l:List (List Int)) (v a:Int):Int:=if e5 n l=true then (if (0≤v∧v≤n - 1)∧1≤a∧a≤12 then 0 else 2) else 1

theorem Tu (n:Int) (l:List (List Int)) (v a:Int) (hl:Mod l):Ev (fun k=>vC.f k n l v n l a) (vB n l v a):=by
 have h1:=zH n l hl;unfold vC.f xO.f vB
 by_cases hg:e5 n l=true
 ·obtain⟨g1,g2,g3⟩:=fL hg
  rw[hg]at h1;rw[aC hg,mD,R6,bU (x:=n - 1) aa aa]
  by_cases c:0≤v∧v≤n - 1
  ·rw[aV c]
   by_cases c2:1≤a∧a≤12
   ·rw[aV c2,aC ⟨c,c2⟩]
    exact bw h1 (bq rfl (bw (bw (bD _) (bq rfl (bw (bD _) (bD _)))) (bq rfl (bD _))))
   ·rw[cz c2,aA (fun z=>c2 z.2)]
    exact bw h1 (bq rfl (bw (bw (bD _) (bq rfl (bw (bD _) (bD _)))) (cD az (bD _))))
  ·rw[cz c,aA (fun z=>c z.1)]
   exact bw h1 (bq rfl (bw (bw (bD _) (cD az (bD _))) (cD az (bD _))))
 ·rw[ahm]at hg
  rw[hg]at h1;rw[aA (by rw[hg];decide)];exact bw h1 (cD az (bD _))

def L9 (n:Int) (l:List (List Int)) (v a:Int) (r:List (List Int)×Int):Prop:=r.2=0→∃u k:Nat,v=u∧a=k∧e5 n l=true∧(u:Int)<n∧(1≤k∧k≤12)∧fX l v (k - 1)≤400∧r.1=Lw l v (k - 1)

theorem Rz (n:Int) (l:List (List Int)) (v a:Int) (hl:Mod l): ∃r:List (List Int)×Int,L9 n l v a r∧Mod r.1∧Ev (fun k=>fN.f k n l v a) r∧Ev (fun k=>ku.f k n l v a) r:=by
 unfold fN.f ku.f;have h1:=MB n l a 1 hl;have h2:=Tu n l v a hl;have hnil:Mod ([]:List (List Int)):=⟨by simp,fun r hr=>absurd hr bJ⟩;have out: ∀c:Int,c≠0→Ev (fun k=>fN.j1 k v a c n l) ([],c):=by
  intro c hc;refine bZ ?_;simp only[fN.j1];exact cD hc (bD _)
 have U7: ∀(c:Int) r,Ev (fun k=>fN.j1 k v a c n l) r→Ev (fun k=>fN.j0 k v a c false n l) r:=by
  intro c r hr;refine bZ ?_;simp only[fN.j0];exact cD az hr
 by_cases c:pQ n l a 1=0
 ·obtain⟨hg,ha,hb⟩:=MC c
  obtain⟨g1,g2,g3⟩:=fL hg;obtain⟨k,rfl⟩:=agO (show 0≤a by omega);have hk:1≤k∧k≤12:=by omega
  have hi:=nB v 0 (wrap64 (n - 1));rw[bU (x:=n - 1) aa aa]at hi
  by_cases c2:0≤v∧v≤n - 1
  ·have e:vB n l v k=0:=by
    unfold vB;rw[aC hg,aC ⟨c2,by omega⟩]
   rw[e]at h2;obtain⟨u,rfl⟩:=agO c2.1;obtain⟨m,hm⟩:=agO (show 0≤n by omega);refine⟨sL l (u:Int) k,fun hz=>⟨u,k,rfl,rfl,hg,by omega,hk, ?_⟩, ?_, ?_, ?_⟩
   ·unfold sL at hz ⊢
    by_cases c3:fX l (u:Int) (k - 1)>400
    ·rw[aC c3]at hz
     cases hz
    ·rw[aA c3]
     exact⟨by omega,rfl⟩
   ·unfold sL
    by_cases c3:fX l (u:Int) (k - 1)>400
    ·rw[aC c3]
     exact hnil
    ·rw[aA c3]
     have:=(Hq hg (u:Int) k hk aa).1;exact⟨by show(Lw l (u:Int) (k - 1)).length≤_;omega,fun r hr=>by have:=(xq l (u:Int) (k - 1) r hr).1;omega⟩
   ·refine bw h1 (bq c ?_)
    rw[bU (x:=n - 1) aa aa,hi,aV c2,c];exact bw (bD _) (U7 0 _ (Tq hg _ k hk))
   ·have hW:=GR hg m hm k hk.2
    have hl:(mZ l m k).length=m:=by
     unfold mZ;rw[aA aa,EJ]
    have hrow:aM (mZ l m k) (u:Int)=rowOf m (fun w=>wrap64 (S2 l (fun p q=>vec l (2*l.length) p (k - 1) q) (2*l.length) 0 u w)):=by
     unfold mZ;rw[aA aa];exact qj _ (show u<m by omega)
    have h3:=Tt hg k hk m hm u aa (fun p q=>vec l (2*l.length) p (k - 1) q) (Me hg k m hm u) m 0 aa;refine bw h2 (bq rfl (bw hW (bq aa (bq aa ?_))));rw[show ∀f:Nat→Int,wrap64 (Sm 0 f)=0 from fun f=>bU (x:=0) az az]at h3;rw[hrow,jQ];exact h3
  ·have e:vB n l v k=2:=by
    unfold vB;rw[aC hg,aA (fun z=>c2 z.1)]
   rw[e]at h2;refine⟨([],2),(fun hz=>absurd hz az),hnil, ?_,bw h2 (cD az (bD _))⟩;refine bw h1 (bq c ?_);rw[bU (x:=n - 1) aa aa,hi,cz c2];refine bw (bD _) ?_;have:=out 2 az;refine bZ ?_;simp only[fN.j0];exact bq rfl this
 ·have e:vB n l v a=pQ n l a 1:=by
   unfold vB pQ at*
   by_cases hg:e5 n l=true
   ·rw[aC hg]at c ⊢
    rw[aC hg]
    by_cases c2:1≤a∧a≤12
    ·rw[aC c2]at c
     exact absurd rfl c
    ·rw[aA c2,aA (fun z=>c2 z.2)]
   ·rw[aA hg,aA hg]
  rw[e]at h2;exact⟨([],pQ n l a 1),fun hz=>absurd hz c,hnil,bw h1 (cD c (U7 _ _ (out _ c))),bw h2 (cD c (bD _))⟩
section
variable (l:List (List Int))

def fo:Nat→Nat→Nat→Bool
 | 0,p,q=>p == q
 | i+1,p,q=>(ahe (2*l.length)).any (fun r=>next l p r && fo i r q)

theorem uo (i p q:Nat):fo l (i+1) p q=true↔∃r,r<2*l.length∧next l p r=true∧fo l i r q=true:=by
 show(ahe (2*l.length)).any (fun r=>next l p r && fo l i r q)=true↔_
 rw[List.any_eq_true];simp only[ahi,ahh]

theorem adr (i:Nat): ∀(p q:Nat),p<2*l.length→q<2*l.length→(fo l (i+1) p q=true↔∃r,r<2*l.length∧fo l i p r=true∧next l r q=true):=by
 induction i with
 | zero=>
  intro p q hp hq;rw[uo]
  constructor
  ·rintro⟨r,hr,hn,he⟩
   have he:r=q:=by simpa [fo] using he
   subst he;exact⟨p,hp,by simp[fo],hn⟩
  ·rintro⟨r,hr,he,hn⟩
   have he:p=r:=by simpa [fo] using he
   subst he;exact⟨q,hq,hn,by simp[fo]⟩
 | succ i ih=>
  intro p q hp hq;rw[uo]
  constructor
  ·rintro⟨r,hr,hn,he⟩
   obtain⟨s,hs,h1,h2⟩:=(ih r q hr hq).1 he;exact⟨s,hs,(uo l i p s).2 ⟨r,hr,hn,h1⟩,h2⟩
  ·rintro⟨s,hs,h1,h2⟩
   obtain⟨r,hr,hn,h3⟩:=(uo l i p s).1 h1;exact⟨r,hr,hn,(ih r q hr hq).2 ⟨s,hs,h3,h2⟩⟩

def lZ (a d:Nat) (L:List (List Int)):List (List Int):=(longer l L).filter (fun ws=>fo l (d+1) (dB ws) a)
def jr (a:Nat):Nat→List (List Int)→List (List Int)
 | 0,L=>L
 | d+1,L=>jr a d (lZ l a d L)
def kG (k a:Nat):List (List Int):=if fo l k a a=true then [[(a:Int)]] else []

def kH (k:Nat):List (List Int):=(ahe (2*l.length)).flatMap (fun a=>jr l a (k - 1) (kG l k a))

def xP (d:Nat) (ws:List Int) (q:Nat):Bool:=(if ws.length=0 then true else next l (dB ws) q) && fo l (d+1) q (if ws.length=0 then q else (rd ws 0).toNat)
def EU:Nat→List Int→List (List Int)
 | 0,ws=>[ws]
 | d+1,ws=>((ahe (2*l.length)).filter (xP l d ws)).flatMap (fun q:Nat=>EU d (ws++[(q:Int)]))

theorem Tv (A B:List (List Int)):longer l (A++B)=longer l A++longer l B:=by
 unfold longer;rw[ahx]

theorem Ni (a d:Nat) (A B:List (List Int)):lZ l a d (A++B)=lZ l a d A++lZ l a d B:=by
 unfold lZ;rw[Tv,ahE]

theorem Nj (a:Nat): ∀(d:Nat) (A B:List (List Int)),jr l a d (A++B)=jr l a d A++jr l a d B
 | 0,_,_=>rfl
 | d+1,A,B=>by
  show jr l a d (lZ l a d (A++B))=jr l a d (lZ l a d A)++jr l a d (lZ l a d B)
  rw[Ni,Nj a d]

theorem Hr (a:Nat): ∀d,jr l a d []= []
 | 0=>rfl
 | d+1=>Hr a d

theorem Nk (a d:Nat): ∀L:List (List Int),jr l a d L=L.flatMap (fun ws=>jr l a d [ws])
 | []=>Hr l a d
 | ws :: L=>by
  rw[show ws :: L= [ws]++L from rfl,Nj,Nk a d L];simp

theorem Tz (ws:List Int) (q:Int) (h:0<ws.length):rd (ws++[q]) 0=rd ws 0:=by
 have h1:rd (ws++[q]) ((0:Nat):Int)=rd ws ((0:Nat):Int):=by
  rw[gf bJ,gf h,ahR h]
 exact h1

theorem Nl (a:Nat): ∀(d:Nat) (ws:List Int),0<ws.length→(rd ws 0).toNat=a→EU l d ws=jr l a d [ws]
 | 0,_,_,_=>rfl
 | d+1,ws,h,ha=>by
  show(ahP _ _).flatMap _=jr l a d (lZ l a d [ws])
  have e:lZ l a d [ws]=((ahe (2*l.length)).filter (xP l d ws)).map (fun q:Nat=>ws++[(q:Int)]):=by
   unfold lZ;rw[show longer l [ws]=ext1 l ws by simp[longer]];unfold ext1;rw[List.filter_map,List.filter_filter]
   congr 1
   refine ah8 (fun q _=> ?_)
   show(fo l (d+1) (dB (ws++[(q:Int)])) a && next l (dB ws) q)=xP l d ws q
   unfold xP;rw[rP,aA aa,aA aa,ha,Bool.and_comm]
  rw[e,Nk,ah6];exact ER (fun q _=>Nl a d _ bJ (by rw[Tz ws _ h,ha]))

theorem ads (k:Nat) (hk:1≤k):EU l k []=kH l k:=by
 obtain⟨d,rfl⟩: ∃d,k=d+1:=⟨k - 1,by omega⟩
 show(ahP _ _).flatMap _=_
 unfold kH;rw[ahB];have e: ∀L:List Nat,(L.filter (xP l d [])).flatMap (fun q:Nat=>EU l d ([]++[(q:Int)]))=L.flatMap (fun a=>jr l a d (kG l (d+1) a)):=by
  intro L
  induction L with
  | nil=>rfl
  | cons a L ih=>
   have hs:xP l d [] a=fo l (d+1) a a:=by
    unfold xP;simp
   by_cases c:fo l (d+1) a a=true
   ·rw[ahq (by rw[hs];exact c),ahs,ahs,ih]
    unfold kG;rw[aC c]
    congr 1
    exact Nl l a d [(a:Int)] bJ (by
     have:rd [(a:Int)] ((0:Nat):Int)=(a:Int):=by rw[gf bJ];rfl
     have h2:rd [(a:Int)] 0=(a:Int):=this;rw[h2,agQ])
   ·rw[ahr (by rw[hs];exact c),ahs,ih]
    unfold kG;rw[aA c,Hr]
    rfl
 exact e _

theorem TA (q:Nat) (P:List Int→Bool) (L:List (List Int)):0≤cnt q L∧cnt q (L.filter P)≤cnt q L:=by
 induction L with
 | nil=>exact⟨ahC _,ahC _⟩
 | cons ws L ih=>
  have h0:(0:Int)≤(if dB ws=q then 1 else 0):=by split<;>decide
  show 0≤(if dB ws=q then 1 else 0)+cnt q L∧_
  by_cases c:P ws=true
  ·rw[ahq c]
   show _∧(if dB ws=q then 1 else 0)+cnt q (L.filter P)≤(if dB ws=q then 1 else 0)+cnt q L
   omega
  ·rw[ahr c]
   show _∧cnt q (L.filter P)≤(if dB ws=q then 1 else 0)+cnt q L
   omega

theorem TB {m:Nat} (a d:Nat) {L:List (List Int)} (h: ∀ws∈L,good l m ws): ∀x∈lZ l a d L,good l (m+1) x:=fun x hx=>ES l h x (ahk.1 hx).1

def fY (k a:Nat):Nat→List (List Int)
 | 0=>kG l k a
 | t+1=>lZ l a (k - 2 - t) (fY k a t)

theorem BR (k a:Nat): ∀(d t:Nat),t+d=k - 1→jr l a d (fY l k a t)=fY l k a (k - 1)
 | 0,t,h=>by
  obtain rfl:t=k - 1:=by omega
  rfl
 | d+1,t,h=>by
  show jr l a d (lZ l a d (fY l k a t))=_
  rw[← BR k a d (t+1) aa]
  show _=jr l a d (lZ l a (k - 2 - t) (fY l k a t))
  rw[show k - 2 - t=d by omega]

theorem BS (k a:Nat) (ha:a<2*l.length): ∀t,∀x∈fY l k a t,good l (t+1) x
 | 0=>by
  intro x hx;unfold fY kG at hx
  split at hx
  ·simp only[ag6]at hx
   subst hx;exact BQ l (ws:=[]) rfl ha
  ·simp at hx
 | t+1=>TB l a _ (BS k a ha t)

theorem Nm (k a:Nat) (ha:a<2*l.length): ∀t,t≤k - 1→1≤k→∀x∈fY l k a t,fo l (k - t) (dB x) a=true
 | 0,_,_=>by
  intro x hx;unfold fY kG at hx
  split at hx
  ·rename_i c
   simp only[ag6]at hx;subst hx;have:dB [(a:Int)]=a:=rP [] a;rw[this];exact c
  ·simp at hx
 | t+1,h,hk=>by
  intro x hx;have h2:=(ahk.1 hx).2;rw[show k - 2 - t+1=k - (t+1) by omega]at h2;exact h2

theorem TC (hl:l.length≤10) (k a:Nat) (ha:a<2*l.length): ∀t {q:Nat},q<2*l.length→cnt q (fY l k a t)≤vec l (2*l.length) a t q:=by
 intro t
 induction t with
 | zero=>
  intro q hq
  show cnt q (kG l k a)≤(if q=a then 1 else 0)
  unfold kG
  split
  ·show(if dB [(a:Int)]=q then 1 else 0)+0≤_
   have:dB [(a:Int)]=a:=rP [] a;rw[this]
   by_cases c:a=q
   ·rw[aC c,aC c.symm]
    decide
   ·rw[aA c,aA (fun z=>c z.symm)]
    decide
  ·show 0≤_
   split<;>decide
 | succ t ih=>
  intro q hq;have h1:=(TA q (fun ws=>fo l (k - 2 - t+1) (dB ws) a) (longer l (fY l k a t))).2;rw[Hl l _ (BS l k a ha t) hq]at h1;refine Int.le_trans h1 ?_
  show _≤Sm (2*l.length) (fun r=>vec l (2*l.length) a t r*W l r q)
  exact xM (fun r hr=>ah4 (ih hr) (rN l r q).1)

theorem TD (hl:l.length≤10) (k a:Nat) (hk:1≤k) (ha:a<2*l.length):((fY l k a (k - 1)).length:Int)≤vec l (2*l.length) a k a:=by
 rw[M4 (2*l.length) _ (fun ws hw=>(BS l k a ha _ ws hw).2.1)];obtain⟨d,rfl⟩: ∃d,k=d+1:=⟨k - 1,by omega⟩
 show _≤Sm (2*l.length) (fun r=>vec l (2*l.length) a d r*W l r a)
 refine xM (fun r hr=> ?_);have h1:=TC l hl (d+1) a ha d hr;have hv:=(BM l (2*l.length) a aa d r).1
 by_cases c:next l r a=true
 ·have:W l r a=1:=by unfold W;rw[aC c]
  rw[this,ahW];exact h1
 ·have h0:cnt r (fY l (d+1) a d)=0:=by
   have hz: ∀L:List (List Int),(∀ws∈L,dB ws≠r)→cnt r L=0:=by
    intro L
    induction L with
    | nil=>intro _;rfl
    | cons ws L ih=>
     intro h
     show(if dB ws=r then 1 else 0)+cnt r L=0
     rw[aA (h ws bJ),ih (fun w hw=>h w (by simp[hw]))]
     rfl
   refine hz _ (fun ws hw e=> ?_);have h2:=Nm l (d+1) a ha d aa aa ws hw;rw[show d+1 - d=0+1 by omega,uo]at h2;obtain⟨s,_,h3,h4⟩:=h2;have h4:s=a:=by simpa [fo] using h4
   subst h4;rw[e]at h3;exact c h3
  show cnt r (fY l (d+1) a d)≤_
  rw[h0];exact ahV hv (rN l r a).1

theorem TE {ws:List Int} {P:List Int→Bool} {r:Nat} (hr:r<2*l.length) (hn:next l (dB ws) r=true) (hP:P (ws++[(r:Int)])=true):1≤((ext1 l ws).filter P).length:=by
 have:ws++[(r:Int)]∈(ext1 l ws).filter P:=ahk.2 ⟨by
  unfold ext1;exact ahv.2 ⟨r,ahk.2 ⟨ahi.2 hr,hn⟩,rfl⟩,hP⟩
 exact List.length_pos_of_mem this

theorem TF (k a:Nat) (ha:a<2*l.length) (t:Nat) (ht:t+1≤k - 1):(fY l k a t).length≤(fY l k a (t+1)).length:=by
 have key: ∀L:List (List Int),(∀x∈L,fo l (k - t) (dB x) a=true)→L.length≤(lZ l a (k - 2 - t) L).length:=by
  intro L
  induction L with
  | nil=>intro _;exact Nat.zero_le _
  | cons ws L ih=>
   intro h;have h1:=ih (fun x hx=>h x (by simp[hx]));have h2:=h ws bJ;rw[show k - t=(k - 2 - t+1)+1 by omega,uo]at h2;obtain⟨r,hr,hn,hc⟩:=h2;have e:lZ l a (k - 2 - t) (ws :: L)=(ext1 l ws).filter (fun ws=>fo l (k - 2 - t+1) (dB ws) a)++lZ l a (k - 2 - t) L:=by
    rw[show ws :: L= [ws]++L from rfl,Ni];unfold lZ;rw[show longer l [ws]=ext1 l ws by simp[longer]]
   have h3:=TE l (P:=fun ws=>fo l (k - 2 - t+1) (dB ws) a) hr hn (by
    show fo l (k - 2 - t+1) (dB (ws++[(r:Int)])) a=true
    rw[rP];exact hc)
   rw[e,ahj,agP]
   omega
 exact key _ (Nm l k a ha t aa aa)

theorem Nn (k a:Nat) (ha:a<2*l.length): ∀(d t:Nat),t+d=k - 1→(fY l k a t).length≤(fY l k a (k - 1)).length
 | 0,t,h=>by
  obtain rfl:t=k - 1:=by omega
  exact ahp _
 | d+1,t,h=>ahM (TF l k a ha t aa) (Nn k a ha d (t+1) aa)

theorem TG (L:List (List Int)):(longer l L).length≤2*l.length*L.length:=by
 induction L with
 | nil=>exact Nat.zero_le _
 | cons ws L ih=>
  have e:longer l (ws :: L)=ext1 l ws++longer l L:=rfl;have h1:(ext1 l ws).length≤2*l.length:=by
   unfold ext1;rw[agU];exact ahM (List.length_filter_le _ _) bJ
  rw[e,ahj,agP,Nat.mul_add]
  omega

theorem Np (f:Nat→List (List Int)) (g:Nat→Int): ∀m,(∀a,a<m→((f a).length:Int)≤g a)→(((ahe m).flatMap f).length:Int)≤Sm m g
 | 0,_=>ahC _
 | m+1,h=>by
  have h1:=Np f g m (fun a ha=>h a aa);have h2:=h m aa;rw[ahN,ahx,ahj]
  show _≤Sm m g+g m
  simp only[ahs,List.flatMap_nil,aha]
  omega

theorem LS (hl:l.length≤10) (k:Nat) (hk:1≤k):((kH l k).length:Int)≤rK l (k - 1):=by
 unfold kH rK tr;refine Np _ _ _ (fun a ha=> ?_);have e:jr l a (k - 1) (kG l k a)=fY l k a (k - 1):=BR l k a (k - 1) 0 aa;have h1:=TD l hl k a hk ha;obtain⟨d,rfl⟩: ∃d,k=d+1:=⟨k - 1,by omega⟩;rw[e];rw[G3 l _ ha d a]at h1;exact h1

end
theorem Ht (xs:List (List Bool)) {i:Nat}:iD xs (i:Int)=xs.getD i []:=rfl
theorem Hu (xs:List Bool) {i:Nat}:eW false xs (i:Int)=xs.getD i false:=rfl

section
variable {n:Int} {l:List (List Int)} (h:e5 n l=true) (k:Nat) (hk:1≤k∧k≤12)

def lU (l:List (List Int)) (a i m:Nat):List Bool:=(ahe m).map (fun b=>fo l (i+1) b a)
def lK (l:List (List Int)) (a i:Nat):List (List Bool):=(ahe i).map (fun j=>lU l a j (2*l.length))

theorem Hv (a i m:Nat) {b:Nat} (hb:b<m):(lU l a i m).getD b false=fo l (i+1) b a:=by
 unfold lU;rw[ahz,List.getElem?_map,List.getElem?_range hb]
 rfl
theorem Hw (a i:Nat) {j:Nat} (hj:j<i):(lK l a i).getD j []=lU l a j (2*l.length):=by
 unfold lK;rw[ahz,List.getElem?_map,List.getElem?_range hj]
 rfl
theorem BU (a i m:Nat):(lU l a i m).length=m:=by simp[lU]
theorem EV (a i:Nat):(lK l a i).length=i:=by simp[lK]

theorem any_succ (f:Nat→Bool) (c:Nat):(ahe (c+1)).any f=((ahe c).any f || f c):=by
 rw[ahN,List.any_append];simp

theorem TH (a b:Nat) (ha:a<2*l.length):fo l 1 b a=next l b a:=by
 rw[ah9,show(1:Nat)=0+1 from rfl,uo]
 constructor
 ·rintro⟨r,_,h1,h2⟩
  have:r=a:=by simpa [fo] using h2
  subst this;exact h1
 ·intro h1
  exact⟨a,ha,h1,by simp[fo]⟩

include h hk

theorem TI (acc:List (List Int)) (a:Nat) (ha:a<2*l.length) (i:Nat) (hi:i<k) (Hy:0<i) (b:Nat) (hb:b<2*l.length) (r:List (List Int)×Bool)
  (hr:Ev (fun f=>cO.l2 f (k:Int) (2*(l.length:Int)) acc (a:Int) (lK l a i) (i:Int) (lU l a i (b+1)) ((b+1:Nat):Int) n l) r):
  ∀(d c:Nat),c+d=2*l.length→Ev (fun f=>cO.l3 f (k:Int) (2*(l.length:Int)) acc (a:Int) (lK l a i) (i:Int) (lU l a i b) (b:Int) ((ahe c).any (fun c=>next l b c && fo l i c a)) (c:Int) n l) r:=by
 obtain⟨g1,g2,g3⟩:=fL h;have ET:=BU (l:=l) a i b;intro d
 induction d with
 | zero=>
  intro c hc;obtain rfl:c=2*l.length:=by omega
  have e:lU l a i b++[(ahe (2*l.length)).any (fun c=>next l b c && fo l i c a)]=lU l a i (b+1):=(xG (fun b=>fo l (i+1) b a) b).symm;refine bZ ?_;simp only[cO.l3];rw[e,ep (i:=b) aa];exact cD aa (bq aa hr)
 | succ d ih=>
  intro c hc;have h1:=ih (c+1) aa;rw[any_succ]at h1;have hn:=ug h hb (show c<2*l.length by omega);have hw:iD (lK l a i) (((i - 1:Nat):Nat):Int)=lU l a (i - 1) (2*l.length):=by rw[Ht,Hw a i aa]
  have BV:eW false (lU l a (i - 1) (2*l.length)) (c:Int)=fo l i c a:=by rw[Hu,Hv a (i - 1) _ aa,show i - 1+1=i by omega]
  have hl1:=EV (l:=l) a i;have hl2:=BU (l:=l) a (i - 1) (2*l.length);refine bZ ?_;simp only[cO.l3];rw[ep (i:=c) aa,bU (x:=(i:Int) - 1) aa aa,show(i:Int) - 1=((i - 1:Nat):Int) by omega,hn,hw,BV];refine bq aa (bq aa ?_)
  by_cases c1:(ahe c).any (fun c=>next l b c && fo l i c a)=true
  ·rw[c1,Bool.true_or]at h1
   exact bq c1 h1
  ·have c2:(ahe c).any (fun c=>next l b c && fo l i c a)=false:=by simpa using c1
   rw[c2,ahY]at h1;refine cD c1 (bw (bD _) ?_)
   by_cases c3:next l b c=true
   ·rw[c3,ahg]at h1
    exact bq c3 (bq aa (bq aa (bq aa (bq aa h1))))
   ·have c4:next l b c=false:=by simpa using c3
    rw[c4,ahf]at h1;exact cD c3 h1

theorem TJ (acc:List (List Int)) (a:Nat) (ha:a<2*l.length) (i:Nat) (hi:i<k) (r:List (List Int)×Bool)
  (hr:Ev (fun f=>cO.l1 f (k:Int) (2*(l.length:Int)) acc (a:Int) (lK l a (i+1)) ((i+1:Nat):Int) n l) r):
  ∀(d b:Nat),b+d=2*l.length→Ev (fun f=>cO.l2 f (k:Int) (2*(l.length:Int)) acc (a:Int) (lK l a i) (i:Int) (lU l a i b) (b:Int) n l) r:=by
 obtain⟨g1,g2,g3⟩:=fL h;intro d
 induction d with
 | zero=>
  intro b hb;obtain rfl:b=2*l.length:=by omega
  have e:lK l a i++[lU l a i (2*l.length)]=lK l a (i+1):=(xG (fun j=>lU l a j (2*l.length)) i).symm;have hl1:=EV (l:=l) a i;refine bZ ?_;simp only[cO.l2];rw[e,ep (i:=i) aa];exact cD aa (bq aa hr)
 | succ d ih=>
  intro b hb;have h1:=ih (b+1) aa;have hn:=ug h (show b<2*l.length by omega) ha;refine bZ ?_;simp only[cO.l2];rw[hn];refine bq aa ?_
  by_cases c:i=0
  ·subst c
   refine bq aa (bw (bD _) ?_);have e:lU l a 0 b++[next l b a]=lU l a 0 (b+1):=by
    rw[← TH a b ha];exact(xG (fun b=>fo l (0+1) b a) b).symm
   have ET:=BU (l:=l) a 0 b;refine bZ ?_;simp only[cO.j3];refine bZ ?_;simp only[cO.l3];rw[e,ep (i:=b) aa];exact bq aa (cD aa (bq aa h1))
  ·refine cD aa ?_
   have h2:=TI h k hk acc a ha i hi aa b aa r h1 (2*l.length) 0 aa;refine bZ ?_;simp only[cO.j3];exact h2

theorem TK (acc:List (List Int)) (a:Nat) (ha:a<2*l.length) (r:List (List Int)×Bool)
  (hr:Ev (fun f=>cO.l1 f (k:Int) (2*(l.length:Int)) acc (a:Int) (lK l a k) (k:Int) n l) r):
  ∀(d i:Nat),i+d=k→Ev (fun f=>cO.l1 f (k:Int) (2*(l.length:Int)) acc (a:Int) (lK l a i) (i:Int) n l) r:=by
 obtain⟨g1,g2,g3⟩:=fL h;intro d
 induction d with
 | zero=>
  intro i hi;obtain rfl:i=k:=by omega
  exact hr
 | succ d ih=>
  intro i hi;have h1:=ih (i+1) aa;have h2:=TJ h k hk acc a ha i aa r h1 (2*l.length) 0 aa;refine bZ ?_;simp only[cO.l1];exact bq aa h2

theorem TL (acc:List (List Int)) (a:Nat) (ha:a<2*l.length) (t:Nat) (ht:t<k) (m:Nat) (hm:1≤m) (hm2:m≤1000) (L:List (List Int)) (hL: ∀ws∈L,good l m ws) (xB:L.length≤5000000) (r:List (List Int)×Bool)
  (hr:Ev (fun f=>cO.l4 f (k:Int) (2*(l.length:Int)) acc (a:Int) (lK l a k) (L.filter (fun ws=>fo l (t+1) (dB ws) a)) ((t:Int) - 1) n l) r):
  ∀(d j:Nat),j+d=L.length→Ev (fun f=>cO.l5 f (k:Int) (2*(l.length:Int)) acc (a:Int) (lK l a k) (t:Int) L ((L.take j).filter (fun ws=>fo l (t+1) (dB ws) a)) (j:Int) n l) r:=by
 obtain⟨g1,g2,g3⟩:=fL h;have hl1:=EV (l:=l) a k;have hl2:=BU (l:=l) a t (2*l.length);intro d
 induction d with
 | zero=>
  intro j hj;obtain rfl:j=L.length:=by omega
  refine bZ ?_;simp only[cO.l5];rw[List.take_length,bU (x:=(t:Int) - 1) aa aa];exact cD aa hr
 | succ d ih=>
  intro j hj;have hj':j<L.length:=by omega
  have h1:=ih (j+1) aa;have hg:=hL L[j] (agX hj');have hrow:aM L (j:Int)=L[j]:=by
   show L.getD (j:Int).toNat []=L[j]
   rw[agQ,ahz,ah7 hj']
   rfl
  have hw:iD (lK l a k) (t:Int)=lU l a t (2*l.length):=by rw[Ht,Hw a k ht]
  have BV:eW false (lU l a t (2*l.length)) ((dB L[j]:Nat):Int)=fo l (t+1) (dB L[j]) a:=by rw[Hu,Hv a t _ hg.2.1]
  have hfl:((L.take j).filter (fun ws=>fo l (t+1) (dB ws) a)).length≤5000000:=ahM (List.length_filter_le _ _) (by rw[ahw];omega);rw[ahd hj',ahE]at h1;have hlen:=hg.1;refine bZ ?_;simp only[cO.l5];rw[hrow,hw,bU (x:=(L[j].length:Int) - 1) aa aa,show(L[j].length:Int) - 1=((L[j].length - 1:Nat):Int) by omega,hg.2.2,BV,ep (i:=j) aa];have hlt:=hg.2.1;refine bq aa (bq aa (bq aa (bq aa (bq aa (bq aa (bq aa (bq aa ?_)))))))
  by_cases c:fo l (t+1) (dB L[j]) a=true
  ·rw[ahq (p:=fun ws=>fo l (t+1) (dB ws) a) c]at h1
   exact bq c (bq aa h1)
  ·rw[ahr (p:=fun ws=>fo l (t+1) (dB ws) a) c,List.filter_nil,aha]at h1
   exact cD c h1

theorem TM (acc:List (List Int)) (a:Nat) (ha:a<2*l.length) (hs:(fY l k a (k - 1)).length≤400) (r:List (List Int)×Bool)
  (hr:Ev (fun f=>cO.l4 f (k:Int) (2*(l.length:Int)) acc (a:Int) (lK l a k) (fY l k a (k - 1)) (-1) n l) r):
  ∀(d t:Nat),t+d=k - 1→Ev (fun f=>cO.l4 f (k:Int) (2*(l.length:Int)) acc (a:Int) (lK l a k) (fY l k a t) ((d:Int) - 1) n l) r:=by
 obtain⟨g1,g2,g3⟩:=fL h;intro d
 induction d with
 | zero=>
  intro t ht;obtain rfl:t=k - 1:=by omega
  exact hr
 | succ d ih=>
  intro t ht;have h1:=ih (t+1) aa;have hle:=Nn l k a ha (d+1) t ht;have hgood:=BS l k a ha t;have hlo:=TG l (fY l k a t);have U7:2*l.length*(fY l k a t).length≤20*400:=Nat.mul_le_mul aa aa;have h2:=Nb h (m:=t+1) aa aa (fY l k a t) hgood aa aa;have e:(longer l (fY l k a t)).filter (fun ws=>fo l (d+1) (dB ws) a)=fY l k a (t+1):=by
   show _=lZ l a (k - 2 - t) (fY l k a t)
   rw[show k - 2 - t=d by omega]
   rfl
  have h3:=TL h k hk acc a ha d aa (t+2) aa aa (longer l (fY l k a t)) (ES l hgood) aa r (by rw[e];exact h1) (longer l (fY l k a t)).length 0 aa;refine bZ ?_;simp only[cO.l4];rw[show((d+1:Nat):Int) - 1=(d:Int) by omega];exact bq aa (bw h2 h3)

theorem TN (hb:(kH l k).length≤400): ∀(d a:Nat),a+d=2*l.length→
  Ev (fun f=>cO.l0 f (k:Int) (2*(l.length:Int)) ((ahe a).flatMap (fun a=>jr l a (k - 1) (kG l k a))) (a:Int) n l) (kH l k,true):=by
 obtain⟨g1,g2,g3⟩:=fL h;intro d
 induction d with
 | zero=>
  intro a ha;obtain rfl:a=2*l.length:=by omega
  refine bZ ?_;simp only[cO.l0];exact cD aa (bD _)
 | succ d ih=>
  intro a ha;have h1:=ih (a+1) aa;have e0:jr l a (k - 1) (kG l k a)=fY l k a (k - 1):=BR l k a (k - 1) 0 aa;rw[ahN,ahx]at h1;have e1: [a].flatMap (fun a=>jr l a (k - 1) (kG l k a))=fY l k a (k - 1):=by
   rw[← e0];simp
  rw[e1]at h1;have hle:((ahe a).flatMap (fun a=>jr l a (k - 1) (kG l k a))).length+(fY l k a (k - 1)).length≤400:=by
   have e2:kH l k=(ahe a).flatMap (fun a=>jr l a (k - 1) (kG l k a))++(fY l k a (k - 1)++((ahF (a+1) d).flatMap (fun a=>jr l a (k - 1) (kG l k a)))):=by
    unfold kH;rw[← e1,← ahx,← ahx]
    congr 1
    rw[ahQ,ahQ,show 2*l.length=a+(d+1) by omega,← List.range'_append_1 (s:=0) (m:=a) (n:=d+1),ahZ];simp
   rw[e2,ahj,ahj]at hb
   omega
  have h2:Ev (fun f=>cO.l4 f (k:Int) (2*(l.length:Int)) ((ahe a).flatMap (fun a=>jr l a (k - 1) (kG l k a))) (a:Int) (lK l a k) (fY l k a (k - 1)) (-1) n l) (kH l k,true):=by
   refine bZ ?_;simp only[cO.l4];rw[ep (i:=a) aa];exact cD aa (bq aa h1)
  have h3:=TM h k hk _ a aa aa _ h2 (k - 1) 0 aa;have hl1:=EV (l:=l) a k;have hl2:=BU (l:=l) a (k - 1) (2*l.length);have hw:iD (lK l a k) ((k - 1:Nat):Int)=lU l a (k - 1) (2*l.length):=by rw[Ht,Hw a k aa]
  have BV:eW false (lU l a (k - 1) (2*l.length)) (a:Int)=fo l k a a:=by rw[Hu,Hv a (k - 1) _ aa,show k - 1+1=k by omega]
  have h5: ∀L,fY l k a 0=L→Ev (fun f=>cO.j5 f (k:Int) (2*(l.length:Int)) ((ahe a).flatMap (fun a=>jr l a (k - 1) (kG l k a))) (a:Int) (lK l a k) L n l) (kH l k,true):=by
   intro L hL;subst hL;refine bZ ?_;simp only[cO.j5];rw[bU (x:=(k:Int) - 2) aa aa,show(k:Int) - 2=((k - 1:Nat):Int) - 1 by omega];exact h3
  have h4:Ev (fun f=>cO.l1 f (k:Int) (2*(l.length:Int)) ((ahe a).flatMap (fun a=>jr l a (k - 1) (kG l k a))) (a:Int) (lK l a k) (k:Int) n l) (kH l k,true):=by
   refine bZ ?_;simp only[cO.l1];rw[bU (x:=(k:Int) - 1) aa aa,show(k:Int) - 1=((k - 1:Nat):Int) by omega,hw,BV];refine cD aa (bw (bD _) (bq aa (bq aa (bq aa (bq aa ?_)))))
   by_cases c:fo l k a a=true
   ·exact bq c (bq bJ (h5 _ (aC c)))
   ·exact cD c (h5 _ (aA c))
  have h6:=TK h k hk _ a aa _ h4 k 0 aa;refine bZ ?_;simp only[cO.l0];exact bq aa h6

def EG (l:List (List Int)) (k:Nat):List (List Int)×Bool:=if rK l (k - 1)>400 then ([],false) else (kH l k,true)

theorem QZ:Ev (fun f=>cO.f f n l (k:Int)) (EG l k):=by
 obtain⟨g1,g2,g3⟩:=fL h;have h1:=R5 h k hk;unfold cO.f EG
 by_cases c:rK l (k - 1)>400
 ·rw[aC c]
  exact bw h1 (bq c (bD _))
 ·rw[aA c]
  have h2:=TN h k hk (by have:=LS l g3 k hk.1;omega) (2*l.length) 0 aa;refine bw h1 (cD c ?_);rw[bU (x:=2*(l.length:Int)) aa aa];exact h2

end
theorem Nq: ∀(a b c:List Int),bf a b=true→bf b c=true→bf a c=true
 | x :: xs,y :: ys,z :: zs=>by
  unfold bf;intro h1 h2
  by_cases c1:x=y
  ·subst c1
   rw[aC rfl]at h1
   by_cases c2:x=z
   ·subst c2
    rw[aC rfl]at h2;rw[aC rfl];exact Nq xs ys zs h1 h2
   ·rw[aA c2]at h2
    rw[aA c2];exact h2
  ·rw[aA c1]at h1
   have h1:=of_decide_eq_true h1
   by_cases c2:y=z
   ·subst c2
    rw[aA c1];exact aV h1
   ·rw[aA c2]at h2
    have h2:=of_decide_eq_true h2;rw[aA aa];exact aV aa
 | [],_,_=>by intro h1;simp[bf]at h1
 | _ :: _,[],_=>by intro h1;simp[bf]at h1
 | _ :: _,_ :: _,[]=>by intro _ h2;simp[bf]at h2

theorem EW (l:List (List Int)) (w:List Int): ∀(d i:Nat),steps l w d i=true↔∀j,i≤j→j<i+d→next l (rd w ((j - 1:Nat):Int)).toNat (rd w (j:Int)).toNat=true
 | 0,i=>by
  unfold steps;simp;intro j h1 h2
  omega
 | d+1,i=>by
  unfold steps;rw[ahh,EW l w d (i+1)]
  constructor
  ·rintro⟨h1,h2⟩ j hj hj2
   by_cases e:j=i
   ·subst e
    exact h1
   ·exact h2 j aa aa
  ·intro h
   exact⟨h i (ahp _) aa,fun j hj hj2=>h j aa aa⟩

theorem Hz (ws:List Int) (q:Int) {j:Nat} (hj:j<ws.length):rd (ws++[q]) (j:Int)=rd ws (j:Int):=by
 rw[gf (by simp;omega),gf hj,ahR hj]

theorem LF {l:List (List Int)} {ws:List Int} (h:iy l ws=true) (hl:ws.length<12) {q:Nat} (hq:q<2*l.length) (hn:next l (dB ws) q=true):iy l (ws++[(q:Int)])=true:=by
 obtain⟨h1,h12,hd,hs⟩:=oP h;unfold iy;rw[ahh,ahh,decide_eq_true_iff];refine⟨by simp;omega, ?_, ?_⟩
 ·unfold m5 at hd ⊢
  rw[List.all_append,hd];simp
  omega
 ·rw[EW]at hs ⊢
  intro j hj hj2;rw[ahj,ahD]at hj2
  by_cases e:j=ws.length
  ·subst e
   rw[BP,Hz ws _ (show ws.length - 1<ws.length by omega),agQ];exact hn
  ·rw[Hz ws _ (show j<ws.length by omega),Hz ws _ (show j - 1<ws.length by omega)]
   exact hs j hj aa

theorem LC {l:List (List Int)} {a:Nat} (ha:a<2*l.length):iy l [(a:Int)]=true:=by
 unfold iy m5;simp[steps]
 omega

theorem Ns {l:List (List Int)} {k a:Nat} (hk:1≤k∧k≤12) (ha:a<2*l.length): ∀t,t≤k - 1→∀x∈fY l k a t,iy l x=true
 | 0,_=>by
  intro x hx;unfold fY kG at hx
  split at hx
  ·simp only[ag6]at hx
   subst hx;exact LC ha
  ·simp at hx
 | t+1,ht=>by
  intro x hx;have hx:=(ahk.1 hx).1;simp only[longer,ahO]at hx;obtain⟨ws,hw,hx⟩:=hx;have h1:=Ns hk ha t aa ws hw;have hg:=(BS l k a ha t ws hw).1;simp only[ext1,ahv,ahk,ahi]at hx;obtain⟨q,⟨hq,hn⟩,rfl⟩:=hx;exact LF h1 aa hq hn

theorem Q0 {l:List (List Int)} {k:Nat} (hk:1≤k∧k≤12): ∀x∈kH l k,iy l x=true:=by
 intro x hx;unfold kH at hx;obtain⟨a,ha,hx⟩:=ahO.1 hx;rw[show jr l a (k - 1) (kG l k a)=fY l k a (k - 1) from BR l k a (k - 1) 0 aa]at hx;exact Ns hk (ahi.1 ha) (k - 1) (ahp _) x hx

def HC (l:List (List Int)) (w:List Int):Bool:=(oM w (w.length - 1) 1 && kU l w) && decide (w=gB w)

def fw (w:List Int) (i:Nat):Int:=rd w ((i % w.length:Nat):Int)

theorem kV {w:List Int} {i:Nat} (h:i<w.length):fw w i=rd w (i:Int):=by
 unfold fw;rw[ag7 h]

theorem sH (w:List Int) (i:Nat):fw w (i+w.length)=fw w i:=by
 unfold fw;rw[Nat.add_mod_right]

theorem zy (w:List Int) (i:Nat):fw w (i % w.length)=fw w i:=by
 unfold fw;rw[Nat.mod_mod]

theorem HE {a b:List Int} (hab:a.length=b.length) (h: ∀i,fw a i=fw b i):a=b:=by
 refine xp hab (fun j hj=> ?_);have:=h j;rw[kV hj,kV aa]at this;exact this

theorem TP (k:Nat) (f:Nat→Int) (i:Nat) (hk:0<k):fw (rowOf k f) i=f (i % k):=by
 unfold fw;rw[jQ,oS f (ahn _ hk)]

theorem Nu {α:Type} [BEq α] [LawfulBEq α]: ∀(a b:List α),a.Nodup→(∀x∈a,x∈b)→a.length≤b.length:=by
 intro a
 induction a with
 | nil=>intro b _ _;exact Nat.zero_le _
 | cons x a ih=>
  intro b hn hm;have h1:=hm x bJ;have h2:=ih (b.erase x) (ahy.1 hn).2 (fun y hy=>(List.mem_erase_of_ne (fun e=>(ahy.1 hn).1 (by rw[← e];exact hy))).2 (hm y (by simp[hy])));have h3:=List.length_erase_of_mem h1;have h4:=List.length_pos_of_mem h1;rw[agP]
  omega

theorem Nv {α β:Type} [BEq β] [LawfulBEq β] (a:List α) (b:List β) (f:α→β) (hn:a.Nodup) (hm: ∀x∈a,f x∈b) (hi: ∀x∈a,∀y∈a,f x=f y→x=y):a.length≤b.length:=by
 have h1:(a.map f).Nodup:=by
  show ah0 _ _
  rw[List.pairwise_map];clear hm
  induction a with
  | nil=>exact List.Pairwise.nil
  | cons x a ih=>
   refine List.Pairwise.cons (fun y hy e=> ?_) (ih (ahy.1 hn).2 (fun x hx y hy=>hi x (by simp[hx]) y (by simp[hy])));have:=hi x bJ y (by simp[hy]) e;exact(ahy.1 hn).1 (this▸hy)
 have:=Nu (a.map f) b h1 (fun y hy=>by
  obtain⟨x,hx,rfl⟩:=ahv.1 hy;exact hm x hx)
 rw[agU]at this;exact this

section
variable (l:List (List Int))

def qm (a:Nat):Nat→List (List Int)
 | 0=>[[(a:Int)]]
 | t+1=>longer l (qm a t)

theorem BW (ws x:List Int):x∈ext1 l ws↔∃r,r<2*l.length∧next l (dB ws) r=true∧x=ws++[(r:Int)]:=by
 unfold ext1;rw[ahv]
 constructor
 ·rintro⟨r,h,rfl⟩
  rw[ahk,ahi]at h;exact⟨r,h.1,h.2,rfl⟩
 ·rintro⟨r,h1,h2,rfl⟩
  exact⟨r,ahk.2 ⟨ahi.2 h1,h2⟩,rfl⟩

theorem TQ (L:List (List Int)) (x:List Int):x∈longer l L↔∃ws,ws∈L∧∃r,r<2*l.length∧next l (dB ws) r=true∧x=ws++[(r:Int)]:=by
 unfold longer;rw[ahO]
 constructor
 ·rintro⟨ws,h1,h2⟩
  exact⟨ws,h1,(BW l ws x).1 h2⟩
 ·rintro⟨ws,h1,h2⟩
  exact⟨ws,h1,(BW l ws x).2 h2⟩

theorem HG {a:Nat} (ha:a<2*l.length): ∀t,∀x∈qm l a t,good l (t+1) x
 | 0=>by
  intro x hx;rw[show qm l a 0= [[(a:Int)]] from rfl,ag6]at hx;subst hx;exact BQ l (ws:=[]) rfl ha
 | t+1=>ES l (HG ha t)

theorem TR (p q:List Int→Bool) (h: ∀ws r,r<2*l.length→next l (dB ws) r=true→q (ws++[(r:Int)])=true→p ws=true): ∀L:List (List Int),(longer l (L.filter p)).filter q=(longer l L).filter q:=by
 intro L
 induction L with
 | nil=>rfl
 | cons ws L ih=>
  have e: ∀A:List (List Int),longer l (ws :: A)=ext1 l ws++longer l A:=fun A=>by unfold longer;rw[ahs]
  by_cases c:p ws=true
  ·rw[ahq c,e,e,ahE,ahE,ih]
  ·rw[ahr c,e,ahE,ih]
   have:(ext1 l ws).filter q= []:=List.filter_eq_nil_iff.2 (fun x hx hq=>by
    obtain⟨r,h1,h2,rfl⟩:=(BW l ws x).1 hx;exact c (h ws r h1 h2 hq))
   rw[this,ag9]

theorem TS (k a:Nat) (hk:1≤k): ∀t,t≤k - 1→fY l k a t=(qm l a t).filter (fun w=>fo l (k - t) (dB w) a):=by
 intro t
 induction t with
 | zero=>
  intro _
  show kG l k a=ahP _ [[(a:Int)]]
  have:dB [(a:Int)]=a:=rP [] a;unfold kG
  by_cases c:fo l k a a=true
  ·rw[aC c,ahq (by simp only[this];exact c)]
   rfl
  ·rw[aA c,ahr (by simp only[this];exact c)]
   rfl
 | succ t ih=>
  intro ht
  show(longer l (fY l k a t)).filter (fun ws=>fo l (k - 2 - t+1) (dB ws) a)=_
  rw[ih aa,TR l _ _ (fun ws r hr hn hq=>by
   have hq:fo l (k - 2 - t+1) (dB (ws++[(r:Int)])) a=true:=hq;rw[rP]at hq
   show fo l (k - t) (dB ws) a=true
   rw[show k - t=(k - 2 - t+1)+1 by omega,uo];exact⟨r,hr,hn,hq⟩),show k - 2 - t+1=k - (t+1) by omega]
  rfl

theorem TT (a b:Nat) (ha:a<2*l.length):fo l 1 b a=next l b a:=by
 rw[ah9,uo]
 constructor
 ·rintro⟨r,_,h1,h2⟩
  have h2:r=a:=by simpa [fo] using h2
  rw[← h2];exact h1
 ·intro h
  exact⟨a,ha,h,by simp[fo]⟩

theorem HH (k:Nat) (hk:1≤k):kH l k=(ahe (2*l.length)).flatMap (fun a=>(qm l a (k - 1)).filter (fun w=>next l (dB w) a)):=by
 unfold kH;refine ER (fun a ha=> ?_);rw[show jr l a (k - 1) (kG l k a)=fY l k a (k - 1) from BR l k a (k - 1) 0 aa,TS l k a hk (k - 1) (ahp _),show k - (k - 1)=1 by omega];refine ah8 (fun w _=>TT l a (dB w) (ahi.1 ha))

theorem TU {a:Nat} (ha:a<2*l.length): ∀t {q:Nat},q<2*l.length→cnt q (qm l a t)=vec l (2*l.length) a t q:=by
 intro t
 induction t with
 | zero=>
  intro q hq
  show(if dB [(a:Int)]=q then 1 else 0)+0=(if q=a then 1 else 0)
  have:dB [(a:Int)]=a:=rP [] a;rw[this]
  by_cases c:a=q
  ·rw[aC c,aC c.symm];rfl
  ·rw[aA c,aA (fun z=>c z.symm)];rfl
 | succ t ih=>
  intro q hq
  show cnt q (longer l (qm l a t))=Sm (2*l.length) (fun r=>vec l (2*l.length) a t r*W l r q)
  rw[Hl l _ (HG l ha t) hq];exact jq (fun r hr=>by rw[ih hr])

theorem TV (a:Nat) (L:List (List Int)) (h: ∀ws∈L,dB ws<2*l.length):((L.filter (fun w=>next l (dB w) a)).length:Int)=Sm (2*l.length) (fun r=>cnt r L*W l r a):=by
 induction L with
 | nil=>
  show(0:Int)=Sm (2*l.length) (fun r=>0*W l r a)
  rw[jq (g:=fun _=>0) (fun r _=>aht _),vr]
 | cons ws L ih=>
  have e:Sm (2*l.length) (fun r=>cnt r (ws :: L)*W l r a)=Sm (2*l.length) (fun r=>(if r=dB ws then 1 else 0)*W l r a+cnt r L*W l r a):=jq (fun r _=>by
   show((if dB ws=r then (1:Int) else 0)+cnt r L)*W l r a=_
   rw[ahI]
   by_cases c:dB ws=r
   ·rw[aC c,aC c.symm]
   ·rw[aA c,aA (fun z=>c z.symm)])
  rw[e,vq,zL _ (fun r=>W l r a) (h ws bJ),← ih (fun w hw=>h w (by simp[hw]))]
  by_cases c:next l (dB ws) a=true
  ·rw[ahq (p:=fun w=>next l (dB w) a) c,agP]
   unfold W;rw[aC c]
   omega
  ·rw[ahr (p:=fun w=>next l (dB w) a) c]
   unfold W;rw[aA c]
   omega

theorem TW (f:Nat→List (List Int)): ∀m,(((ahe m).flatMap f).length:Int)=Sm m (fun a=>((f a).length:Int)):=by
 intro m
 induction m with
 | zero=>rfl
 | succ m ih=>
  rw[ahN,ahx,ahj,ahs,List.flatMap_nil,aha]
  show _=Sm m (fun a=>((f a).length:Int))+((f m).length:Int)
  rw[← ih]
  omega

theorem adt (k:Nat) (hk:1≤k):((kH l k).length:Int)=rK l (k - 1):=by
 rw[HH l k hk,TW];unfold rK tr;refine jq (fun a ha=> ?_);rw[TV l a _ (fun ws hw=>(HG l ha _ ws hw).2.1),← G3 l _ ha]
 show _=Sm (2*l.length) (fun r=>vec l (2*l.length) a (k - 1) r*W l r a)
 exact jq (fun r hr=>by rw[TU l ha (k - 1) hr])

theorem EX {a:Nat} (ha:a<2*l.length): ∀(t:Nat) (w:List Int),w∈qm l a t↔w.length=t+1∧rd w 0=(a:Int)∧(∀i:Nat,i≤t→∃q:Nat,q<2*l.length∧rd w (i:Int)=(q:Int))∧∀i:Nat,i<t→next l (rd w (i:Int)).toNat (rd w ((i+1:Nat):Int)).toNat=true:=by
 intro t
 induction t with
 | zero=>
  intro w;rw[show qm l a 0= [[(a:Int)]] from rfl,ag6]
  constructor
  ·rintro rfl
   refine⟨rfl,rfl,fun i hi=>⟨a,ha, ?_⟩,fun i hi=>absurd hi aa⟩;obtain rfl:i=0:=by omega
   rfl
  ·rintro⟨h1,h2,_,_⟩
   match w,h1 with
   | [x],_=>exact congrArg (fun z=>[z]) h2
 | succ t ih=>
  intro w;rw[show qm l a (t+1)=longer l (qm l a t) from rfl,TQ]
  constructor
  ·rintro⟨ws,hw,r,hr,hn,rfl⟩
   obtain⟨h1,h2,h3,h4⟩:=(ih ws).1 hw;have left: ∀i:Nat,i<ws.length→rd (ws++[(r:Int)]) (i:Int)=rd ws (i:Int):=fun i hi=>by
    rw[gf (by simp;omega),gf hi,ahR hi]
   have last:rd (ws++[(r:Int)]) ((t+1:Nat):Int)=(r:Int):=by rw[← h1];exact BP ws r
   refine⟨by simp[h1],(left 0 aa).trans h2,fun i hi=> ?_,fun i hi=> ?_⟩
   ·by_cases c:i=t+1
    ·subst c;exact⟨r,hr,last⟩
    ·obtain⟨q,hq,e⟩:=h3 i aa
     exact⟨q,hq,(left i aa).trans e⟩
   ·by_cases c:i=t
    ·subst c
     rw[last,left i aa,agQ];unfold dB at hn;rw[h1,ahB]at hn;exact hn
    ·rw[left i aa,left (i+1) aa]
     exact h4 i aa
  ·rintro⟨h1,h2,h3,h4⟩
   obtain⟨r,hr,er⟩:=h3 (t+1) (ahp _);have left: ∀i:Nat,i<t+1→rd (w.take (t+1)) (i:Int)=rd w (i:Int):=fun i hi=>by
    rw[gf (by rw[ahw];omega),gf aa,aia]
   have e:w=w.take (t+1)++[(r:Int)]:=by
    refine xp (by simp;omega) (fun j hj=> ?_)
    by_cases c:j=t+1
    ·subst c
     have:=BP (w.take (t+1)) (r:Int);rw[ahw,show min (t+1) w.length=t+1 by omega]at this;rw[this,er]
    ·rw[gf (xs:=w.take (t+1)++[(r:Int)]) (by simp;omega),ahR (by rw[ahw];omega),aia,gf hj]
   have hl:(w.take (t+1)).length=t+1:=by rw[ahw];omega
   refine⟨w.take (t+1),(ih _).2 ⟨hl,(left 0 aa).trans h2,fun i hi=> ?_,fun i hi=> ?_⟩,r,hr, ?_,e⟩
   ·obtain⟨q,hq,e2⟩:=h3 i aa
    exact⟨q,hq,(left i aa).trans e2⟩
   ·rw[left i aa,left (i+1) aa]
    exact h4 i aa
   ·have:=h4 t aa
    rw[er,agQ]at this;unfold dB;rw[hl,ahB,left t aa];exact this

theorem TX (a:Nat): ∀t,(qm l a t).Nodup:=by
 intro t
 induction t with
 | zero=>exact ahy.2 ⟨by simp,List.nodup_nil⟩
 | succ t ih=>
  show ah0 _ (List.flatMap (ext1 l) (qm l a t))
  rw[List.pairwise_flatMap];refine⟨fun ws _=> ?_,aib (fun {x y} hxy u hu v hv e=>hxy ?_) ih⟩
  ·unfold ext1
   rw[List.pairwise_map];exact aib (fun {x y} hxy e=>hxy (by
    have:=List.append_cancel_left e;simp only[List.cons.injEq,and_true]at this
    omega)) (ahS _ aic)
  ·obtain⟨r,_,_,rfl⟩:=(BW l x u).1 hu
   obtain⟨s,_,_,rfl⟩:=(BW l y v).1 hv;exact(List.append_inj' e rfl).1

def CW (k:Nat) (w:List Int):Prop:=w.length=k∧∀i,(∃q:Nat,q<2*l.length∧fw w i=(q:Int))∧next l (fw w i).toNat (fw w (i+1)).toNat=true

theorem EY (k:Nat) (hk:1≤k) (w:List Int):w∈kH l k↔CW l k w:=by
 rw[HH l k hk,ahO]
 constructor
 ·rintro⟨a,ha,hw⟩
  rw[ahi]at ha;rw[ahk]at hw;obtain⟨h1,h2,h3,h4⟩:=(EX l ha (k - 1) w).1 hw.1;have hn:=hw.2;rw[show k - 1+1=k by omega]at h1;refine⟨h1,fun i=>⟨?_, ?_⟩⟩
  ·have hi:=ahn i (show 0<w.length by omega)
   obtain⟨q,hq,e⟩:=h3 (i % w.length) aa;exact⟨q,hq,e⟩
  ·have hi:=ahn i (show 0<w.length by omega)
   rw[← zy w i,← zy w (i+1),show(i+1) % w.length=(i % w.length+1) % w.length by rw[Nat.mod_add_mod],kV hi]
   by_cases c:i % w.length+1<w.length
   ·rw[ag7 c,kV c]
    exact h4 _ aa
   ·rw[show i % w.length+1=w.length by omega,ahK,kV aa,show i % w.length=w.length - 1 by omega]
    unfold dB at hn
    show next l _ (rd w 0).toNat=true
    rw[h2,agQ];exact hn
 ·rintro⟨h1,h2⟩
  obtain⟨⟨a,ha,ea⟩,_⟩:=h2 0;rw[kV aa]at ea;refine⟨a,ahi.2 ha,ahk.2 ⟨(EX l ha (k - 1) w).2 ⟨by omega,ea,fun i hi=> ?_,fun i hi=> ?_⟩, ?_⟩⟩
  ·obtain⟨q,hq,e⟩:=(h2 i).1
   rw[kV aa]at e;exact⟨q,hq,e⟩
  ·have:=(h2 i).2
   rw[kV aa,kV aa]at this;exact this
  ·have h3:=(h2 (k - 1)).2
   rw[kV aa,show k - 1+1=0+w.length by omega,sH,kV aa,ea,agQ]at h3;unfold dB;rw[h1];exact h3

theorem Nw (k:Nat) (hk:1≤k):(kH l k).Nodup:=by
 rw[HH l k hk]
 show ah0 _ _
 rw[List.pairwise_flatMap];refine⟨fun a _=>ahS _ (TX l a _), ?_⟩;have hr:ah0 (fun a b:Nat=>a≠b∧a<2*l.length∧b<2*l.length) (ahe (2*l.length)):=by
  have h1:(ahe (2*l.length)).Nodup:=aic;refine List.Pairwise.imp_of_mem (fun {a b} ha hb h=>⟨h,ahi.1 ha,ahi.1 hb⟩) h1
 refine aib (fun {a b} hab u hu v hv e=>hab.1 ?_) hr;have h1:=((EX l hab.2.1 _ u).1 (ahk.1 hu).1).2.1;have h2:=((EX l hab.2.2 _ v).1 (ahk.1 hv).1).2.1;rw[e,h2]at h1
 omega

end
theorem qn (w:List Int) {j:Nat} (hj:j≤w.length) (i:Nat):fw (turn w j) i=fw w (i+j):=by
 by_cases h0:w.length=0
 ·have:w= []:=List.eq_nil_of_length_eq_zero h0
  subst this;obtain rfl:j=0:=by simpa using hj
  rw[BN]
  rfl
 have key: ∀i,i<w.length→rd (turn w j) (i:Int)=fw w (i+j):=by
  intro i hi;rw[gf (by rw[lS];exact hi)];unfold turn
  by_cases c:i<w.length - j
  ·rw[ahR (by rw[ahL];exact c),List.getElem_drop,kV aa,gf aa]
   congr 1
   omega
  ·rw[aif (by rw[ahL];omega),aia,show i+j=(i+j - w.length)+w.length by omega,sH,kV aa,gf aa]
   congr 1
   rw[ahL]
   omega
 have h1:=ahn i (show 0<w.length by omega);unfold fw;rw[lS,key _ h1];unfold fw;rw[Nat.mod_add_mod]

theorem HI (w:List Int) {i j:Nat} (hi:i≤w.length) (hj:j≤w.length) (h0:0<w.length):turn (turn w i) j=turn w ((i+j) % w.length):=by
 have hm:=ahn (i+j) h0;refine HE (by rw[lS,lS,lS]) (fun x=> ?_);rw[qn _ (by rw[lS];exact hj),qn _ hi,qn _ aa,← zy w (x+j+i),← zy w (x+(i+j) % w.length),aid,show x+j+i=x+(i+j) by omega]

def rQ (w:List Int) (d:Nat):Prop:=∀i,fw w (i+d)=fw w i

theorem BX (w:List Int) {d:Nat} (hd:d≤w.length):turn w d=w↔rQ w d:=by
 constructor
 ·intro h i
  rw[← qn w hd,h]
 ·intro h
  exact HE (lS w d) (fun i=>by rw[qn w hd];exact h i)

theorem Nx {w:List Int} {d:Nat} (h:rQ w d): ∀q,rQ w (q*d):=by
 intro q
 induction q with
 | zero=>intro i;rw[Nat.zero_mul,Nat.add_zero]
 | succ q ih=>
  intro i;rw[Nat.succ_mul,← Nat.add_assoc,h,ih]

def kz (w:List Int):Nat:=(ahe w.length).findIdx (fun i=>turn w (i+1) == w)+1

theorem uq (w:List Int) (h0:0<w.length):1≤kz w∧kz w≤w.length∧rQ w (kz w)∧∀j,1≤j→j<kz w→¬rQ w j:=by
 have hx: ∃x∈ahe w.length,(fun i=>turn w (i+1) == w) x=true:=⟨w.length - 1,ahi.2 aa,by
  show(turn w (w.length - 1+1) == w)=true
  rw[show w.length - 1+1=w.length by omega,beq_iff_eq,BX w (ahp _)];exact sH w⟩
 have h1:=List.findIdx_lt_length_of_exists hx;rw[ahT]at h1;have h2:=List.findIdx_getElem (xs:=ahe w.length) (p:=fun i=>turn w (i+1) == w) (w:=by rw[ahT];exact h1);rw[ahU]at h2;unfold kz;refine⟨by omega,by omega,(BX w aa).1 (eq_of_beq h2),fun j HJ hj2 hp=> ?_⟩;have h3:=List.not_of_lt_findIdx (p:=fun i=>turn w (i+1) == w) (xs:=ahe w.length) (i:=j - 1) aa;rw[ahU]at h3;have h4:=(BX w (show j - 1+1≤w.length by omega)).2 (by rw[show j - 1+1=j by omega];exact hp);rw[h4]at h3;simp at h3

theorem TY (w:List Int) (h0:0<w.length):w.length % kz w=0:=by
 obtain⟨h1,h2,h3,h4⟩:=uq w h0;have hr:=ahn w.length (show 0<kz w by omega)
 by_cases c:w.length % kz w=0
 ·exact c
 ·refine absurd (fun i=> ?_) (h4 (w.length % kz w) aa hr)
  have e:w.length=w.length % kz w+w.length / kz w*kz w:=by rw[Nat.mod_add_div']
  have h5:=Nx h3 (w.length / kz w) (i+w.length % kz w);rw[Nat.add_assoc,← e,sH]at h5;exact h5.symm

theorem EC {w v:List Int} (h0:0<w.length) (h0':0<v.length) (h: ∀d,rQ w d↔rQ v d):kz w=kz v:=by
 obtain⟨a1,a2,a3,a4⟩:=uq w h0;obtain⟨b1,b2,b3,b4⟩:=uq v h0';rcases Nat.lt_trichotomy (kz w) (kz v) with c|c|c
 ·exact absurd ((h _).1 a3) (b4 _ a1 c)
 ·exact c
 ·exact absurd ((h _).2 b3) (a4 _ b1 c)

theorem TZ (w:List Int): ∀(d k:Nat),oM w d k=true↔∀j,k≤j→j<k+d→turn w j≠w:=by
 intro d
 induction d with
 | zero=>intro k;exact⟨fun _ j h1 h2=>absurd h1 aa,fun _=>rfl⟩
 | succ d ih=>
  intro k;unfold oM;rw[ahh,decide_eq_true_iff,ih (k+1)]
  constructor
  ·rintro⟨h1,h2⟩ j HJ hj2
   by_cases c:j=k
   ·rw[c];exact h1
   ·exact h2 j aa aa
  ·intro h
   exact⟨h k (ahp _) aa,fun j h1 h2=>h j aa aa⟩

theorem EB (w:List Int) (h0:0<w.length):oM w (w.length - 1) 1=true↔kz w=w.length:=by
 obtain⟨h1,h2,h3,h4⟩:=uq w h0;rw[TZ]
 constructor
 ·intro h
  by_cases c:kz w=w.length
  ·exact c
  ·exact absurd ((BX w h2).2 h3) (h (kz w) h1 aa)
 ·intro h j HJ hj2 e
  exact h4 j HJ aa ((BX w aa).1 e)

theorem Gv (w:List Int) {j:Nat} (hj:j≤w.length) (d:Nat):rQ (turn w j) d↔rQ w d:=by
 constructor
 ·intro h i
  have h1:=h (i+(w.length - j));rw[qn w hj,qn w hj,show i+(w.length - j)+d+j=(i+d)+w.length by omega,show i+(w.length - j)+j=i+w.length by omega,sH,sH]at h1;exact h1
 ·intro h i
  rw[qn w hj,qn w hj,show i+d+j=(i+j)+d by omega];exact h (i+j)

theorem T9 (w:List Int): ∀(d k:Nat) (b:List Int),(least w d k b=b∨∃j,k≤j∧j<k+d∧least w d k b=turn w j):=by
 intro d
 induction d with
 | zero=>intro k b;exact .inl rfl
 | succ d ih=>
  intro k b;unfold least
  split
  ·rcases ih (k+1) (turn w k) with h|⟨j,h1,h2,h3⟩
   ·exact .inr ⟨k,ahp _,by omega,h⟩
   ·exact .inr ⟨j,by omega,by omega,h3⟩
  ·rcases ih (k+1) b with h|⟨j,h1,h2,h3⟩
   ·exact .inl h
   ·exact .inr ⟨j,by omega,by omega,h3⟩

theorem Bx (w:List Int) (h0:0<w.length): ∃j,j<w.length∧gB w=turn w j:=by
 unfold gB;rcases T9 w (w.length - 1) 1 w with h|⟨j,h1,h2,h3⟩
 ·exact⟨0,h0,by rw[h,BN]⟩
 ·exact⟨j,by omega,h3⟩

theorem Ua (w:List Int) (c:List Int) (hc:c.length=w.length): ∀(d k:Nat) (b:List Int),b.length=w.length→(bf c b=false∨∃j,k≤j∧j<k+d∧c=turn w j)→bf c (least w d k b)=false:=by
 intro d
 induction d with
 | zero=>
  intro k b hb h;rcases h with h|⟨j,h1,h2,_⟩
  ·exact h
  ·omega
 | succ d ih=>
  intro k b hb h;have hk:=lS w k;unfold least
  by_cases z:bf (turn w k) b=true
  ·rw[aC z]
   refine ih (k+1) _ hk ?_;rcases h with h|⟨j,h1,h2,h3⟩
   ·refine .inl ?_
    cases e:bf c (turn w k) with
    | false=>rfl
    | true=>rw[Nq c (turn w k) b e z]at h;exact h
   ·by_cases e:j=k
    ·subst e
     refine .inl ?_;rw[h3];exact He _
    ·exact .inr ⟨j,by omega,by omega,h3⟩
  ·rw[aA z]
   rw[ahm]at z;refine ih (k+1) _ hb ?_;rcases h with h|⟨j,h1,h2,h3⟩
   ·exact .inl h
   ·by_cases e:j=k
    ·subst e
     refine .inl ?_;rw[h3];exact z
    ·exact .inr ⟨j,by omega,by omega,h3⟩

theorem Ny (w:List Int) {j:Nat} (hj:j<w.length):bf (turn w j) (gB w)=false:=by
 refine Ua w (turn w j) (lS w j) (w.length - 1) 1 w rfl ?_
 by_cases c:j=0
 ·subst c
  rw[BN];exact .inl (He w)
 ·exact .inr ⟨j,by omega,by omega,rfl⟩

theorem Gu (w:List Int) {j:Nat} (hj:j<w.length):gB (turn w j)=gB w:=by
 have h0:0<w.length:=by omega
 have hl:=lS w j;obtain⟨a,ha,ea⟩:=Bx (turn w j) aa;obtain⟨b,hb,eb⟩:=Bx w h0;rw[HI w aa aa h0]at ea;have h1:bf (gB (turn w j)) (gB w)=false:=by
  rw[ea];exact Ny w (ahn _ h0)
 have e2:gB w=turn (turn w j) ((b+(w.length - j)) % w.length):=by
  have hm:=ahn (b+(w.length - j)) h0;rw[HI w aa aa h0,eb,aid,show j+(b+(w.length - j))=b+w.length by omega,Nat.add_mod_right,ag7 hb]
 have h2:bf (gB w) (gB (turn w j))=false:=by
  rw[e2];exact Ny (turn w j) (by rw[hl];exact ahn _ h0)
 have h3:=MO (gB (turn w j)) (gB w) (by rw[ea,eb,lS,lS]);rw[h1,h2]at h3;exact Classical.not_not.1 (of_decide_eq_false h3.symm)

section
variable (l:List (List Int))

theorem Gt {k:Nat} {w:List Int} (h:CW l k w) {j:Nat} (hj:j≤k):CW l k (turn w j):=by
 obtain⟨h1,h2⟩:=h;refine⟨by rw[lS,h1],fun i=> ?_⟩;rw[qn w aa,qn w aa,show i+1+j=(i+j)+1 by omega];exact h2 (i+j)

theorem HM {k d:Nat} {w:List Int} (h:CW l k w) (hd:0<d) (hp:rQ w d) (K:Nat) (hK:0<K) (BZ:K % d=0):CW l K (rowOf K (fw w))∧∀i,fw (rowOf K (fw w)) i=fw w i:=by
 have key: ∀i,fw (rowOf K (fw w)) i=fw w i:=fun i=>by
  rw[TP K _ i hK];have e:i=i % K+i / K*K:=by rw[Nat.mod_add_div']
  obtain⟨q,hq⟩:=Nat.dvd_of_mod_eq_zero BZ;have h1:=Nx hp (i / K*q) (i % K);rw[Nat.mul_assoc,Nat.mul_comm q d,← hq,← e]at h1;exact h1.symm
 refine⟨⟨jQ _ _,fun i=> ?_⟩,key⟩;rw[key,key];exact h.2 i

def oX (k d:Nat):List (List Int):=(kH l k).filter (fun w=>decide (kz w=d))

theorem sM {k d:Nat} (hk:1≤k) (w:List Int):w∈oX l k d↔CW l k w∧kz w=d:=by
 unfold oX;rw[ahk,EY l k hk,decide_eq_true_iff]

theorem NA {k d:Nat} (hk:1≤k):(oX l k d).Nodup:=ahS _ (Nw l k hk)

theorem NB {k K d:Nat} (hk:1≤k) (hK:1≤K) (hd:1≤d) (HN:k % d=0) (BZ:K % d=0):(oX l k d).length≤(oX l K d).length:=by
 refine Nv _ _ (fun w=>rowOf K (fw w)) (NA l hk) (fun w hw=> ?_) (fun w hw v hv e=> ?_)
 ·obtain⟨h1,h2⟩:=(sM l hk w).1 hw
  have h0:0<w.length:=by rw[h1.1];omega
  have hp:=(uq w h0).2.2.1;rw[h2]at hp;obtain⟨h3,h4⟩:=HM l h1 aa hp K aa BZ;refine(sM l hK _).2 ⟨h3, ?_⟩;rw[← h2];refine EC (by rw[jQ];omega) h0 (fun x=> ?_);unfold rQ;simp only[h4]
 ·obtain⟨h1,h2⟩:=(sM l hk w).1 hw
  obtain⟨g1,g2⟩:=(sM l hk v).1 hv;have h0:0<w.length:=by rw[h1.1];omega
  have g0:0<v.length:=by rw[g1.1];omega
  have hp:=(uq w h0).2.2.1;have gp:=(uq v g0).2.2.1;rw[h2]at hp;rw[g2]at gp;have h4:=(HM l h1 aa hp K aa BZ).2;have g4:=(HM l g1 aa gp K aa BZ).2;have e:rowOf K (fw w)=rowOf K (fw v):=e;refine HE (by rw[h1.1,g1.1]) (fun i=> ?_);rw[← h4 i,e,g4 i]

theorem Ub {k d:Nat} (hd:1≤d) (hk:1≤k) (HN:k % d=0):(oX l k d).length=(oX l d d).length:=
 Nat.le_antisymm (NB l hk hd hd HN (ahK d)) (NB l hd hk hd (ahK d) HN)

theorem Uc (g:List Int→Nat) (k:Nat): ∀L:List (List Int),(∀w∈L,1≤g w∧g w≤k)→(L.length:Int)=Sm k (fun t=>((L.filter (fun w=>decide (g w=t+1))).length:Int)):=by
 intro L
 induction L with
 | nil=>intro _;exact(vr k).symm
 | cons w L ih=>
  intro h;have hw:=h w bJ;have e:Sm k (fun t=>(((w :: L).filter (fun w=>decide (g w=t+1))).length:Int))=Sm k (fun t=>(if t=g w - 1 then 1 else 0)+((L.filter (fun w=>decide (g w=t+1))).length:Int)):=jq (fun t _=>by
   by_cases c:g w=t+1
   ·rw[ahq (p:=fun w=>decide (g w=t+1)) (aV c),agP,aC aa]
    omega
   ·rw[ahr (p:=fun w=>decide (g w=t+1)) (by simpa using c),aA aa]
    omega)
  rw[e,vq,Hg (show g w - 1<k by omega),← ih (fun v hv=>h v (by simp[hv])),agP]
  omega

theorem adu (k:Nat) (hk:1≤k):((kH l k).length:Int)=Sm k (fun t=>if k % (t+1)=0 then ((oX l (t+1) (t+1)).length:Int) else 0):=by
 rw[Uc kz k (kH l k) (fun w hw=>by
  have h1:=((EY l k hk w).1 hw).1;have h2:=uq w aa
  omega)]
 refine jq (fun t _=> ?_)
 by_cases c:k % (t+1)=0
 ·rw[aC c,← Ub l aa hk c]
  rfl
 ·rw[aA c]
  have:(kH l k).filter (fun w=>decide (kz w=t+1))= []:=List.filter_eq_nil_iff.2 (fun w hw hz=>by
   have h1:=((EY l k hk w).1 hw).1;have h2:=TY w aa;rw[of_decide_eq_true hz,h1]at h2;exact c h2)
  rw[this]
  rfl

theorem Ud (g:List Int→List Int) (d:Nat): ∀(A P:List (List Int)),A.Nodup→(∀x∈P,g x∈A)→(∀w∈A,(P.filter (fun x=>decide (g x=w))).length=d)→P.length=d*A.length:=by
 intro A
 induction A with
 | nil=>
  intro P _ h _;cases P with
  | nil=>rfl
  | cons x P=>exact absurd (h x bJ) bJ
 | cons w A ih=>
  intro P hn h1 h2;have hw:=(ahy.1 hn).1;have e:=List.length_eq_countP_add_countP (fun x=>decide (g x=w)) (l:=P);rw[aih,aih,h2 w bJ]at e;have h3:=ih (P.filter (fun x=>decide ¬decide (g x=w)=true)) (ahy.1 hn).2 (fun x hx=>by
   obtain⟨hx1,hx2⟩:=ahk.1 hx;have:=h1 x hx1;rcases List.mem_cons.1 this with z|z
   ·simp[z]at hx2
   ·exact z) (fun v hv=>by
   rw[List.filter_filter,← h2 v (by simp[hv])]
   congr 1
   refine ah8 (fun x _=> ?_)
   by_cases c:g x=v
   ·have:g x≠w:=fun z=>hw (by rw[← z,c];exact hv)
    simp[c];rw[← c];exact this
   ·simp[c])
  rw[e,h3,agP,Nat.mul_succ]
  omega

theorem Ue (d:Nat) (hd:1≤d) (w:List Int) (hw:w∈oX l d d) (hl:w=gB w):((oX l d d).filter (fun x=>decide (gB x=w))).length=d:=by
 obtain⟨h1,h2⟩:=(sM l hd w).1 hw;have hlen:=h1.1;have h0:0<w.length:=by omega
 obtain⟨_,_,_,h4⟩:=uq w h0;rw[h2]at h4;refine Nat.le_antisymm ?_ ?_
 ·have:=Nu ((oX l d d).filter (fun x=>decide (gB x=w))) ((ahe d).map (turn w)) (ahS _ (NA l hd)) (fun x hx=>by
   obtain⟨hx1,hx2⟩:=ahk.1 hx;obtain⟨g1,_⟩:=(sM l hd x).1 hx1;have hx2:=of_decide_eq_true hx2;obtain⟨j,hj,ej⟩:=Bx x (by rw[g1.1];omega);rw[g1.1]at hj;have hm:=ahn (j+(d - j)) (show 0<d by omega);refine ahv.2 ⟨(d - j) % d,ahi.2 (ahn _ aa), ?_⟩;have e:turn (turn x j) ((d - j) % d)=x:=by
    rw[HI x (by rw[g1.1];omega) (by rw[g1.1];have:=ahn (d - j) (show 0<d by omega);omega) (by rw[g1.1];omega),g1.1,aid,show j+(d - j)=d by omega,ahK,BN]
   rw[← hx2,ej];exact e)
  rw[agU,ahT]at this;exact this
 ·have:=Nv (ahe d) ((oX l d d).filter (fun x=>decide (gB x=w))) (turn w) aic (fun j hj=>by
   rw[ahi]at hj;refine ahk.2 ⟨(sM l hd _).2 ⟨Gt l h1 aa, ?_⟩,aV ?_⟩
   ·rw[← h2]
    exact EC (by rw[lS];exact h0) h0 (fun x=>Gv w aa x)
   ·rw[Gu w aa,← hl]) (fun i hi j hj e=>by
   rw[ahi]at hi hj;have key: ∀a b,a<b→b<d→turn w a=turn w b→False:=fun a b hab hb e=>by
    refine h4 (b - a) aa aa (fun x=> ?_);have h5:fw (turn w b) (x+(d - a))=fw (turn w a) (x+(d - a)):=by rw[e]
    rw[qn w aa,qn w aa,show x+(d - a)+b=(x+(b - a))+w.length by omega,show x+(d - a)+a=x+w.length by omega,sH,sH]at h5;exact h5
   rcases Nat.lt_trichotomy i j with c|c|c
   ·exact(key i j c hj e).elim
   ·exact c
   ·exact(key j i c hi e.symm).elim)
  rw[ahT]at this;exact this

def EZ (k:Nat):List (List Int):=(kH l k).filter (HC l)

theorem NC (k:Nat) (hk:1≤k) (w:List Int):w∈EZ l k↔w∈oX l k k∧w=gB w:=by
 unfold EZ;rw[ahk,sM l hk,EY l k hk]
 constructor
 ·rintro⟨h1,h2⟩
  unfold HC at h2;rw[ahh,ahh]at h2;refine⟨⟨h1, ?_⟩,of_decide_eq_true h2.2⟩;have:=(EB w (by rw[h1.1];omega)).1 h2.1.1;rw[this,h1.1]
 ·rintro⟨⟨h1,h2⟩,h3⟩
  refine⟨h1, ?_⟩;unfold HC;have hlen:=h1.1;rw[ahh,ahh];refine⟨⟨(EB w aa).2 aa, ?_⟩,aV h3⟩;unfold kU;have h4:=(h1.2 (w.length - 1)).2;rw[kV aa,show w.length - 1+1=0+w.length by omega,sH,kV aa]at h4;exact h4

theorem adv (k:Nat) (hk:1≤k):(oX l k k).length=k*(EZ l k).length:=by
 refine Ud gB k (EZ l k) (oX l k k) (ahS _ (Nw l k hk)) (fun x hx=> ?_) (fun w hw=> ?_)
 ·obtain⟨h1,h2⟩:=(sM l hk x).1 hx
  have hlen:=h1.1;obtain⟨j,hj,ej⟩:=Bx x aa;refine(NC l k hk _).2 ⟨(sM l hk _).2 ?_, ?_⟩
  ·rw[ej]
   refine⟨Gt l h1 aa, ?_⟩;rw[← h2];exact EC (by rw[lS];omega) aa (fun d=>Gv x aa d)
  ·conv=>rhs;rw[ej]
   exact(Gu x hj).symm
 ·obtain⟨h1,h2⟩:=(NC l k hk w).1 hw
  exact Ue l k hk w h1 h2

end
theorem Uf (l:List Int) (hl:l.length≤1048576): ∀(d i:Nat) (xs:List Int),2*i+d=l.length→xs.length=l.length→
  (∀t:Nat,t<l.length→rd xs (t:Int)=if t<i∨l.length≤t+i then rd l ((l.length - 1 - t:Nat):Int) else rd l (t:Int))→
  Ev (fun k=>gC.l0 k xs (i:Int) ((l.length:Int) - 1 - i)) l.reverse:=by
 have fin: ∀(i:Nat) (xs:List Int),l.length≤2*i+1→xs.length=l.length→(∀t:Nat,t<l.length→rd xs (t:Int)=if t<i∨l.length≤t+i then rd l ((l.length - 1 - t:Nat):Int) else rd l (t:Int))→xs=l.reverse:=by
  intro i xs hd hx hv;refine xp (by rw[ah1,hx]) (fun t ht=> ?_);rw[hv t aa,gf (xs:=l.reverse) (by rw[ah1];omega),List.getElem_reverse,← gf]
  by_cases c:t<i∨l.length≤t+i
  ·rw[aC c]
  ·rw[aA c,show l.length - 1 - t=t by omega]
 intro d
 induction d using Nat.strongRecOn with
 | _ d ih=>
  intro i xs hd hx hv;refine bZ ?_;simp only[gC.l0]
  by_cases c:d≤1
  ·refine cD aa ?_
   exact bQ (congrArg some (fin i xs aa hx hv))
  ·have hi:(l.length:Int) - 1 - i=((l.length - 1 - i:Nat):Int):=by omega
   have e1:rd xs (i:Int)=rd l (i:Int):=by rw[hv i aa,aA aa]
   have e2:rd xs ((l.length - 1 - i:Nat):Int)=rd l ((l.length - 1 - i:Nat):Int):=by rw[hv _ aa,aA aa]
   rw[ep aa,bU (x:=(l.length:Int) - 1 - i - 1) aa aa,show(l.length:Int) - 1 - i - 1=(l.length:Int) - 1 - ((i+1:Nat):Int) by omega,hi,agQ,agQ,e1,e2];refine bq aa ?_;refine bq aa ?_;refine bq aa ?_;refine bq aa ?_;refine bq aa ?_;refine ih (d - 2) aa (i+1) _ aa (by simpa using hx) (fun t ht=> ?_);rw[EM (by simp;omega),EM aa,hv t ht]
   by_cases c1:t=l.length - 1 - i
   ·rw[aC c1,aC aa,c1,show l.length - 1 - (l.length - 1 - i)=i by omega]
   ·rw[aA c1]
    by_cases c2:t=i
    ·rw[aC c2,aC aa,c2]
    ·rw[aA c2]
     by_cases c3:t<i∨l.length≤t+i
     ·rw[aC c3,aC aa]
     ·rw[aA c3,aA aa]

theorem reverse (l:List Int) (hl:l.length≤1048576):Ev (fun k=>gC.f k l) l.reverse:=by
 unfold gC.f;rw[bU aa aa];have:=Uf l hl l.length 0 l aa rfl (fun t ht=>by rw[aA aa]);rw[show(l.length:Int) - 1 - ((0:Nat):Int)=(l.length:Int) - 1 by omega]at this;exact this

def nY (w:List Int) (i:Nat):List Int:=(ahe i).map (fun j:Nat=>((inv (rd w (j:Int)).toNat:Nat):Int))

theorem B0 (w:List Int) (i:Nat):(nY w i).length=i:=by simp[nY]

theorem ND (w:List Int) (i:Nat):nY w (i+1)=nY w i++[((inv (rd w (i:Int)).toNat:Nat):Int)]:=xG _ _

section
variable {n:Int} {l:List (List Int)} (h:e5 n l=true) {w:List Int} (hw:w.length≤12) (hd:m5 l w=true)
include h hw hd

theorem Ug: ∀(j:Nat) (xs:List Int),j≤w.length→xs.length≤w.length - j→Ev (fun k=>jT.l0 k w xs ((j:Int) - 1)) (xs++(nY w j).reverse,0):=by
 obtain⟨g1,g2,g3⟩:=fL h;intro j
 induction j with
 | zero=>
  intro xs hj hx;refine bZ ?_;simp only[jT.l0];rw[show xs++(nY w 0).reverse=xs by simp[nY]]
  repeat (first|with_reducible exact bD _ |dsimp only |refine cS ?_ |refine cT ?_ |simp only[bne_self_eq_false,agV,agW,agP,agR]|rw[bU aa aa]|((with_reducible refine bQ (congrArg some ?_));rfl))
 | succ j ih=>
  intro xs hj hx;obtain⟨e1,r1⟩:=ql hd (show j<w.length by omega);have h1:=ih (xs++[((inv (rd w (j:Int)).toNat:Nat):Int)]) aa (by simp;omega);rw[ahc,show[((inv (rd w (j:Int)).toNat:Nat):Int)]++(nY w j).reverse=(nY w (j+1)).reverse by rw[ND,List.reverse_append];rfl]at h1;have e2:wrap64 ((wrap64 ((wrap64 ((wrap64 (Int.tdiv (rd w (j:Int)) 2))*2))+1)) - (Int.tmod (rd w (j:Int)) 2))=((inv (rd w (j:Int)).toNat:Nat):Int):=by
   generalize (rd w (j:Int)).toNat=p at*;rw[e1,half p aa,GW,bU (x:=((p / 2:Nat):Int)*2) aa aa,bU (x:=((p / 2:Nat):Int)*2+1) aa aa,bU aa aa];unfold inv
   split<;>omega
  refine bZ ?_;simp only[jT.l0];rw[show((j+1:Nat):Int) - 1=j by omega,bU (x:=(j:Int) - 1) aa aa,e2]
  repeat (first|with_reducible exact bD _ |dsimp only |refine cS ?_ |refine cT ?_ |simp only[bne_self_eq_false,agV,agW,agP,agR]|rw[bU aa aa]|((with_reducible refine bQ (congrArg some ?_));rfl))
  exact h1

theorem Uh: ∀(d i:Nat),i+d=w.length→Ev (fun k=>l6.l0 k (nY w i) w (w.length:Int) (i:Int)) ((nY w w.length).reverse,0):=by
 obtain⟨g1,g2,g3⟩:=fL h;intro d
 induction d with
 | zero=>
  intro i hi;have e:i=w.length:=by omega
  subst e;refine bZ ?_;simp only[l6.l0]
  repeat (first|with_reducible exact bD _ |dsimp only |(with_reducible refine bw (reverse (nY w w.length) (by rw[B0];omega)) ?_)|refine cS ?_ |refine cT ?_ |simp only[bne_self_eq_false,agV,agW,agP,agR]|rw[bU aa aa]|(with_reducible exact(reverse (nY w w.length) (by rw[B0];omega)))|((with_reducible refine bQ (congrArg some ?_));rfl))
 | succ d ih=>
  intro i hi;obtain⟨e1,r1⟩:=ql hd (show i<w.length by omega);have hx:=EK (rd w (i:Int)).toNat aa;rw[← e1]at hx;have h1:=ih (i+1) aa;rw[ND]at h1;have hl:=B0 w i;refine bZ ?_;simp only[l6.l0];rw[ep aa,hx]
  repeat (first|with_reducible exact bD _ |dsimp only |refine cS ?_ |refine cT ?_ |simp only[bne_self_eq_false,agV,agW,agP,agR]|rw[bU aa aa]|((with_reducible refine bQ (congrArg some ?_));rfl))
  exact h1

end

def qH (n:Int) (l:List (List Int)) (w:List Int):List Int×Int:=if code n l w=0 then ((nY w w.length).reverse,0) else ([],code n l w)

theorem L7 (n:Int) (l:List (List Int)) (w:List Int) (hl:Mod l) (hw:w.length≤1048576):(qH n l w).1.length≤1048576∧Ev (fun k=>jT.f k n l w) (qH n l w)∧Ev (fun k=>l6.f k n l w) (qH n l w):=by
 unfold jT.f l6.f qH;have h1:=G6 n l w hl hw;have h2:=BG n l w hl hw
 by_cases c:code n l w=0
 ·obtain⟨hg,hk⟩:=BH c
  obtain⟨l1,l2,hd,hs⟩:=oP hk;rw[aC c];refine⟨by simp only[ah1,B0];omega, ?_, ?_⟩
  ·refine bw h1 (bq c ?_)
   rw[bU aa aa];have:=Ug hg l2 hd w.length [] (ahp _) bJ;rw[ag9]at this;exact this
  ·refine bw h2 (bq c ?_)
   exact Uh hg l2 hd w.length 0 aa
 ·rw[aA c]
  refine⟨by simp, ?_, ?_⟩
  ·exact bw h1 (cD c (bD _))
  ·exact bw h2 (cD c (bD _))

def qG (n:Int) (l:List (List Int)) (w:List Int):List Int×Int:=if code n l w=0 then (if kU l w=true then (gB w,0) else ([],5)) else ([],code n l w)

theorem L6 (n:Int) (l:List (List Int)) (w:List Int) (hl:Mod l) (hw:w.length≤1048576):(qG n l w).1.length≤1048576∧Ev (fun k=>nZ.f k n l w) (qG n l w)∧Ev (fun k=>ur.f k n l w) (qG n l w):=by
 unfold nZ.f ur.f qG;have h1:=G6 n l w hl hw;have h2:=BG n l w hl hw
 by_cases c:code n l w=0
 ·obtain⟨hg,hwk⟩:=BH c
  obtain⟨w1,nG,hd,hs⟩:=oP hwk;rw[c]at h1;rw[aC c];have c1:=MR hg hwk;have c2:=GQ hg hwk;cases cc:kU l w with
  | true=>
   rw[cc]at c1 c2;rw[aC rfl];refine⟨?_, ?_, ?_⟩
   ·show(gB w).length≤_
    unfold gB;rw[SH w _ _ _ rfl];exact hw
   ·refine bw h1 (bq rfl (bw c1 ?_))
    refine bZ ?_;simp only[nZ.j0];exact cD az (bq trivial (bw (SI w aa aa) (bD _)))
   ·exact bw h2 (bq c (bw c2 (bq rfl (bw (SJ w aa aa) (bD _)))))
  | false=>
   rw[cc]at c1 c2;rw[aA az];refine⟨by simp, ?_, ?_⟩
   ·refine bw h1 (bq rfl (bw c1 ?_))
    refine bZ ?_;simp only[nZ.j0];exact bq rfl (cD az (bD _))
   ·exact bw h2 (bq c (bw c2 (cD az (bD _))))
 ·rw[aA c]
  refine⟨by simp, ?_,bw h2 (cD c (bD _))⟩;refine bw h1 (cD c ?_);refine bZ ?_;simp only[nZ.j0];exact cD az (cD c (bD _))
theorem Rm (n:Int) (l:List (List Int)) (w:List Int) (hl:Mod l) (hw:w.length≤1048576): ∃r:Bool×Int,Ev (fun k=>xQ.f k n l w) r∧Ev (fun k=>qi.f k n l w) r:=by
 unfold xQ.f qi.f;have h1:=G6 n l w hl hw;have h2:=BG n l w hl hw
 by_cases c:code n l w=0
 ·obtain⟨hg,hwk⟩:=BH c
  exact⟨(oM w (w.length - 1) 1 && kU l w,0),bw h1 (bq c (bw (SK hg hwk) (bD _))),bw h2 (bq c (bw (L5 hg hwk) (bD _)))⟩
 ·exact⟨(false,code n l w),bw h1 (cD c (bD _)),bw h2 (cD c (bD _))⟩
theorem Bw (l:List (List Int)) (w:List Int):iy l w=true↔(1≤w.length∧w.length≤12)∧(∀i:Nat,i<w.length→∃q:Nat,q<2*l.length∧rd w (i:Int)=(q:Int))∧∀i:Nat,i+1<w.length→next l (rd w (i:Int)).toNat (rd w ((i+1:Nat):Int)).toNat=true:=by
 constructor
 ·intro h
  obtain⟨h1,h12,hd,hs⟩:=oP h;refine⟨⟨h1,h12⟩,fun i hi=> ?_,fun i hi=> ?_⟩
  ·obtain⟨e,r⟩:=ql hd hi
   exact⟨_,r,e⟩
  ·rw[EW]at hs
   exact hs (i+1) aa aa
 ·rintro⟨⟨h1,h12⟩,h2,h3⟩
  unfold iy;rw[ahh,ahh,decide_eq_true_iff];refine⟨by omega, ?_, ?_⟩
  ·unfold m5
   rw[ah2];intro x hx;obtain⟨i,hi,rfl⟩:=List.mem_iff_getElem.1 hx;obtain⟨q,hq,e⟩:=h2 i hi;rw[gf hi]at e;rw[e];exact aV aa
  ·rw[EW]
   intro j hj hj2;have:=h3 (j - 1) aa;rw[show j - 1+1=j by omega]at this;exact this

theorem LA (l:List (List Int)) (p q:Nat):next l (inv q) (inv p)=next l p q:=by
 rw[ah9];refine⟨fun h=> ?_,Hh l p q⟩;have:=Hh l _ _ h;rw[inv_inv,inv_inv]at this;exact this

def rev (w:List Int):List Int:=(nY w w.length).reverse

theorem EA (w:List Int):(rev w).length=w.length:=by
 unfold rev;rw[ah1,B0]

theorem xo {w:List Int} {i:Nat} (hi:i<w.length):rd (rev w) (i:Int)=((inv (rd w ((w.length - 1 - i:Nat):Int)).toNat:Nat):Int):=by
 rw[gf (by rw[EA];exact hi)];unfold rev;rw[List.getElem_reverse];simp only[nY,List.getElem_map,ahU,agU,ahT]
end Go.Proofs.Ytkadhadceongiaa.Pure
