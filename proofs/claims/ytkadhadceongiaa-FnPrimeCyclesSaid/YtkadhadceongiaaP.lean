/- The plain proofs for this law. -/
import Derived.Test.YtkadhadceongiaaC5
import Derived.Test.YtkadhadceongiaaAux
namespace Go.Proofs.Ytkadhadceongiaa.Pure
open Go.RowKit Go.Proofs.Ytkadhadceongiaa.G Go.Proofs.YtkadhadceongiaaW.PrintWords Go.Proofs.YtkadhadceongiaaW.PrintLast Go.Proofs.YtkadhadceongiaaW.PrintMore Go.Proofs.Ytkadhadceongiaa.Aux
open List renaming length_cons → agB, length_nil → agE, range → ag2, length_append → ahu, mem_range → ahv, mem_filter → ahw, replicate → ahz, filter_cons_of_neg → ahA, drop_eq_getElem_cons → ahd, filter_cons_of_pos → ahC, getD_eq_getElem?_getD → aho, drop_eq_nil_of_le → ahe, flatMap_cons → ahD, length_singleton → ahE, getElem_mem → ag5, length_take → ahG, append_nil → ahk, mem_map → ahH, flatMap_append → ahI, nodup_cons → ahJ, append_assoc → ahm, filter_append → ahK, mem_flatMap → ahL, nil_append → ahN, length_drop → ahP, range_succ → ahQ, filter → ahR, range' → ahS, getElem?_eq_getElem → ahT, getElem_append_left → ahU, mem_singleton → ahV, all_cons → ahX, drop_zero → ah1, range_eq_range' → ah3, getElem?_map → ah4, getElem?_range → ah5, Pairwise → ah6, length_range → ah7, map_congr_left → ah8, length_set → ah9, getElem_range → ahf, flatMap_map → aib, range'_succ → aic, filter_congr → aid, length_map → agZ, length_filter_le → aie, filter_nil → aif, eq_nil_of_length_eq_zero → aih, getElem_take → aii, nodup_range → aik, getElem_append_right → aim, countP_eq_length_filter → aio
open Bool renaming not_true → agC, not_false → agD, false_and → ahs, true_and → aht, and_eq_true → ahx, not_eq_true → ahc, and_false → ahM, and_true → ahY, false_or → ah2
open Int renaming toNat_natCast → agG, mul_assoc → agJ, zero_mul → agA, mul_comm → agF, add_zero → agN, add_mul → agV, mul_le_mul_of_nonneg_left → agP, le_refl → agI, mul_zero → agL, mul_add → ahF, mul_nonneg → agS, mul_le_mul_of_nonneg_right → agR, one_mul → agQ, zero_add → ahZ, mul_one → ah0, le_trans → ag7, tmod_eq_emod_of_nonneg → ahq, eq_ofNat_of_zero_le → agM, tdiv_eq_ediv_of_nonneg → ahp
open Option renaming bind_some → ahy
open Nat renaming le_refl → agO, mod_lt → ahB, add_sub_cancel → agK, le_trans → ahO, mod_self → ag8, mod_eq_of_lt → ag9, add_mod_mod → ail
open List.Pairwise renaming filter → ahW, imp → aij
open List.cons renaming inj → aia
open Classical renaming byContradiction → ain
set_option linter.unusedVariables false
set_option linter.unusedSimpArgs false

theorem pG {xs:List (List Int)} {i:Nat} (h:i<xs.length):aH xs (i:Int)=xs[i]:=by
 simp[aH,aho,h]

def Mod (l:List (List Int)):Prop:=l.length≤1048576∧∀r∈l,r.length≤1048576

theorem Mod.row {l:List (List Int)} (h:Mod l) {i:Nat} (hi:i<l.length):l[i].length≤1048576:=h.2 _ (ag5 hi)
theorem oT (a b c:Int):m8.f a b c=some (decide (b≤a∧a≤c)):=by
 unfold m8.f
 by_cases h:b≤a
 ·rw[ak h];simp[h]
 ·rw[aj h];simp[h]

theorem mY (a b c:Int):kE.f a b c=some (decide (b≤a∧a≤c)):=by
 unfold kE.f
 by_cases h:b≤a
 ·rw[ak h];simp[h]
 ·rw[aj h];simp[h]

def xI (n:Int) (e:List Int):Bool:=decide (e.length=2) && (decide (0≤rd e 0∧rd e 0≤wrap64 (n - 1)) && decide (0≤rd e 1∧rd e 1≤wrap64 (n - 1)))

def fH (n:Int) (l:List (List Int)):Bool:=l.all (xI n) && (decide (1≤n∧n≤8) && decide ((l.length:Int)≤10))

theorem TM (n:Int) (l:List (List Int)) (hl:Mod l): ∀(d i:Nat),i+d=l.length→
  Ev (fun k=>fR.l0 k (i:Int) n l) ((l.drop i).all (xI n)):=by
 have hl1:=hl.1;intro d
 induction d with
 | zero=>
  intro i hi;refine bX ?_;simp only[fR.l0];rw[ahe aa]
  repeat (first|with_reducible exact bD _ |dsimp only |refine dx ?_ |refine dz ?_ |simp only[bne_self_eq_false,agC,agD,agB,agE]|rw[bN aa aa]|((with_reducible refine bK (congrArg some ?_));rfl))
 | succ d ih=>
  intro i hi;refine bX ?_;simp only[fR.l0];rw[ahd (by omega:i<l.length),ahX,pG aa,eE aa];generalize l[i]=e;have:=ih (i+1) aa;unfold xI
  by_cases h2:(e.length:Int)=2
  ·rw[aV (show e.length=2 by omega),aht]
   by_cases ha:0≤rd e 0∧rd e 0≤wrap64 (n - 1)
   ·by_cases hb:0≤rd e 1∧rd e 1≤wrap64 (n - 1)
    ·rw[aV ha,aV hb,aht,aht]
     repeat (first|with_reducible exact bD _ |dsimp only |with_reducible refine bu (bK ((oT _ _ _).trans (congrArg some (aV ha)))) ?_ |with_reducible refine bu (bK ((oT _ _ _).trans (congrArg some (aV hb)))) ?_ |refine dx ?_ |refine dz ?_ |simp only[bne_self_eq_false,agC,agD,agB,agE]|rw[bN aa aa]|with_reducible exact(bK ((oT _ _ _).trans (congrArg some (aV ha))))|with_reducible exact(bK ((oT _ _ _).trans (congrArg some (aV hb))))|((with_reducible refine bK (congrArg some ?_));rfl))
     exact this
    ·rw[cj hb,ahM,ahs]
     repeat (first|with_reducible exact bD _ |dsimp only |with_reducible refine bu (bK ((oT _ _ _).trans (congrArg some (aV ha)))) ?_ |with_reducible refine bu (bK ((oT _ _ _).trans (congrArg some (cj hb)))) ?_ |refine dx ?_ |refine dz ?_ |simp only[bne_self_eq_false,agC,agD,agB,agE]|rw[bN aa aa]|with_reducible exact(bK ((oT _ _ _).trans (congrArg some (aV ha))))|with_reducible exact(bK ((oT _ _ _).trans (congrArg some (cj hb))))|((with_reducible refine bK (congrArg some ?_));rfl))
   ·rw[cj ha,ahs,ahs]
    repeat (first|with_reducible exact bD _ |dsimp only |with_reducible refine bu (bK ((oT _ _ _).trans (congrArg some (cj ha)))) ?_ |refine dx ?_ |refine dz ?_ |simp only[bne_self_eq_false,agC,agD,agB,agE]|rw[bN aa aa]|with_reducible exact(bK ((oT _ _ _).trans (congrArg some (cj ha))))|((with_reducible refine bK (congrArg some ?_));rfl))
  ·rw[cj (show ¬e.length=2 by omega),ahs,ahs]
   repeat (first|with_reducible exact bD _ |dsimp only |refine dx ?_ |refine dz ?_ |simp only[bne_self_eq_false,agC,agD,agB,agE]|rw[bN aa aa]|((with_reducible refine bK (congrArg some ?_));rfl))

theorem D7 (n:Int) (l:List (List Int)) (hl:Mod l):Ev (fun k=>fR.f k n l) (fH n l):=by
 unfold fR.f fH
 by_cases h1:1≤n∧n≤8
 ·rw[aV h1,aht]
  repeat (first|with_reducible exact bD _ |dsimp only |with_reducible refine bu (bK ((oT n 1 8).trans (congrArg some (aV h1)))) ?_ |refine dx ?_ |refine dz ?_ |simp only[bne_self_eq_false,agC,agD,agB,agE]|rw[bN aa aa]|with_reducible exact(bK ((oT n 1 8).trans (congrArg some (aV h1))))|((with_reducible refine bK (congrArg some ?_));rfl))
  refine bX ?_;simp only[fR.j0]
  by_cases h2:(l.length:Int)≤10
  ·rw[aV h2,cj (show ¬(l.length:Int)>10 by omega),ahY]
   repeat (first|with_reducible exact bD _ |dsimp only |refine dx ?_ |refine dz ?_ |simp only[bne_self_eq_false,agC,agD,agB,agE]|rw[bN aa aa]|((with_reducible refine bK (congrArg some ?_));rfl))
   exact TM n l hl l.length 0 aa
  ·rw[cj h2,aV (show(l.length:Int)>10 by omega),ahM]
   repeat (first|with_reducible exact bD _ |dsimp only |refine dx ?_ |refine dz ?_ |simp only[bne_self_eq_false,agC,agD,agB,agE]|rw[bN aa aa]|((with_reducible refine bK (congrArg some ?_));rfl))
 ·rw[cj h1,ahs,ahM]
  repeat (first|with_reducible exact bD _ |dsimp only |with_reducible refine bu (bK ((oT n 1 8).trans (congrArg some (cj h1)))) ?_ |refine dx ?_ |refine dz ?_ |simp only[bne_self_eq_false,agC,agD,agB,agE]|rw[bN aa aa]|with_reducible exact(bK ((oT n 1 8).trans (congrArg some (cj h1))))|((with_reducible refine bK (congrArg some ?_));rfl))
  refine bX ?_;simp only[fR.j0]
  repeat (first|with_reducible exact bD _ |dsimp only |refine dx ?_ |refine dz ?_ |simp only[bne_self_eq_false,agC,agD,agB,agE]|rw[bN aa aa]|((with_reducible refine bK (congrArg some ?_));rfl))

theorem TN (n:Int) (l:List (List Int)) (hl:Mod l): ∀(d i:Nat),i+d=l.length→
  Ev (fun k=>gY.l0 k l (l.length:Int) (i:Int) n l) ((l.drop i).all (xI n) && (decide (1≤n∧n≤8) && decide ((l.length:Int)≤10))):=by
 have hl1:=hl.1;intro d
 induction d with
 | zero=>
  intro i hi;refine bX ?_;simp only[gY.l0];rw[ahe aa,List.all_nil,aht]
  by_cases h1:1≤n∧n≤8
  ·rw[aV h1,aht]
   repeat (first|with_reducible exact bD _ |dsimp only |with_reducible refine bu (bK ((mY n 1 8).trans (congrArg some (aV h1)))) ?_ |refine dx ?_ |refine dz ?_ |simp only[bne_self_eq_false,agC,agD,agB,agE]|rw[bN aa aa]|with_reducible exact(bK ((mY n 1 8).trans (congrArg some (aV h1))))|((with_reducible refine bK (congrArg some ?_));rfl))
  ·rw[cj h1,ahs]
   repeat (first|with_reducible exact bD _ |dsimp only |with_reducible refine bu (bK ((mY n 1 8).trans (congrArg some (cj h1)))) ?_ |refine dx ?_ |refine dz ?_ |simp only[bne_self_eq_false,agC,agD,agB,agE]|rw[bN aa aa]|with_reducible exact(bK ((mY n 1 8).trans (congrArg some (cj h1))))|((with_reducible refine bK (congrArg some ?_));rfl))
 | succ d ih=>
  intro i hi;refine bX ?_;simp only[gY.l0];rw[ahd (by omega:i<l.length),ahX,pG aa,eE aa];generalize l[i]=e;have:=ih (i+1) aa;unfold xI at this ⊢
  by_cases h2:(e.length:Int)=2
  ·rw[aV (show e.length=2 by omega),aht]
   by_cases ha:0≤rd e 0∧rd e 0≤wrap64 (n - 1)
   ·by_cases hb:0≤rd e 1∧rd e 1≤wrap64 (n - 1)
    ·rw[aV ha,aV hb,aht,aht]
     repeat (first|with_reducible exact bD _ |dsimp only |with_reducible refine bu (bK ((mY _ _ _).trans (congrArg some (aV ha)))) ?_ |with_reducible refine bu (bK ((mY _ _ _).trans (congrArg some (aV hb)))) ?_ |refine dx ?_ |refine dz ?_ |simp only[bne_self_eq_false,agC,agD,agB,agE]|rw[bN aa aa]|with_reducible exact(bK ((mY _ _ _).trans (congrArg some (aV ha))))|with_reducible exact(bK ((mY _ _ _).trans (congrArg some (aV hb))))|((with_reducible refine bK (congrArg some ?_));rfl))
     exact this
    ·rw[cj hb,ahM,ahs,ahs]
     repeat (first|with_reducible exact bD _ |dsimp only |with_reducible refine bu (bK ((mY _ _ _).trans (congrArg some (aV ha)))) ?_ |with_reducible refine bu (bK ((mY _ _ _).trans (congrArg some (cj hb)))) ?_ |refine dx ?_ |refine dz ?_ |simp only[bne_self_eq_false,agC,agD,agB,agE]|rw[bN aa aa]|with_reducible exact(bK ((mY _ _ _).trans (congrArg some (aV ha))))|with_reducible exact(bK ((mY _ _ _).trans (congrArg some (cj hb))))|((with_reducible refine bK (congrArg some ?_));rfl))
   ·rw[cj ha,ahs,ahs,ahs]
    repeat (first|with_reducible exact bD _ |dsimp only |with_reducible refine bu (bK ((mY _ _ _).trans (congrArg some (cj ha)))) ?_ |refine dx ?_ |refine dz ?_ |simp only[bne_self_eq_false,agC,agD,agB,agE]|rw[bN aa aa]|with_reducible exact(bK ((mY _ _ _).trans (congrArg some (cj ha))))|((with_reducible refine bK (congrArg some ?_));rfl))
  ·rw[cj (show ¬e.length=2 by omega),ahs,ahs,ahs]
   repeat (first|with_reducible exact bD _ |dsimp only |refine dx ?_ |refine dz ?_ |simp only[bne_self_eq_false,agC,agD,agB,agE]|rw[bN aa aa]|((with_reducible refine bK (congrArg some ?_));rfl))

theorem zh (n:Int) (l:List (List Int)) (hl:Mod l):Ev (fun k=>gY.f k n l) (fH n l):=by
 unfold gY.f;exact TN n l hl l.length 0 aa

theorem GN {α:Type} {e:List α} (h:e.length=2): ∃a b,e= [a,b]:=by
 match e,h with
 | [a,b],_=>exact⟨a,b,rfl⟩

theorem Bf (n:Int) (l:List (List Int)):fH n l=true↔1≤n∧n≤8∧l.length≤10∧∀e∈l,∃a b:Int,e= [a,b]∧0≤a∧a<n∧0≤b∧b<n:=by
 unfold fH;rw[ahx,ahx,decide_eq_true_iff,decide_eq_true_iff,List.all_eq_true]
 constructor
 ·rintro⟨h,⟨h1,h2⟩,h3⟩
  refine⟨h1,h2,by omega,fun e he=> ?_⟩;have:=h e he;unfold xI at this;rw[ahx,ahx,decide_eq_true_iff,decide_eq_true_iff,decide_eq_true_iff,bN aa aa]at this;obtain⟨he2,ha,hb⟩:=this;obtain⟨a,b,rfl⟩:=GN he2;simp only[show rd [a,b] 0=a from rfl,show rd [a,b] 1=b from rfl]at ha hb;exact⟨a,b,rfl,by omega,by omega,by omega,by omega⟩
 ·rintro⟨h1,h2,h3,h⟩
  refine⟨fun e he=> ?_,⟨h1,h2⟩,by omega⟩;obtain⟨a,b,rfl,h4,h5,h6,h7⟩:=h e he;unfold xI;rw[ahx,ahx,decide_eq_true_iff,decide_eq_true_iff,decide_eq_true_iff,bN aa aa];simp only[show rd [a,b] 0=a from rfl,show rd [a,b] 1=b from rfl];exact⟨rfl,by omega,by omega⟩
theorem Gn {n:Int} {l:List (List Int)} (h:fH n l=true) {i:Nat} (hi:i<l.length):
  (aH l (i:Int)).length=2∧∃a b:Nat,rd (aH l (i:Int)) 0=a∧rd (aH l (i:Int)) 1=b∧(a:Int)<n∧(b:Int)<n:=by
 rw[pG hi];obtain⟨h1,h2,h3,h4⟩:=(Bf n l).1 h;obtain⟨a,b,e,ha,ha',hb,hb'⟩:=h4 _ (ag5 hi);rw[e];refine⟨rfl,a.toNat,b.toNat, ?_, ?_,by omega,by omega⟩
 ·show a=_
  omega
 ·show b=_
  omega

theorem gG {n:Int} {l:List (List Int)} (h:fH n l=true):1≤n∧n≤8∧l.length≤10:=by
 obtain⟨h1,h2,h3,h4⟩:=(Bf n l).1 h;exact⟨h1,h2,h3⟩

def tl (l:List (List Int)) (p:Nat):Int:=if p % 2=1 then rd (aH l ((p / 2:Nat):Int)) 1 else rd (aH l ((p / 2:Nat):Int)) 0
def hd (l:List (List Int)) (p:Nat):Int:=if p % 2=1 then rd (aH l ((p / 2:Nat):Int)) 0 else rd (aH l ((p / 2:Nat):Int)) 1
def inv (p:Nat):Nat:=if p % 2=0 then p+1 else p - 1
def next (l:List (List Int)) (p q:Nat):Bool:=decide (hd l p=tl l q) && decide (q≠inv p)

theorem half (p:Nat) (h:p<1000):wrap64 (Int.tdiv (p:Int) 2)=((p / 2:Nat):Int):=by
 rw[ahp aa,bN aa aa]
 omega

theorem Mu (p:Nat):Int.tmod (p:Int) 2=((p % 2:Nat):Int):=by
 rw[ahq aa]
 omega

theorem GU (p:Nat) (h:p<20):Go.bits .xor .i64 (p:Int) 1=((inv p:Nat):Int):=by
 have: ∀q:Fin 20,Go.bits .xor .i64 (q.val:Int) 1=((inv q.val:Nat):Int):=by decide
 exact this ⟨p,h⟩

section
variable {n:Int} {l:List (List Int)} (h:fH n l=true)
include h

theorem Mv {p:Nat} (hp:p<2*l.length):qf.f n l (p:Int)=some (tl l p,hd l p):=by
 obtain⟨g1,g2,g3⟩:=gG h;obtain⟨e2,a,b,ea,eb,ha,hb⟩:=Gn h (show p / 2<l.length by omega);unfold qf.f tl hd;rw[half p aa,Mu,ak aa,ak aa]
 by_cases c:p % 2=1
 ·rw[ak (show((p % 2:Nat):Int)=1 by omega),ak aa,ak aa,ak c,ak c]
 ·rw[aj (show ¬((p % 2:Nat):Int)=1 by omega),ak aa,ak aa,aj c,aj c]

theorem xJ {p:Nat} (hp:p<2*l.length):jI.f n l (p:Int)=some (tl l p,hd l p):=by
 obtain⟨g1,g2,g3⟩:=gG h;obtain⟨e2,a,b,ea,eb,ha,hb⟩:=Gn h (show p / 2<l.length by omega);unfold jI.f tl hd;rw[half p aa,Mu,bN (x:=1 - ((p % 2:Nat):Int)) aa aa,ak aa,ak aa,ak aa,ak aa,ak aa,ak aa]
 by_cases c:p % 2=1
 ·rw[ak c,ak c,c]
  rfl
 ·rw[aj c,aj c,show p % 2=0 by omega]
  rfl

theorem My {p q:Nat} (hp:p<2*l.length) (hq:q<2*l.length):pH.f n l (p:Int) (q:Int)=some (next l p q):=by
 obtain⟨g1,g2,g3⟩:=gG h;unfold pH.f next;rw[xJ h hp,xJ h hq,ahy,ahy,GU p aa]
 by_cases c:hd l p=tl l q
 ·rw[ak c.symm,aV c,aht]
  by_cases c2:q=inv p
  ·rw[c2];simp
  ·simp[c2,bne]
   omega
 ·rw[aj (fun e=>c e.symm),cj c,ahs]

end
def zeros (n:Nat):List (List Int):=ahz n (ahz n 0)

theorem TP {α:Type} (n:Nat) (x:α):ahz n x++[x]=ahz (n+1) x:=List.replicate_succ'.symm

theorem DY (n:Int) (h0:0≤n) (h1:n≤1000):Ev (fun k=>kf.f k n) (zeros n.toNat):=by
 have: ∀(d v:Nat),(v:Int)+d=n→Ev (fun k=>kf.l0 k n (ahz v (ahz n.toNat 0)) n (v:Int)) (zeros n.toNat):=by
  intro d
  induction d with
  | zero=>
   intro v hv;refine bX ?_;simp only[kf.l0];rw[show v=n.toNat by omega]
   repeat (first|with_reducible exact bD _ |dsimp only |refine dx ?_ |refine dz ?_ |simp only[bne_self_eq_false,agC,agD,agB,agE]|rw[bN aa aa]|((with_reducible refine bK (congrArg some ?_));rfl))
  | succ d ih=>
   intro v hv;have:=ih (v+1) aa;rw[← TP]at this;refine bX ?_;simp only[kf.l0];rw[eE aa];refine bz aa ?_;refine bz aa ?_;refine bz aa ?_;refine bz (by simp;omega) ?_;exact this
 exact this n.toNat 0 aa

def Sm:Nat→(Nat→Int)→Int
 | 0,_=>0
 | n+1,f=>Sm n f+f n

theorem cR {n:Nat} {f g:Nat→Int} (h: ∀i,i<n→f i=g i):Sm n f=Sm n g:=by
 induction n with
 | zero=>rfl
 | succ n ih=>unfold Sm;rw[ih (fun i hi=>h i aa),h n aa]

theorem iT (n:Nat) (f g:Nat→Int):Sm n (fun i=>f i+g i)=Sm n f+Sm n g:=by
 induction n with
 | zero=>rfl
 | succ n ih=>
  show Sm n (fun i=>f i+g i)+(f n+g n)=Sm n f+f n+(Sm n g+g n)
  rw[ih];omega

theorem jg (n:Nat) (c:Int) (f:Nat→Int):Sm n (fun i=>c*f i)=c*Sm n f:=by
 induction n with
 | zero=>simp[Sm]
 | succ n ih=>unfold Sm;rw[ih,ahF]

theorem pW (n:Nat) (c:Int) (f:Nat→Int):Sm n (fun i=>f i*c)=Sm n f*c:=by
 induction n with
 | zero=>simp[Sm]
 | succ n ih=>unfold Sm;rw[ih,agV]

theorem kM (n:Nat):Sm n (fun _=>0)=0:=by
 induction n with
 | zero=>rfl
 | succ n ih=>unfold Sm;rw[ih];rfl

theorem rB (n m:Nat) (f:Nat→Nat→Int):Sm n (fun i=>Sm m (fun j=>f i j))=Sm m (fun j=>Sm n (fun i=>f i j)):=by
 induction n with
 | zero=>exact(kM m).symm
 | succ n ih=>
  show Sm n (fun i=>Sm m (fun j=>f i j))+Sm m (fun j=>f n j)=_
  rw[ih,← iT]
  rfl

theorem qL {n:Nat} {f:Nat→Int} {b:Int} (h: ∀i,i<n→f i≤b):Sm n f≤n*b:=by
 induction n with
 | zero=>simp[Sm]
 | succ n ih=>
  have h1:=ih (fun i hi=>h i aa);have h2:=h n aa;unfold Sm;rw[Int.natCast_add,agV]
  omega

theorem lu {n:Nat} {f:Nat→Int} (h: ∀i,i<n→0≤f i):0≤Sm n f:=by
 induction n with
 | zero=>simp[Sm]
 | succ n ih=>
  have h1:=ih (fun i hi=>h i aa);have h2:=h n aa;unfold Sm
  omega

def mul (n:Nat) (a b:Nat→Nat→Int):Nat→Nat→Int:=fun i j=>Sm n (fun k=>a i k*b k j)

theorem mul_assoc' (n:Nat) (a b c:Nat→Nat→Int) (i j:Nat):mul n (mul n a b) c i j=mul n a (mul n b c) i j:=by
 unfold mul;rw[cR (g:=fun k=>Sm n (fun m=>a i m*b m k*c k j)) (fun k _=>(pW n _ _).symm)];rw[rB];refine cR (fun m _=> ?_);rw[← jg];exact cR (fun k _=>agJ _ _ _)

def tr (n:Nat) (a:Nat→Nat→Int):Int:=Sm n (fun i=>a i i)

def pw (n:Nat) (a:Nat→Nat→Int):Nat→Nat→Nat→Int
 | 0=>a
 | p+1=>mul n (pw n a p) a

theorem mul_congr {n:Nat} {a b a' b':Nat→Nat→Int} {i j:Nat} (ha: ∀k,k<n→a i k=a' i k) (hb: ∀k,k<n→b k j=b' k j):mul n a b i j=mul n a' b' i j:=
 cR (fun k hk=>by rw[ha k hk,hb k hk])

def dF (m:List (List Int)) (i j:Nat):Int:=rd (aH m (i:Int)) (j:Int)

def rowOf (n:Nat) (f:Nat→Int):List Int:=(ag2 n).map f

def ofFn (n:Nat) (f:Nat→Nat→Int):List (List Int):=(ag2 n).map (fun i=>rowOf n (f i))

theorem jB (n:Nat) (f:Nat→Int):(rowOf n f).length=n:=by simp[rowOf]

theorem nK {n i:Nat} (f:Nat→Int) (h:i<n):rd (rowOf n f) (i:Int)=f i:=zj f h

theorem lA {n:Nat} {f g:Nat→Int} (h: ∀i,i<n→f i=g i):rowOf n f=rowOf n g:=by
 unfold rowOf;exact ah8 (fun i hi=>h i (ahv.1 hi))

theorem uO {n i:Nat} (f:Nat→Int) (v:Int) (h:i<n):(rowOf n f).set i v=rowOf n (fun j=>if j=i then v else f j):=by
 refine Bj (by rw[ah9,jB,jB]) (fun j hj=> ?_);rw[ah9,jB]at hj;rw[MA (by rw[jB];exact h),nK _ hj,nK _ hj]

theorem uN (n:Nat):rowOf n (fun _=>0)=ahz n 0:=by
 refine Bj (by rw[jB,List.length_replicate]) (fun j hj=> ?_);rw[jB]at hj;rw[nK _ hj,MB]

theorem pZ (n:Nat) (f:Nat→Nat→Int):(ofFn n f).length=n:=by simp[ofFn]

theorem sC {n i:Nat} (f:Nat→Nat→Int) (h:i<n):aH (ofFn n f) (i:Int)=rowOf n (f i):=by
 rw[pG (by rw[pZ];exact h)];simp[ofFn]

theorem uM {n i j:Nat} (f:Nat→Nat→Int) (hi:i<n) (hj:j<n):dF (ofFn n f) i j=f i j:=by
 unfold dF;rw[sC f hi,nK _ hj]

theorem mT {n:Nat} {f g:Nat→Nat→Int} (h: ∀i j,i<n→j<n→f i j=g i j):ofFn n f=ofFn n g:=by
 unfold ofFn;exact ah8 (fun i hi=>lA (fun j hj=>h i j (ahv.1 hi) hj))

theorem DW {n i:Nat} (f:Nat→Nat→Int) (r:Nat→Int) (h:i<n):(ofFn n f).set i (rowOf n r)=ofFn n (fun k=>if k=i then r else f k):=by
 apply List.ext_getElem
 ·rw[ah9,pZ,pZ]
 ·intro k h1 h2
  rw[pZ]at h2;simp only[List.getElem_set,ofFn,List.getElem_map,ahf]
  by_cases e:k=i
  ·subst e;simp
  ·rw[aj (fun x=>e x.symm),aj e]

def Sq (n:Nat) (m:List (List Int)):Prop:=m.length=n∧∀i:Nat,i<n→(aH m (i:Int)).length=n

theorem uP (n:Nat) (f:Nat→Nat→Int):Sq n (ofFn n f):=⟨pZ n f,fun i hi=>by rw[sC f hi,jB]⟩

theorem wW (a b:Int):wrap64 (wrap64 a+wrap64 b)=wrap64 (a+b):=by
 unfold wrap64
 omega

theorem TQ (a b:Int):wrap64 (wrap64 a+b)=wrap64 (a+b):=by
 unfold wrap64
 omega

def mA (l:List (List Int)) (p:Nat):Nat→List Int
 | 0=>ahz (2*l.length) 0
 | q+1=>if next l p q=true then (mA l p q).set q 1 else mA l p q

def qg (l:List (List Int)) (n:Nat):List (List Int):=(ag2 n).map (fun p=>mA l p (2*l.length))

theorem Ea (l:List (List Int)) (p q:Nat):(mA l p q).length=2*l.length:=by
 induction q with
 | zero=>simp[mA]
 | succ q ih=>unfold mA;split<;>simp[ih]

theorem zo (l:List (List Int)) (n:Nat):(qg l n).length=n:=by simp[qg]

theorem MC (l:List (List Int)) (n:Nat):qg l (n+1)=qg l n++[mA l n (2*l.length)]:=tw _ _

theorem TR (l:List (List Int)) (p:Nat): ∀(q j:Nat),q≤2*l.length→rd (mA l p q) (j:Int)=if j<q∧next l p j=true then 1 else 0:=by
 intro q
 induction q with
 | zero=>
  intro j _;rw[aj aa];exact MB _ _
 | succ q ih=>
  intro j hq;have hl:=Ea l p q;unfold mA
  by_cases c:next l p q=true
  ·rw[ak c,MA aa]
   by_cases e:j=q
   ·subst e
    rw[ak rfl,ak ⟨by omega,c⟩]
   ·rw[aj e,ih j aa]
    by_cases c2:j<q∧next l p j=true
    ·rw[ak c2,ak ⟨by omega,c2.2⟩]
    ·rw[aj c2,aj (fun x=>c2 ⟨by omega,x.2⟩)]
  ·rw[aj c,ih j aa]
   by_cases c2:j<q∧next l p j=true
   ·rw[ak c2,ak ⟨by omega,c2.2⟩]
   ·rw[aj c2,aj (fun x=> ?_)]
    by_cases e:j=q
    ·subst e;exact c x.2
    ·exact c2 ⟨by omega,x.2⟩

theorem zf {l:List (List Int)} {p q:Nat}:next l p q=true↔hd l p=tl l q∧q≠inv p:=by
 unfold next;rw[ahx,decide_eq_true_iff,decide_eq_true_iff]

def stage (l:List (List Int)) (p q:Nat):List (List Int):=qg l p++mA l p q :: ahz (2*l.length - (p+1)) (ahz (2*l.length) 0)

theorem TS (l:List (List Int)) (p q:Nat) (h:p<2*l.length):(stage l p q).length=2*l.length:=by
 simp[stage,zo];omega

theorem TT (l:List (List Int)) (p q:Nat):aH (stage l p q) (p:Int)=mA l p q:=by
 unfold stage;rw[pG (by simp[zo])];rw[aim (by rw[zo];omega)];simp[zo]

theorem TU (l:List (List Int)) (p q:Nat) (r:List Int):(stage l p q).set p r=qg l p++r :: ahz (2*l.length - (p+1)) (ahz (2*l.length) 0):=by
 unfold stage;rw[List.set_append_right _ _ (by rw[zo];omega),zo,Nat.sub_self,List.set_cons_zero]

theorem TV (l:List (List Int)):0<2*l.length→stage l 0 0=zeros (2*l.length):=by
 intro h;unfold stage qg zeros mA;rw[show 2*l.length - (0+1)=2*l.length - 1 by omega];simp only[List.range_zero,List.map_nil,ahN];rw[← List.replicate_succ,Nat.sub_add_cancel aa]

theorem TW (l:List (List Int)) (p:Nat) (h:p+1<2*l.length):stage l p (2*l.length)=stage l (p+1) 0:=by
 unfold stage;rw[MC,show 2*l.length - (p+1)=(2*l.length - (p+1+1))+1 by omega,List.replicate_succ,ahm]
 rfl

theorem TX (l:List (List Int)) (p:Nat) (h:p+1=2*l.length):stage l p (2*l.length)=qg l (2*l.length):=by
 unfold stage;rw[show 2*l.length - (p+1)=0 by omega,List.replicate_zero,← MC,h]

section
variable {n:Int} {l:List (List Int)} (h:fH n l=true)
include h

theorem MD (p:Nat) (hp:p<2*l.length) (r:List (List Int)) (hr:Ev (fun k=>fX.l0 k (stage l p (2*l.length)) (2*(l.length:Int)) ((p+1:Nat):Int) n l) r):
  ∀(d q:Nat),q+d=2*l.length→Ev (fun k=>fX.l1 k (stage l p q) (p:Int) (hd l p) (2*(l.length:Int)) (p:Int) (2*(l.length:Int)) (q:Int) n l) r:=by
 obtain⟨g1,g2,g3⟩:=gG h;intro d
 induction d with
 | zero=>
  intro q hq;have e:q=2*l.length:=by omega
  refine bX ?_;simp only[fX.l1];rw[eE (i:=p) aa,e]
  repeat (first|with_reducible exact bD _ |dsimp only |refine dx ?_ |refine dz ?_ |simp only[bne_self_eq_false,agC,agD,agB,agE]|rw[bN aa aa]|((with_reducible refine bK (congrArg some ?_));rfl))
  exact hr
 | succ d ih=>
  intro q hq;have hi:=ih (q+1) aa;have he:=xJ h (show q<2*l.length by omega);have hx:=GU p aa;have hlen:=Ea l p q;have hs:=TS l p q hp;refine bX ?_;simp only[fX.l1];rw[eE (i:=q) aa,hx,TT]
  by_cases c:next l p q=true
  ·have e2:(stage l p q).set p ((mA l p q).set q 1)=stage l p (q+1):=by
    rw[TU];unfold stage;rw[show mA l p (q+1)=(if next l p q=true then (mA l p q).set q 1 else mA l p q) from rfl,ak c]
   obtain⟨c1,c2⟩:=zf.1 c;rw[agG,agG,e2]
   repeat (first|with_reducible exact bD _ |dsimp only |with_reducible refine bu (bK he) ?_ |refine dx ?_ |refine dz ?_ |simp only[bne_self_eq_false,agC,agD,agB,agE]|rw[bN aa aa]|with_reducible exact(bK he)|((with_reducible refine bK (congrArg some ?_));rfl))
   exact hi
  ·have e2:stage l p q=stage l p (q+1):=by
    unfold stage;rw[show mA l p (q+1)=(if next l p q=true then (mA l p q).set q 1 else mA l p q) from rfl,aj c]
   rw[← e2]at hi
   by_cases c1:hd l p=tl l q
   ·have c2:q=inv p:=by
     apply ain;intro e;exact c (zf.2 ⟨c1,e⟩)
    repeat (first|with_reducible exact bD _ |dsimp only |with_reducible refine bu (bK he) ?_ |refine dx ?_ |refine dz ?_ |simp only[bne_self_eq_false,agC,agD,agB,agE]|rw[bN aa aa]|with_reducible exact(bK he)|((with_reducible refine bK (congrArg some ?_));rfl))
    exact hi
   ·repeat (first|with_reducible exact bD _ |dsimp only |with_reducible refine bu (bK he) ?_ |refine dx ?_ |refine dz ?_ |simp only[bne_self_eq_false,agC,agD,agB,agE]|rw[bN aa aa]|with_reducible exact(bK he)|((with_reducible refine bK (congrArg some ?_));rfl))
    exact hi

theorem uR:Ev (fun k=>fX.f k n l) (qg l (2*l.length)):=by
 obtain⟨g1,g2,g3⟩:=gG h;have main: ∀(d p:Nat),p+1+d=2*l.length→Ev (fun k=>fX.l0 k (stage l p 0) (2*(l.length:Int)) (p:Int) n l) (qg l (2*l.length)):=by
  intro d
  induction d with
  | zero=>
   intro p hp;have he:=xJ h (show p<2*l.length by omega);refine bX ?_;simp only[fX.l0];unfold kF.f
   repeat (first|with_reducible exact bD _ |dsimp only |with_reducible refine bu (bK he) ?_ |with_reducible refine bu (bD _) ?_ |refine dx ?_ |refine dz ?_ |simp only[bne_self_eq_false,agC,agD,agB,agE]|rw[bN aa aa]|with_reducible exact(bK he)|with_reducible exact(bD _)|((with_reducible refine bK (congrArg some ?_));rfl))
   refine MD h p aa _ ?_ (2*l.length) 0 aa;rw[TX l p aa];refine bX ?_;simp only[fX.l0]
   repeat (first|with_reducible exact bD _ |dsimp only |refine dx ?_ |refine dz ?_ |simp only[bne_self_eq_false,agC,agD,agB,agE]|rw[bN aa aa]|((with_reducible refine bK (congrArg some ?_));rfl))
  | succ d ih=>
   intro p hp;have hi:=ih (p+1) aa;have he:=xJ h (show p<2*l.length by omega);refine bX ?_;simp only[fX.l0];unfold kF.f
   repeat (first|with_reducible exact bD _ |dsimp only |with_reducible refine bu (bK he) ?_ |with_reducible refine bu (bD _) ?_ |refine dx ?_ |refine dz ?_ |simp only[bne_self_eq_false,agC,agD,agB,agE]|rw[bN aa aa]|with_reducible exact(bK he)|with_reducible exact(bD _)|((with_reducible refine bK (congrArg some ?_));rfl))
   refine MD h p aa _ ?_ (2*l.length) 0 aa;rw[TW l p aa];exact hi
 unfold fX.f kF.f;refine bu (bD _) ?_;rw[bN (x:=2*(l.length:Int)) aa aa];refine bu (DY (2*(l.length:Int)) aa aa) ?_;refine bu (bD _) ?_;rw[bN (x:=2*(l.length:Int)) aa aa];rw[show(2*(l.length:Int)).toNat=2*l.length by omega]
 by_cases e:l.length=0
 ·refine bX ?_;simp only[fX.l0]
  refine cB aa ?_;refine bK (congrArg some ?_);rw[e]
  rfl
 ·rw[← TV l aa]
  exact main (2*l.length - 1) 0 aa

end
section
variable (n:Nat) (hn:n≤1000) (a b:List (List Int)) (ha:Sq n a) (hb:Sq n b)

def part (k i j:Nat):Int:=wrap64 (Sm k (fun m=>dF a i m*dF b m j))

def rt (i k j:Nat):List (List Int):=ofFn n (fun p q=>if p<i then part a b n p q else if p=i then (if q<j then part a b (k+1) p q else part a b k p q) else 0)

theorem TY (i k:Nat):rt n a b i k n=rt n a b i (k+1) 0:=by
 refine mT (fun p q hp hq=> ?_)
 by_cases c:p<i
 ·simp only[ak c]
 ·by_cases e:p=i
  ·simp only[aj c,ak e,ak hq,aj (Nat.not_lt_zero q)]
  ·simp only[aj c,aj e]

theorem MF (i j:Nat):part a b 0 i j=0:=by
 unfold part Sm;exact bN aG aG

theorem TZ (i:Nat):rt n a b i n 0=rt n a b (i+1) 0 0:=by
 refine mT (fun p q hp hq=> ?_)
 by_cases c:p<i
 ·rw[ak c,ak aa]
 ·by_cases e:p=i
  ·rw[aj c,ak e,aj aa,ak aa]
  ·rw[aj c,aj e,aj aa]
   by_cases e2:p=i+1
   ·rw[ak e2,aj aa,MF]
   ·rw[aj e2]

theorem Ua (k i j:Nat) (h:dF a i k=0):part a b (k+1) i j=part a b k i j:=by
 unfold part;rw[show Sm (k+1) (fun m=>dF a i m*dF b m j)=Sm k (fun m=>dF a i m*dF b m j)+dF a i k*dF b k j from rfl,h,agA,agN]

theorem Ub (i k:Nat) (h:dF a i k=0):rt n a b i k 0=rt n a b i (k+1) 0:=by
 refine mT (fun p q hp hq=> ?_)
 by_cases c:p<i
 ·simp only[ak c]
 ·by_cases e:p=i
  ·subst e
   simp only[aj c,ak,aj (Nat.not_lt_zero q),Ua a b k p q h]
  ·simp only[aj c,aj e]

theorem Uc (k i j:Nat):wrap64 (part a b k i j+wrap64 (dF a i k*dF b k j))=part a b (k+1) i j:=by
 unfold part;rw[wW]
 rfl

theorem GV (i k j:Nat):(rt n a b i k j).length=n:=pZ _ _

theorem GW {i:Nat} (k j:Nat) (hi:i<n):aH (rt n a b i k j) (i:Int)=rowOf n (fun q=>if q<j then part a b (k+1) i q else part a b k i q):=by
 unfold rt;rw[sC _ hi];refine lA (fun q hq=> ?_);rw[aj (Nat.lt_irrefl i),ak rfl]

theorem Ud {i j:Nat} (k:Nat) (hi:i<n) (hj:j<n):(rt n a b i k j).set i ((aH (rt n a b i k j) (i:Int)).set j (wrap64 (rd (aH (rt n a b i k j) (i:Int)) (j:Int)+wrap64 (dF a i k*dF b k j))))=rt n a b i k (j+1):=by
 rw[GW n a b k j hi,nK _ hj,aj (Nat.lt_irrefl j),Uc,uO _ _ hj];unfold rt;rw[DW _ _ hi];refine mT (fun p q hp hq=> ?_)
 by_cases e:p=i
 ·subst e
  rw[ak rfl,aj (Nat.lt_irrefl p),ak rfl]
  by_cases e2:q=j
  ·subst e2
   rw[ak rfl,ak aa]
  ·rw[aj e2]
   by_cases c:q<j
   ·rw[ak c,ak aa]
   ·rw[aj c,aj aa]
 ·rw[aj e]
  by_cases c:p<i
  ·rw[ak c,ak c]
  ·rw[aj c,aj c,aj e,aj e]

include hn ha hb

theorem Ue (i k:Nat) (hi:i<n) (hk:k<n) (r:List (List Int)) (hr:Ev (fun f=>fQ.l1 f b (rt n a b i k n) (i:Int) a (n:Int) (i:Int) (aH a (i:Int)) (n:Int) ((k+1:Nat):Int)) r):
  ∀(d j:Nat),j+d=n→Ev (fun f=>fQ.l2 f b (rt n a b i k j) (i:Int) (dF a i k) a (n:Int) (i:Int) (aH a (i:Int)) (n:Int) (k:Int) (aH b (k:Int)) (n:Int) (j:Int)) r:=by
 have hbl:=hb.2 k hk;intro d
 induction d with
 | zero=>
  intro j hj;have e:j=n:=by omega
  subst e;refine bX ?_;simp only[fQ.l2];rw[eE (i:=k) aa]
  repeat (first|with_reducible exact bD _ |dsimp only |refine dx ?_ |refine dz ?_ |simp only[bne_self_eq_false,agC,agD,agB,agE]|rw[bN aa aa]|((with_reducible refine bK (congrArg some ?_));rfl))
  exact hr
 | succ d ih=>
  intro j hj;have h1:=ih (j+1) aa;have hl:=GV n a b i k j;have hrow:(aH (rt n a b i k j) (i:Int)).length=n:=by rw[GW n a b k j hi,jB]
  have hset:=Ud n a b (i:=i) (j:=j) k hi aa;refine bX ?_;simp only[fQ.l2];rw[show rd (aH b (k:Int)) (j:Int)=dF b k j from rfl,agG,agG,hset,eE (i:=j) aa]
  repeat (first|with_reducible exact bD _ |dsimp only |refine dx ?_ |refine dz ?_ |simp only[bne_self_eq_false,agC,agD,agB,agE]|rw[bN aa aa]|((with_reducible refine bK (congrArg some ?_));rfl))
  exact h1

theorem Uf (i:Nat) (hi:i<n) (r:List (List Int)) (hr:Ev (fun f=>fQ.l0 f b (rt n a b (i+1) 0 0) a (n:Int) ((i+1:Nat):Int)) r):
  ∀(d k:Nat),k+d=n→Ev (fun f=>fQ.l1 f b (rt n a b i k 0) (i:Int) a (n:Int) (i:Int) (aH a (i:Int)) (n:Int) (k:Int)) r:=by
 have hal:=ha.2 i hi;have hbl:=hb.1;intro d
 induction d with
 | zero=>
  intro k hk;have e:k=n:=by omega
  refine bX ?_;simp only[fQ.l1];rw[e,TZ,eE (i:=i) aa]
  repeat (first|with_reducible exact bD _ |dsimp only |refine dx ?_ |refine dz ?_ |simp only[bne_self_eq_false,agC,agD,agB,agE]|rw[bN aa aa]|((with_reducible refine bK (congrArg some ?_));rfl))
  exact hr
 | succ d ih=>
  intro k hk;have h1:=ih (k+1) aa;have hbk:=hb.2 k aa;refine bX ?_;simp only[fQ.l1];rw[show rd (aH a (i:Int)) (k:Int)=dF a i k from rfl,eE (i:=k) aa]
  by_cases c:dF a i k=0
  ·rw[← Ub n a b i k c]at h1
   repeat (first|with_reducible exact bD _ |dsimp only |refine dx ?_ |refine dz ?_ |simp only[bne_self_eq_false,agC,agD,agB,agE]|rw[bN aa aa]|((with_reducible refine bK (congrArg some ?_));rfl))
   exact h1
  ·rw[← TY]at h1
   repeat (first|with_reducible exact bD _ |dsimp only |refine dx ?_ |refine dz ?_ |simp only[bne_self_eq_false,agC,agD,agB,agE]|rw[bN aa aa]|((with_reducible refine bK (congrArg some ?_));rfl))
   rw[hbk];exact Ue n hn a b ha hb i k hi aa r h1 n 0 aa

theorem Ug: ∀(d i:Nat),i+d=n→Ev (fun f=>fQ.l0 f b (rt n a b i 0 0) a (n:Int) (i:Int)) (ofFn n (part a b n)):=by
 have hal:=ha.1;intro d
 induction d with
 | zero=>
  intro i hi;refine bX ?_;simp only[fQ.l0];have e:rt n a b i 0 0=ofFn n (part a b n):=mT (fun p q hp hq=>ak aa);rw[e]
  repeat (first|with_reducible exact bD _ |dsimp only |refine dx ?_ |refine dz ?_ |simp only[bne_self_eq_false,agC,agD,agB,agE]|rw[bN aa aa]|((with_reducible refine bK (congrArg some ?_));rfl))
 | succ d ih=>
  intro i hi;have h1:=ih (i+1) aa;have hai:=ha.2 i aa;refine bX ?_;simp only[fQ.l0]
  repeat (first|with_reducible exact bD _ |dsimp only |refine dx ?_ |refine dz ?_ |simp only[bne_self_eq_false,agC,agD,agB,agE]|rw[bN aa aa]|((with_reducible refine bK (congrArg some ?_));rfl))
  rw[hai];exact Uf n hn a b ha hb i aa _ h1 n 0 aa

theorem DX:Ev (fun f=>fQ.f f a b) (ofFn n (part a b n)):=by
 unfold fQ.f;rw[ha.1];refine bu (DY (n:Int) aa aa) ?_;have e:zeros (n:Int).toNat=rt n a b 0 0 0:=by
  rw[agG];apply List.ext_getElem
  ·rw[GV];simp[zeros]
  ·intro k h1 h2
   rw[GV]at h2;rw[← pG,← pG]
   ·by_cases e:k=0
    ·subst e
     rw[GW n a b 0 0 h2,pG h1];simp only[zeros,List.getElem_replicate];rw[← uN];refine lA (fun q hq=> ?_);rw[aj aa,MF]
    ·unfold rt
     rw[sC _ h2,pG h1];simp only[zeros,List.getElem_replicate];rw[← uN];refine lA (fun q hq=> ?_);rw[aj aa,aj e]
 rw[e];exact Ug n hn a b ha hb n 0 aa

omit hb in
theorem trace:Ev (fun f=>mh.f f a) (wrap64 (tr n (dF a))):=by
 have hal:=ha.1;have: ∀(d i:Nat),i+d=n→Ev (fun f=>mh.l0 f (wrap64 (Sm i (fun i=>dF a i i))) a (n:Int) (i:Int)) (wrap64 (tr n (dF a))):=by
  intro d
  induction d with
  | zero=>
   intro i hi;have e:i=n:=by omega
   subst e;refine bX ?_;simp only[mh.l0]
   repeat (first|with_reducible exact bD _ |dsimp only |refine dx ?_ |refine dz ?_ |simp only[bne_self_eq_false,agC,agD,agB,agE]|rw[bN aa aa]|((with_reducible refine bK (congrArg some ?_));rfl))
  | succ d ih=>
   intro i hi;have h1:=ih (i+1) aa;have hai:=ha.2 i aa;refine bX ?_;simp only[mh.l0];rw[eE aa,TQ]
   repeat (first|with_reducible exact bD _ |dsimp only |refine dx ?_ |refine dz ?_ |simp only[bne_self_eq_false,agC,agD,agB,agE]|rw[bN aa aa]|((with_reducible refine bK (congrArg some ?_));rfl))
   exact h1
 unfold mh.f;rw[hal];have h0:=this n 0 aa;rw[show wrap64 (Sm 0 (fun i=>dF a i i))=0 from bN (x:=0) aG aG]at h0;exact h0

end

def W (l:List (List Int)) (p q:Nat):Int:=if next l p q=true then 1 else 0

theorem mU (l:List (List Int)) (p q:Nat):0≤W l p q∧W l p q≤1:=by
 unfold W
 split<;>decide

theorem Gp (l:List (List Int)):qg l (2*l.length)=ofFn (2*l.length) (W l):=by
 unfold qg ofFn;refine ah8 (fun p hp=> ?_);refine Bj (by rw[Ea,jB]) (fun j hj=> ?_);rw[Ea]at hj;rw[TR l p _ j (agO _),nK _ hj];unfold W
 by_cases c:next l p j=true
 ·rw[ak c,ak ⟨hj,c⟩]
 ·rw[aj c,aj (fun e=>c e.2)]

def vec (l:List (List Int)) (N p:Nat):Nat→Nat→Int
 | 0,q=>if q=p then 1 else 0
 | j+1,q=>Sm N (fun r=>vec l N p j r*W l r q)

theorem Bk (l:List (List Int)) (N p:Nat) (hN:N≤20): ∀j q,0≤vec l N p j q∧vec l N p j q≤20 ^ j:=by
 intro j
 induction j with
 | zero=>
  intro q;unfold vec
  split<;>decide
 | succ j ih=>
  intro q;unfold vec;have hle: ∀r,r<N→vec l N p j r*W l r q≤20 ^ j:=fun r _=>by
   have h1:=ih r;have h2:=mU l r q;have:vec l N p j r*W l r q≤vec l N p j r*1:=agP h2.2 h1.1
   omega
  refine⟨lu (fun r _=>agS (ih r).1 (mU l r q).1), ?_⟩;have h3:=qL hle;have h4:(N:Int)*20 ^ j≤20*20 ^ j:=agR aa (Int.pow_nonneg aG);rw[Int.pow_succ,agF (20 ^ j) 20]
  omega

theorem Bl (N:Nat) (f:Nat→Int) {p:Nat} (hp:p<N):Sm N (fun r=>(if r=p then 1 else 0)*f r)=f p:=by
 induction N with
 | zero=>omega
 | succ N ih=>
  show Sm N (fun r=>(if r=p then 1 else 0)*f r)+(if N=p then 1 else 0)*f N=f p
  by_cases e:p=N
  ·subst e
   rw[ak rfl,agQ];have:Sm p (fun r=>(if r=p then 1 else 0)*f r)=Sm p (fun _=>0):=cR (fun i hi=>by rw[aj aa,agA]);rw[this,kM,ahZ]
  ·rw[ih aa,aj aa,agA,agN]

theorem Eb (l:List (List Int)) (N:Nat) {p:Nat} (hp:p<N): ∀j q,vec l N p (j+1) q=pw N (W l) j p q:=by
 intro j
 induction j with
 | zero=>
  intro q
  show Sm N (fun r=>(if r=p then 1 else 0)*W l r q)=W l p q
  exact Bl N (fun r=>W l r q) hp
 | succ j ih=>
  intro q
  show Sm N (fun r=>vec l N p (j+1) r*W l r q)=Sm N (fun r=>pw N (W l) j p r*W l r q)
  exact cR (fun r _=>by rw[ih r])

theorem GX (l:List (List Int)) (N:Nat) (hN:N≤20) {p:Nat} (hp:p<N) (j q:Nat):0≤pw N (W l) j p q∧pw N (W l) j p q≤20 ^ (j+1):=by
 rw[← Eb l N hp];exact Bk l N p hN (j+1) q

def dO (l:List (List Int)) (j:Nat):Int:=tr (2*l.length) (pw (2*l.length) (W l) j)

theorem GY {j:Nat} (h:j≤13):(20:Int) ^ j≤81920000000000000:=by
 have: ∀i:Fin 14,(20:Int) ^ i.val≤81920000000000000:=by decide
 exact this ⟨j,by omega⟩

theorem D2 (l:List (List Int)) (h:l.length≤10) {j:Nat} (hj:j≤12):0≤dO l j∧dO l j≤1638400000000000000:=by
 unfold dO tr;refine⟨lu (fun i hi=>(GX l _ aa hi j i).1), ?_⟩;have h1:Sm (2*l.length) (fun i=>pw (2*l.length) (W l) j i i)≤(2*l.length:Nat)*81920000000000000:=qL (fun i hi=>by
  have:=(GX l _ aa hi j i).2;have:=GY (show j+1≤13 by omega)
  omega)
 omega
def traces (l:List (List Int)) (k:Nat):List Int:=(ag2 k).map (dO l)

theorem zk (l:List (List Int)) (k:Nat):(traces l k).length=k:=by simp[traces]

theorem D4 {l:List (List Int)} (h10:l.length≤10) (k:Nat) (hk:k≤12):Ev (fun f=>kS.f f (qg l (2*l.length)) (k:Int)) (traces l k):=by
 have hN:2*l.length≤20:=by omega
 have U7:Sq (2*l.length) (ofFn (2*l.length) (W l)):=uP _ _;have main: ∀(d i:Nat),i+d=k→Ev (fun f=>kS.l0 f (ofFn (2*l.length) (W l)) (traces l i) (ofFn (2*l.length) (pw (2*l.length) (W l) i)) (k:Int) (i:Int)) (traces l k):=by
  intro d
  induction d with
  | zero=>
   intro i hi;have e:i=k:=by omega
   subst e;refine bX ?_;simp only[kS.l0]
   repeat (first|with_reducible exact bD _ |dsimp only |refine dx ?_ |refine dz ?_ |simp only[bne_self_eq_false,agC,agD,agB,agE]|rw[bN aa aa]|((with_reducible refine bK (congrArg some ?_));rfl))
  | succ d ih=>
   intro i hi;have h1:=ih (i+1) aa;have hP:Sq (2*l.length) (ofFn (2*l.length) (pw (2*l.length) (W l) i)):=uP _ _;have ht:=trace (2*l.length) aa _ hP;have et:tr (2*l.length) (dF (ofFn (2*l.length) (pw (2*l.length) (W l) i)))=dO l i:=cR (fun j hj=>uM _ hj hj);have hr:=D2 l h10 (show i≤12 by omega);rw[et,bN aa aa]at ht;have hm:=DX (2*l.length) aa _ _ hP U7;have em:ofFn (2*l.length) (part (ofFn (2*l.length) (pw (2*l.length) (W l) i)) (ofFn (2*l.length) (W l)) (2*l.length))=ofFn (2*l.length) (pw (2*l.length) (W l) (i+1)):=by
    refine mT (fun p q hp hq=> ?_);unfold part;have e1:Sm (2*l.length) (fun m=>dF (ofFn (2*l.length) (pw (2*l.length) (W l) i)) p m*dF (ofFn (2*l.length) (W l)) m q)=pw (2*l.length) (W l) (i+1) p q:=cR (fun m hm=>by rw[uM _ hp hm,uM _ hm hq]);have hb:=GX l _ hN hp (i+1) q;have:=GY (show i+1+1≤13 by omega);rw[e1,bN aa aa]
   rw[em]at hm;have hl:=zk l i;rw[traces,tw]at h1;refine bX ?_;simp only[kS.l0];rw[eE aa]
   repeat (first|with_reducible exact bD _ |dsimp only |with_reducible refine bu (ht) ?_ |with_reducible refine bu (hm) ?_ |refine dx ?_ |refine dz ?_ |simp only[bne_self_eq_false,agC,agD,agB,agE]|rw[bN aa aa]|with_reducible exact(ht)|with_reducible exact(hm)|((with_reducible refine bK (congrArg some ?_));rfl))
   exact h1
 rw[Gp];unfold kS.f;exact main k 0 aa
theorem zq {n:Int} {l:List (List Int)} (h:fH n l=true) {p q:Nat} (hp:p<2*l.length) (hq:q<2*l.length):kT.f n l (p:Int) (q:Int)=some (next l p q):=by
 obtain⟨g1,g2,g3⟩:=gG h;unfold kT.f next;rw[Mv h hp,Mv h hq,ahy,ahy,half p aa,half q aa]
 by_cases c:hd l p=tl l q
 ·rw[ak c,aV c,aht]
  unfold inv
  by_cases c2:((p / 2:Nat):Int)=((q / 2:Nat):Int)
  ·rw[ak c2]
   by_cases c3:p=q
   ·rw[c3]
    simp
    split<;>omega
   ·rw[show((p:Int) == (q:Int))=false from beq_eq_false_iff_ne.2 aa]
    congr 1
    symm
    rw[decide_eq_false_iff_not,Decidable.not_not]
    split<;>omega
  ·rw[aj c2]
   congr 1
   symm
   rw[decide_eq_true_iff]
   split<;>omega
 ·rw[aj c,cj c,ahs]
section
variable {n:Int} {l:List (List Int)} (h:fH n l=true)

def oo (l:List (List Int)) (N:Nat) (v:Nat→Int) (r q:Nat):List Int:=rowOf N (fun j=>if j<q then Sm (r+1) (fun m=>v m*W l m j) else Sm r (fun m=>v m*W l m j))

theorem Uh (N:Nat) (v:Nat→Int) (r q:Nat):(oo l N v r q).length=N:=jB _ _

theorem Ui (N:Nat) (v:Nat→Int) (r:Nat):oo l N v r N=oo l N v (r+1) 0:=by
 refine lA (fun j hj=> ?_);rw[ak hj,aj aa]

theorem Uj (N:Nat) (v:Nat→Int) (r:Nat) (h0:v r=0):oo l N v r 0=oo l N v (r+1) 0:=by
 refine lA (fun j hj=> ?_);rw[aj aa,aj aa]
 show _=Sm r _+v r*W l r j
 rw[h0,agA,agN]

theorem Uk (N:Nat) (v:Nat→Int) (r q:Nat) (hq:q<N):rd (oo l N v r q) (q:Int)=Sm r (fun m=>v m*W l m q):=by
 unfold oo;rw[nK _ hq,aj aa]

theorem Ul (N:Nat) (v:Nat→Int) (r q:Nat) (hq:q<N):(oo l N v r q).set q (Sm (r+1) (fun m=>v m*W l m q))=oo l N v r (q+1):=by
 unfold oo;rw[uO _ _ hq];refine lA (fun j hj=> ?_)
 by_cases e:j=q
 ·subst e
  rw[ak rfl,ak aa]
 ·rw[aj e]
  by_cases c:j<q
  ·rw[ak c,ak aa]
  ·rw[aj c,aj aa]

theorem Um (N:Nat) (v:Nat→Int) (r q:Nat) (hc: ¬next l r q=true):oo l N v r q=oo l N v r (q+1):=by
 refine lA (fun j hj=> ?_)
 by_cases e:j=q
 ·subst e
  rw[aj aa,ak aa]
  show _=Sm r _+v r*W l r j
  unfold W;rw[aj hc,agL,agN]
 ·by_cases c:j<q
  ·rw[ak c,ak aa]
  ·rw[aj c,aj aa]

include h

theorem Un (k:Int) (M:List (List Int)) (p:Int) (v:Nat→Int) (B:Int) (hB:B≤100000000000000000) (hv: ∀r,r<2*l.length→0≤v r∧v r≤B) (x9:Int) (res:List (List Int)) (hr:Ev (fun f=>ez.l1 f k (2*(l.length:Int)) M p (oo l (2*l.length) v (2*l.length) 0) (wrap64 (x9+1)) n l) res):
  ∀(d r:Nat),r+d=2*l.length→Ev (fun f=>ez.l2 f k (2*(l.length:Int)) M p (rowOf (2*l.length) v) x9 (oo l (2*l.length) v r 0) (r:Int) n l) res:=by
 obtain⟨g1,g2,g3⟩:=gG h;have hlen:(rowOf (2*l.length) v).length=2*l.length:=jB _ _;intro d
 induction d with
 | zero=>
  intro r hr';have e:r=2*l.length:=by omega
  subst e;refine bX ?_;simp only[ez.l2]
  repeat (first|with_reducible exact bD _ |dsimp only |refine dx ?_ |refine dz ?_ |simp only[bne_self_eq_false,agC,agD,agB,agE]|rw[bN aa aa]|((with_reducible refine bK (congrArg some ?_));rfl))
  exact hr
 | succ d ih=>
  intro r hr';have h1:=ih (r+1) aa;have U9:=hv r aa;have U7:rd (rowOf (2*l.length) v) (r:Int)=v r:=nK _ aa;have U8: ∀j,0≤Sm r (fun m=>v m*W l m j)∧Sm r (fun m=>v m*W l m j)≤2000000000000000000:=fun j=>by
   refine⟨lu (fun m hm=>agS (hv m aa).1 (mU l m j).1), ?_⟩;have:Sm r (fun m=>v m*W l m j)≤r*100000000000000000:=qL (fun m hm=>by
    have h1:=hv m aa;have h2:=mU l m j;have:v m*W l m j≤v m*1:=agP h2.2 h1.1
    omega)
   omega
  have inner: ∀(d q:Nat),0<v r→q+d=2*l.length→Ev (fun f=>ez.l3 f k (2*(l.length:Int)) M p (rowOf (2*l.length) v) x9 (oo l (2*l.length) v r q) (r:Int) (q:Int) n l) res:=by
   intro d
   induction d with
   | zero=>
    intro q hpos hq;have e:q=2*l.length:=by omega
    subst e;refine bX ?_;simp only[ez.l3];refine cB aa ?_;refine bX ?_;simp only[ez.j4];rw[eE (i:=r) aa,Ui]
    repeat (first|with_reducible exact bD _ |dsimp only |refine dx ?_ |refine dz ?_ |simp only[bne_self_eq_false,agC,agD,agB,agE]|rw[bN aa aa]|((with_reducible refine bK (congrArg some ?_));rfl))
    exact h1
   | succ d ih2=>
    intro q hpos hq;have h2:=ih2 (q+1) hpos aa;have hn:=zq h (show r<2*l.length by omega) (show q<2*l.length by omega);have hvl:=Uh (l:=l) (2*l.length) v r q;refine bX ?_;simp only[ez.l3];rw[U7,aV (show v r>0 from hpos)]
    repeat (first|with_reducible exact bD _ |dsimp only |refine dx ?_ |refine dz ?_ |simp only[bne_self_eq_false,agC,agD,agB,agE]|rw[bN aa aa]|((with_reducible refine bK (congrArg some ?_));rfl))
    refine bX ?_;simp only[ez.j4];rw[U7,eE (i:=q) aa,Uk _ _ _ _ aa]
    by_cases c:next l r q=true
    ·have hs:=U8 q
     have e1:Sm (r+1) (fun m=>v m*W l m q)=Sm r (fun m=>v m*W l m q)+v r:=by
      show Sm r _+v r*W l r q=_
      unfold W;rw[ak c,ah0]
     rw[bN (x:=Sm r (fun m=>v m*W l m q)+v r) aa aa,← e1,agG,Ul _ _ _ _ aa];rw[c]at hn
     repeat (first|with_reducible exact bD _ |dsimp only |with_reducible refine bu (bK hn) ?_ |refine dx ?_ |refine dz ?_ |simp only[bne_self_eq_false,agC,agD,agB,agE]|rw[bN aa aa]|with_reducible exact(bK hn)|((with_reducible refine bK (congrArg some ?_));rfl))
     exact h2
    ·have hn':=hn
     rw[ahc]at c;rw[c]at hn';rw[← Um (l:=l) _ v r q (by rw[c];decide)]at h2
     repeat (first|with_reducible exact bD _ |dsimp only |with_reducible refine bu (bK hn') ?_ |refine dx ?_ |refine dz ?_ |simp only[bne_self_eq_false,agC,agD,agB,agE]|rw[bN aa aa]|with_reducible exact(bK hn')|((with_reducible refine bK (congrArg some ?_));rfl))
     exact h2
  refine bX ?_;simp only[ez.l2];refine bz aa ?_
  by_cases c:0<v r
  ·exact inner (2*l.length) 0 c aa
  ·rw[← Uj _ v r aa]at h1
   refine bX ?_;simp only[ez.l3];rw[U7,cj (show ¬v r>0 by omega)];refine bz aa ?_;refine bz aa ?_;refine bz aa ?_;refine bX ?_;simp only[ez.j4];rw[eE (i:=r) aa]
   repeat (first|with_reducible exact bD _ |dsimp only |refine dx ?_ |refine dz ?_ |simp only[bne_self_eq_false,agC,agD,agB,agE]|rw[bN aa aa]|((with_reducible refine bK (congrArg some ?_));rfl))
   exact h1

theorem Uo (k:Nat) (hk:1≤k∧k≤12):Ev (fun f=>ez.f f n l (k:Int)) (ofFn (2*l.length) (fun p=>vec l (2*l.length) p (k - 1))):=by
 obtain⟨g1,g2,g3⟩:=gG h;have steps: ∀(M:List (List Int)) (p:Nat) (res:List (List Int)),M.length≤20→p<2*l.length→Ev (fun f=>ez.l0 f (k:Int) (2*(l.length:Int)) (M++[rowOf (2*l.length) (vec l (2*l.length) p (k - 1))]) ((p+1:Nat):Int) n l) res→
   ∀(d j:Nat),j+1+d=k→Ev (fun f=>ez.l1 f (k:Int) (2*(l.length:Int)) M (p:Int) (rowOf (2*l.length) (vec l (2*l.length) p j)) ((j+1:Nat):Int) n l) res:=by
  intro M p res hM hp hres d
  induction d with
  | zero=>
   intro j hj;have e:j=k - 1:=by omega
   subst e;refine bX ?_;simp only[ez.l1];rw[eE (i:=p) aa]
   repeat (first|with_reducible exact bD _ |dsimp only |refine dx ?_ |refine dz ?_ |simp only[bne_self_eq_false,agC,agD,agB,agE]|rw[bN aa aa]|((with_reducible refine bK (congrArg some ?_));rfl))
   exact hres
  | succ d ih=>
   intro j hj;have h1:=ih (j+1) aa;have hb:=fun r (_:r<2*l.length)=>Bk l (2*l.length) p aa j r
   have hB:=GY (show j≤13 by omega);refine bX ?_;simp only[ez.l1];rw[show(2*(l.length:Int)).toNat=2*l.length by omega,← uN]
   repeat (first|with_reducible exact bD _ |dsimp only |refine dx ?_ |refine dz ?_ |simp only[bne_self_eq_false,agC,agD,agB,agE]|rw[bN aa aa]|((with_reducible refine bK (congrArg some ?_));rfl))
   refine Un h (k:Int) M (p:Int) (vec l (2*l.length) p j) (20 ^ j) aa hb _ _ ?_ (2*l.length) 0 aa;rw[eE aa];have e:oo l (2*l.length) (vec l (2*l.length) p j) (2*l.length) 0=rowOf (2*l.length) (vec l (2*l.length) p (j+1)):=lA (fun q hq=>aj aa);rw[e];exact h1
 have main: ∀(d p:Nat),p+d=2*l.length→Ev (fun f=>ez.l0 f (k:Int) (2*(l.length:Int)) ((ag2 p).map (fun p=>rowOf (2*l.length) (vec l (2*l.length) p (k - 1)))) (p:Int) n l) (ofFn (2*l.length) (fun p=>vec l (2*l.length) p (k - 1))):=by
  intro d
  induction d with
  | zero=>
   intro p hp;have e:p=2*l.length:=by omega
   subst e;refine bX ?_;simp only[ez.l0];refine cB aa ?_;exact bD _
  | succ d ih=>
   intro p hp;have h1:=ih (p+1) aa;rw[tw]at h1;have h2:=steps _ p _ (by simp;omega) aa h1 (k - 1) 0 aa;refine bX ?_;simp only[ez.l0];rw[show(2*(l.length:Int)).toNat=2*l.length by omega,← uN,agG];have hl:(rowOf (2*l.length) (fun _=>0)).length=2*l.length:=jB _ _
   repeat (first|with_reducible exact bD _ |dsimp only |with_reducible refine bu (bD _) ?_ |refine dx ?_ |refine dz ?_ |simp only[bne_self_eq_false,agC,agD,agB,agE]|rw[bN aa aa]|with_reducible exact(bD _)|((with_reducible refine bK (congrArg some ?_));rfl))
   rw[uO _ _ aa];have e:rowOf (2*l.length) (fun j=>if j=p then 1 else 0)=rowOf (2*l.length) (vec l (2*l.length) p 0):=rfl;rw[e];exact h2
 unfold ez.f;rw[bN (x:=2*(l.length:Int)) aa aa];exact main (2*l.length) 0 aa

end
section
variable {n:Int} {l:List (List Int)} (h:fH n l=true)
include h

theorem D5 (k:Nat) (hk:1≤k∧k≤12):Ev (fun f=>ig.f f n l (k:Int)) (dO l (k - 1)):=by
 obtain⟨g1,g2,g3⟩:=gG h;obtain⟨N,hN⟩: ∃N,N=2*l.length:=⟨_,rfl⟩;obtain⟨R,hR⟩: ∃R,R=ofFn N (fun p=>vec l N p (k - 1)):=⟨_,rfl⟩;have U9:R.length=N:=by rw[hR,pZ]
 have tE: ∀p,p<N→(aH R (p:Int)).length=N:=fun p hp=>by rw[hR,sC _ hp,jB]
 have U8: ∀p q,p<N→q<N→rd (aH R (p:Int)) (q:Int)=vec l N p (k - 1) q:=fun p q hp hq=>by rw[hR,sC _ hp,nK _ hq]
 have ek:k - 1+1=k:=by omega
 have hT:dO l (k - 1)=Sm N (fun p=>vec l N p k p):=by
  unfold dO tr;rw[← hN];refine cR (fun p hp=> ?_);rw[← Eb l N hp,ek]
 have U7: ∀p q,vec l N p k q=Sm N (fun r=>vec l N p (k - 1) r*W l r q):=fun p q=>by
  conv=>lhs;rw[← ek]
  rfl
 have b1: ∀p q,0≤vec l N p (k - 1) q∧vec l N p (k - 1) q≤20480000000000000:=fun p q=>by
  have h1:=Bk l N p aa (k - 1) q;have: ∀i:Fin 12,(20:Int) ^ i.val≤20480000000000000:=by decide
  have h2:=this ⟨k - 1,by omega⟩;simp only at h2
  omega
 have b2: ∀p q m,m≤N→0≤Sm m (fun r=>vec l N p (k - 1) r*W l r q)∧Sm m (fun r=>vec l N p (k - 1) r*W l r q)≤409600000000000000:=fun p q m hm=>by
  refine⟨lu (fun r _=>agS (b1 p r).1 (mU l r q).1), ?_⟩;have:Sm m (fun r=>vec l N p (k - 1) r*W l r q)≤m*20480000000000000:=qL (fun r _=>by
   have h1:=b1 p r;have h2:=mU l r q;have:vec l N p (k - 1) r*W l r q≤vec l N p (k - 1) r*1:=agP h2.2 h1.1
   omega)
  omega
 have b3: ∀m,m≤N→0≤Sm m (fun p=>vec l N p k p)∧Sm m (fun p=>vec l N p k p)≤8192000000000000000:=fun m hm=>by
  refine⟨lu (fun p _=>by rw[U7];exact(b2 p p N (agO _)).1), ?_⟩;have:Sm m (fun p=>vec l N p k p)≤m*409600000000000000:=qL (fun p _=>by rw[U7];exact(b2 p p N (agO _)).2)
  omega
 have inner: ∀(p:Nat) (hp:p<N) (res:Int),Ev (fun f=>ig.l0 f R (Sm (p+1) (fun p=>vec l N p k p)) ((p+1:Nat):Int) n l) res→
   ∀(d q:Nat),q+d=N→Ev (fun f=>ig.l1 f R (Sm p (fun p=>vec l N p k p)+Sm q (fun r=>vec l N p (k - 1) r*W l r p)) (p:Int) (q:Int) n l) res:=by
  intro p hp res hres d
  induction d with
  | zero=>
   intro q hq;have e:q=N:=by omega
   subst e;refine bX ?_;simp only[ig.l1];rw[eE (i:=p) aa,← U7];refine cB aa ?_;exact hres
  | succ d ih=>
   intro q hq;have h1:=ih (q+1) aa;rw[show Sm (q+1) (fun r=>vec l N p (k - 1) r*W l r p)=Sm q (fun r=>vec l N p (k - 1) r*W l r p)+vec l N p (k - 1) q*W l q p from rfl]at h1;have hn:=zq h (show q<2*l.length by omega) (show p<2*l.length by omega);have c1:=b1 p q;have c2:=b2 p p q aa;have c3:=b3 p aa;have hl:=tE p hp;refine bX ?_;simp only[ig.l1];rw[U8 p q hp aa,eE (i:=q) aa]
   by_cases c:vec l N p (k - 1) q>0
   ·by_cases cn:next l q p=true
    ·rw[show W l q p=1 from ak cn,ah0,← Int.add_assoc]at h1
     rw[cn]at hn;have c4:=b3 (p+1) aa;have c5:=b2 p p (q+1) aa;rw[show Sm (q+1) (fun r=>vec l N p (k - 1) r*W l r p)=Sm q (fun r=>vec l N p (k - 1) r*W l r p)+vec l N p (k - 1) q*W l q p from rfl,show W l q p=1 from ak cn,ah0]at c5;rw[bN (x:=Sm p (fun p=>vec l N p k p)+Sm q (fun r=>vec l N p (k - 1) r*W l r p)+vec l N p (k - 1) q) aa aa]
     repeat (first|with_reducible exact bD _ |dsimp only |with_reducible refine bu (bK hn) ?_ |refine dx ?_ |refine dz ?_ |simp only[bne_self_eq_false,agC,agD,agB,agE]|rw[bN aa aa]|with_reducible exact(bK hn)|((with_reducible refine bK (congrArg some ?_));rfl))
     exact h1
    ·rw[show W l q p=0 from aj cn,agL,agN]at h1
     rw[ahc]at cn;rw[cn]at hn
     repeat (first|with_reducible exact bD _ |dsimp only |with_reducible refine bu (bK hn) ?_ |refine dx ?_ |refine dz ?_ |simp only[bne_self_eq_false,agC,agD,agB,agE]|rw[bN aa aa]|with_reducible exact(bK hn)|((with_reducible refine bK (congrArg some ?_));rfl))
     exact h1
   ·rw[show vec l N p (k - 1) q=0 by omega,agA,agN]at h1
    repeat (first|with_reducible exact bD _ |dsimp only |refine dx ?_ |refine dz ?_ |simp only[bne_self_eq_false,agC,agD,agB,agE]|rw[bN aa aa]|((with_reducible refine bK (congrArg some ?_));rfl))
    exact h1
 have outer: ∀(d p:Nat),p+d=N→Ev (fun f=>ig.l0 f R (Sm p (fun p=>vec l N p k p)) (p:Int) n l) (dO l (k - 1)):=by
  intro d
  induction d with
  | zero=>
   intro p hp;have e:p=N:=by omega
   refine bX ?_;simp only[ig.l0];rw[hT,e];refine cB aa ?_;exact bD _
  | succ d ih=>
   intro p hp;have h1:=inner p aa _ (ih (p+1) aa) N 0 aa;rw[show Sm 0 (fun r=>vec l N p (k - 1) r*W l r p)=0 from rfl,agN]at h1;refine bX ?_;simp only[ig.l0];refine bz aa ?_;exact h1
 unfold ig.f;refine bu (Uo h k hk) ?_;rw[← hN,← hR];exact outer N 0 aa

end

def gL (n:Int) (l:List (List Int)) (a lo:Int):Int:=if fH n l=true then (if lo≤a∧a≤12 then 0 else 2) else 1

theorem xh (n:Int) (l:List (List Int)) (a lo:Int) (hl:Mod l):Ev (fun k=>kU.f k n l a lo) (gL n l a lo):=by
 have h1:=D7 n l hl;have hc:=oT a lo 12;unfold kU.f gL
 by_cases hg:fH n l=true
 ·rw[hg]at h1
  rw[ak hg]
  by_cases c:lo≤a∧a≤12
  ·rw[aV c]at hc
   rw[ak c]
   repeat (first|with_reducible exact bD _ |dsimp only |with_reducible refine bu (h1) ?_ |with_reducible refine bu (bK hc) ?_ |refine dx ?_ |refine dz ?_ |simp only[bne_self_eq_false,agC,agD,agB,agE]|rw[bN aa aa]|with_reducible exact(h1)|with_reducible exact(bK hc)|((with_reducible refine bK (congrArg some ?_));rfl))
  ·rw[cj c]at hc
   rw[aj c]
   repeat (first|with_reducible exact bD _ |dsimp only |with_reducible refine bu (h1) ?_ |with_reducible refine bu (bK hc) ?_ |refine dx ?_ |refine dz ?_ |simp only[bne_self_eq_false,agC,agD,agB,agE]|rw[bN aa aa]|with_reducible exact(h1)|with_reducible exact(bK hc)|((with_reducible refine bK (congrArg some ?_));rfl))
 ·rw[ahc]at hg
  rw[hg]at h1;rw[aj (by rw[hg];decide)]
  repeat (first|with_reducible exact bD _ |dsimp only |with_reducible refine bu (h1) ?_ |refine dx ?_ |refine dz ?_ |simp only[bne_self_eq_false,agC,agD,agB,agE]|rw[bN aa aa]|with_reducible exact(h1)|((with_reducible refine bK (congrArg some ?_));rfl))

theorem tB {n:Int} {l:List (List Int)} {a lo:Int} (h:gL n l a lo=0):fH n l=true∧lo≤a∧a≤12:=by
 unfold gL at h
 by_cases hg:fH n l=true
 ·rw[ak hg]at h
  by_cases c:lo≤a∧a≤12
  ·exact⟨hg,c⟩
  ·rw[aj c]at h
   cases h
 ·rw[aj hg]at h
  cases h

theorem Gz (a:Int):rC.f a=some (decide (1≤a∧a≤12)):=by
 unfold rC.f;rw[mY]
 rfl
theorem Ur (x:Int): ∃q:Int,wrap64 x=x+18446744073709551616*q:=⟨-((x+9223372036854775808) / 18446744073709551616),by unfold wrap64;omega⟩

theorem Us (x q:Int):wrap64 (x+18446744073709551616*q)=wrap64 x:=by unfold wrap64;omega

theorem wrap_wrap (x:Int):wrap64 (wrap64 x)=wrap64 x:=by unfold wrap64;omega

theorem Ll (x y:Int):wrap64 (x*wrap64 y)=wrap64 (x*y):=by
 obtain⟨q,hq⟩:=Ur y;rw[hq,ahF,Int.mul_left_comm,Us]

theorem Rj (a:Int):wrap64 (-wrap64 a)=wrap64 (-a):=by
 unfold wrap64
 omega

theorem Ut {a a' b b':Int} (h:wrap64 a=wrap64 a') (h':wrap64 b=wrap64 b'):wrap64 (a+b)=wrap64 (a'+b'):=by
 rw[← wW,h,h',wW]

theorem Lj {n:Nat} {f g:Nat→Int} (h: ∀i,i<n→wrap64 (f i)=wrap64 (g i)):wrap64 (Sm n f)=wrap64 (Sm n g):=by
 induction n with
 | zero=>rfl
 | succ n ih=>
  unfold Sm;exact Ut (ih (fun i hi=>h i aa)) (h n aa)

def mu:Nat→Int
 | 1=>1 | 2=> -1 | 3=> -1 | 4=>0 | 5=> -1 | 6=>1 | 7=> -1 | 8=>0 | 9=>0 | 10=>1 | 11=> -1 | _=>0

theorem Uu (n:Nat) (h:1≤n∧n≤12):Ev (fun k=>oq.f k (n:Int)) (mu n):=by
 refine⟨20,fun k hk=> ?_⟩;obtain⟨d,rfl⟩: ∃d,k=d+20:=⟨k - 20,by omega⟩
 show oq.f (d+20) (n:Int)=some (mu n)
 have:n=1∨n=2∨n=3∨n=4∨n=5∨n=6∨n=7∨n=8∨n=9∨n=10∨n=11∨n=12:=by omega
 rcases this with rfl|rfl|rfl|rfl|rfl|rfl|rfl|rfl|rfl|rfl|rfl|rfl<;>simp[oq.f,oq.l0,wrap64,mu]

theorem Uw (n:Nat) (h:1≤n∧n≤12):Ev (fun k=>ot.f k (n:Int)) (mu n):=by
 refine⟨20,fun k hk=> ?_⟩;obtain⟨d,rfl⟩: ∃d,k=d+20:=⟨k - 20,by omega⟩
 show ot.f (d+20) (n:Int)=some (mu n)
 have:n=1∨n=2∨n=3∨n=4∨n=5∨n=6∨n=7∨n=8∨n=9∨n=10∨n=11∨n=12:=by omega
 rcases this with rfl|rfl|rfl|rfl|rfl|rfl|rfl|rfl|rfl|rfl|rfl|rfl<;>simp[ot.f,ot.l0,wrap64,mu]

def p6 (l:List (List Int)) (m j:Nat):Int:=Sm j (fun t=>if m % (t+1)=0 then mu (m / (t+1))*dO l t else 0)

def qa (l:List (List Int)) (m:Nat):Int:=wrap64 (Int.tdiv (wrap64 (p6 l m m)) m)

theorem MG (m d:Nat) (hd:0<d) (hm:m≤1000):wrap64 (Int.tdiv (m:Int) (d:Int))=((m / d:Nat):Int):=by
 rw[ahp aa,← Int.natCast_ediv];have:=Nat.div_le_self m d;generalize m / d=q at*;exact bN aa aa

theorem GR (m d:Nat):Int.tmod (m:Int) (d:Int)=((m % d:Nat):Int):=by
 rw[ahq aa]
 rfl

theorem MH (l:List (List Int)) (m j:Nat) (h:m % (j+1)=0):wrap64 (wrap64 (p6 l m j)+wrap64 (mu (m / (j+1))*dO l j))=wrap64 (p6 l m (j+1)):=by
 rw[wW]
 show _=wrap64 (p6 l m j+if m % (j+1)=0 then _ else 0)
 rw[ak h]

theorem MI (l:List (List Int)) (m j:Nat) (h: ¬m % (j+1)=0):p6 l m (j+1)=p6 l m j:=by
 show p6 l m j+(if m % (j+1)=0 then _ else 0)=_
 rw[aj h,agN]

theorem MJ (m j:Nat) (hm:1≤m∧m≤12) (hj:j<m):1≤m / (j+1)∧m / (j+1)≤12:=by
 refine⟨(Nat.le_div_iff_mul_le aa).2 aa,ahO (Nat.div_le_self _ _) hm.2⟩

section
variable {n:Int} {l:List (List Int)} (h:fH n l=true)
include h

theorem LN (m:Nat) (hm:1≤m∧m≤12):Ev (fun f=>jr.f f n l (m:Int)) (qa l m):=by
 have main: ∀(d j:Nat),j+d=m→Ev (fun f=>jr.l0 f (m:Int) (wrap64 (p6 l m j)) ((j+1:Nat):Int) n l) (qa l m):=by
  intro d
  induction d with
  | zero=>
   intro j hj;obtain rfl:j=m:=by omega
   refine bX ?_;simp only[jr.l0];exact cB aa (cB aa (bD _))
  | succ d ih=>
   intro j hj;have h1:=ih (j+1) aa;have hq:=MJ m j hm aa;refine bX ?_;simp only[jr.l0];rw[MG m (j+1) aa aa,GR,eE (i:=j+1) aa];refine bz aa (cB aa ?_)
   by_cases c:m % (j+1)=0
   ·have hc:=D5 h (j+1) ⟨by omega,by omega⟩
    rw[agK]at hc;rw[← MH l m j c]at h1;exact bz aa (bu (Uu _ hq) (bu hc h1))
   ·rw[MI l m j c]at h1
    exact cB aa h1
 have h0:=main m 0 aa;rw[show wrap64 (p6 l m 0)=0 from bN (x:=0) aG aG]at h0;unfold jr.f;exact h0

end

theorem SE (l:List (List Int)) (k:Nat) (hk:k≤12):Ev (fun f=>js.f f (traces l k)) ((ag2 k).map (fun i=>qa l (i+1))):=by
 have hl:=zk l k;have outer: ∀(d i:Nat),i+d=k→Ev (fun f=>js.l0 f (traces l k) ((ag2 i).map (fun i=>qa l (i+1))) (k:Int) (i:Int)) ((ag2 k).map (fun i=>qa l (i+1))):=by
  intro d
  induction d with
  | zero=>
   intro i hi;obtain rfl:i=k:=by omega
   refine bX ?_;simp only[js.l0];exact cB aa (bD _)
  | succ d ih=>
   intro i hi;have h1:=ih (i+1) aa;rw[tw]at h1;have inner: ∀(e j:Nat),j+e=i+1→Ev (fun f=>js.l1 f (traces l k) ((ag2 i).map (fun i=>qa l (i+1))) ((i+1:Nat):Int) (wrap64 (p6 l (i+1) j)) ((j+1:Nat):Int) (k:Int) (i:Int)) ((ag2 k).map (fun i=>qa l (i+1))):=by
    intro e
    induction e with
    | zero=>
     intro j hj;obtain rfl:j=i+1:=by omega
     refine bX ?_;simp only[js.l1];rw[eE (i:=i) aa];refine cB aa (cB aa (bz (by simp;omega) ?_));exact h1
    | succ e ih2=>
     intro j hj;have h2:=ih2 (j+1) aa;have hq:=MJ (i+1) j ⟨by omega,by omega⟩ aa;refine bX ?_;simp only[js.l1];rw[MG (i+1) (j+1) aa aa,GR,eE (i:=j+1) aa];refine bz aa (cB aa ?_)
     by_cases c:(i+1) % (j+1)=0
     ·have e1:rd (traces l k) (j:Int)=dO l j:=zj _ aa
      rw[← MH l (i+1) j c]at h2;refine bz aa (bu (Uw _ hq) ?_);rw[bN (x:=((j+1:Nat):Int) - 1) aa aa,show((j+1:Nat):Int) - 1=(j:Int) by omega,e1];exact bz aa (bz aa h2)
     ·rw[MI l (i+1) j c]at h2
      exact cB aa h2
   have h0:=inner (i+1) 0 aa;rw[show wrap64 (p6 l (i+1) 0)=0 from bN (x:=0) aG aG]at h0;refine bX ?_;simp only[js.l0];rw[eE (i:=i) aa];exact bz aa h0
 unfold js.f;rw[hl];exact outer k 0 aa
def qP (l:List (List Int)) (w:List Int):Bool:=w.all (fun x=>decide (0≤x∧x≤2*(l.length:Int) - 1))

def steps (l:List (List Int)) (w:List Int):Nat→Nat→Bool
 | 0,_=>true
 | d+1,i=>next l (rd w ((i - 1:Nat):Int)).toNat (rd w (i:Int)).toNat && steps l w d (i+1)

def oU (l:List (List Int)) (w:List Int):Bool:=decide (1≤(w.length:Int)∧(w.length:Int)≤12) && (qP l w && steps l w (w.length - 1) 1)

theorem zu {l:List (List Int)} {w:List Int} (h:qP l w=true) {i:Nat} (hi:i<w.length):rd w (i:Int)=(((rd w (i:Int)).toNat:Nat):Int)∧(rd w (i:Int)).toNat<2*l.length:=by
 unfold qP at h;rw[List.all_eq_true]at h;have:=of_decide_eq_true (h _ (GJ hi))
 omega

section
variable {n:Int} {l:List (List Int)} (h:fH n l=true) {w:List Int}
include h

theorem Ux (hd:qP l w=true) (hw:w.length≤1048576): ∀(d i:Nat),i+d=w.length→1≤i→Ev (fun k=>gZ.l0 k w (i:Int) n l) (steps l w d i):=by
 intro d
 induction d with
 | zero=>
  intro i hi h1;refine bX ?_;simp only[gZ.l0];unfold steps
  repeat (first|with_reducible exact bD _ |dsimp only |refine dx ?_ |refine dz ?_ |simp only[bne_self_eq_false,agC,agD,agB,agE]|rw[bN aa aa]|((with_reducible refine bK (congrArg some ?_));rfl))
 | succ d ih=>
  intro i hi h1;obtain⟨e1,r1⟩:=zu hd (show i - 1<w.length by omega);obtain⟨e2,r2⟩:=zu hd (show i<w.length by omega);have:=ih (i+1) aa aa;have hn:=My h r1 r2;rw[← e1,← e2]at hn;refine bX ?_;simp only[gZ.l0];unfold steps;rw[eE aa,bN (x:=(i:Int) - 1) aa aa,show(i:Int) - 1=((i - 1:Nat):Int) by omega];cases c:next l (rd w ((i - 1:Nat):Int)).toNat (rd w (i:Int)).toNat with
  | true=>
   rw[c]at hn;rw[aht]
   repeat (first|with_reducible exact bD _ |dsimp only |with_reducible refine bu (bK hn) ?_ |refine dx ?_ |refine dz ?_ |simp only[bne_self_eq_false,agC,agD,agB,agE]|rw[bN aa aa]|with_reducible exact(bK hn)|((with_reducible refine bK (congrArg some ?_));rfl))
   exact this
  | false=>
   rw[c]at hn;rw[ahs]
   repeat (first|with_reducible exact bD _ |dsimp only |with_reducible refine bu (bK hn) ?_ |refine dx ?_ |refine dz ?_ |simp only[bne_self_eq_false,agC,agD,agB,agE]|rw[bN aa aa]|with_reducible exact(bK hn)|((with_reducible refine bK (congrArg some ?_));rfl))

theorem Uy (hw:w.length≤1048576): ∀(d i:Nat),i+d=w.length→
  ∃r:Int,Ev (fun k=>ou.l0 k w (w.length:Int) (i:Int) n l) r∧(decide (r≥0))= !(w.drop i).all (fun x=>decide (0≤x∧x≤2*(l.length:Int) - 1)):=by
 obtain⟨g1,g2,g3⟩:=gG h;intro d
 induction d with
 | zero=>
  intro i hi;refine⟨-1, ?_, ?_⟩
  ·refine bX ?_;simp only[ou.l0]
   repeat (first|with_reducible exact bD _ |dsimp only |refine dx ?_ |refine dz ?_ |simp only[bne_self_eq_false,agC,agD,agB,agE]|rw[bN aa aa]|((with_reducible refine bK (congrArg some ?_));rfl))
  ·rw[ahe aa]
   rfl
 | succ d ih=>
  intro i hi;have hc:uX.f w[i] n l=some (!decide (0≤w[i]∧w[i]≤2*(l.length:Int) - 1)):=by
   unfold uX.f kF.f;rw[ahy,bN (x:=2*(l.length:Int)) aa aa,bN (x:=2*(l.length:Int) - 1) aa aa,mY]
   rfl
  by_cases c:0≤w[i]∧w[i]≤2*(l.length:Int) - 1
  ·rw[aV c]at hc
   obtain⟨r,h1,h2⟩:=ih (i+1) aa;refine⟨r, ?_, ?_⟩
   ·refine bX ?_;simp only[ou.l0]
    rw[eE aa,gz aa]
    repeat (first|with_reducible exact bD _ |dsimp only |with_reducible refine bu (bK hc) ?_ |refine dx ?_ |refine dz ?_ |simp only[bne_self_eq_false,agC,agD,agB,agE]|rw[bN aa aa]|with_reducible exact(bK hc)|((with_reducible refine bK (congrArg some ?_));rfl))
    exact h1
   ·rw[ahd (by omega:i<w.length),ahX,aV c,aht]
    exact h2
  ·rw[cj c]at hc
   refine⟨(i:Int), ?_, ?_⟩
   ·refine bX ?_;simp only[ou.l0]
    rw[eE aa,gz aa]
    repeat (first|with_reducible exact bD _ |dsimp only |with_reducible refine bu (bK hc) ?_ |refine dx ?_ |refine dz ?_ |simp only[bne_self_eq_false,agC,agD,agB,agE]|rw[bN aa aa]|with_reducible exact(bK hc)|((with_reducible refine bK (congrArg some ?_));rfl))
   ·rw[ahd (by omega:i<w.length),ahX,cj c,ahs]
    simp

theorem Uz (hw:w.length≤1048576):Ev (fun k=>xK.f k n l w) (qP l w):=by
 obtain⟨r,h1,h2⟩:=Uy h hw w.length 0 aa;have h1':Ev (fun k=>ou.f k w n l) r:=h1;unfold xK.f zw.f;rw[ah1]at h2;have:qP l w= !decide (r≥0):=by rw[h2,Bool.not_not];rfl
 rw[this];exact bu (bu h1' (bD _)) (bD _)

theorem UA (hw:w.length≤1048576):Ev (fun k=>gZ.f k n l w) (oU l w):=by
 unfold gZ.f oU;rw[mY]
 by_cases c1:1≤(w.length:Int)∧(w.length:Int)≤12
 ·rw[aV c1,aht]
  have hq:=Uz h hw;cases hd:qP l w with
  | true=>
   rw[hd]at hq;rw[aht]
   repeat (first|with_reducible exact bD _ |dsimp only |with_reducible refine bu (bD _) ?_ |with_reducible refine bu (hq) ?_ |refine dx ?_ |refine dz ?_ |simp only[bne_self_eq_false,agC,agD,agB,agE]|rw[bN aa aa]|with_reducible exact(bD _)|with_reducible exact(hq)|((with_reducible refine bK (congrArg some ?_));rfl))
   refine bX ?_;simp only[gZ.j0]
   repeat (first|with_reducible exact bD _ |dsimp only |refine dx ?_ |refine dz ?_ |simp only[bne_self_eq_false,agC,agD,agB,agE]|rw[bN aa aa]|((with_reducible refine bK (congrArg some ?_));rfl))
   exact Ux h hd hw (w.length - 1) 1 aa aa
  | false=>
   rw[hd]at hq;rw[ahs]
   repeat (first|with_reducible exact bD _ |dsimp only |with_reducible refine bu (bD _) ?_ |with_reducible refine bu (hq) ?_ |refine dx ?_ |refine dz ?_ |simp only[bne_self_eq_false,agC,agD,agB,agE]|rw[bN aa aa]|with_reducible exact(bD _)|with_reducible exact(hq)|((with_reducible refine bK (congrArg some ?_));rfl))
   refine bX ?_;simp only[gZ.j0]
   repeat (first|with_reducible exact bD _ |dsimp only |refine dx ?_ |refine dz ?_ |simp only[bne_self_eq_false,agC,agD,agB,agE]|rw[bN aa aa]|((with_reducible refine bK (congrArg some ?_));rfl))
 ·rw[cj c1,ahs]
  repeat (first|with_reducible exact bD _ |dsimp only |with_reducible refine bu (bD _) ?_ |refine dx ?_ |refine dz ?_ |simp only[bne_self_eq_false,agC,agD,agB,agE]|rw[bN aa aa]|with_reducible exact(bD _)|((with_reducible refine bK (congrArg some ?_));rfl))
  refine bX ?_;simp only[gZ.j0]
  repeat (first|with_reducible exact bD _ |dsimp only |refine dx ?_ |refine dz ?_ |simp only[bne_self_eq_false,agC,agD,agB,agE]|rw[bN aa aa]|((with_reducible refine bK (congrArg some ?_));rfl))

end

def code (n:Int) (l:List (List Int)) (w:List Int):Int:=if fH n l=true then (if oU l w=true then 0 else 2) else 1

theorem TH (n:Int) (l:List (List Int)) (w:List Int) (hl:Mod l) (hw:w.length≤1048576):Ev (fun k=>uY.f k n l w) (code n l w):=by
 have h1:=zh n l hl;unfold uY.f zx.f xL.f code
 by_cases hg:fH n l=true
 ·have w1:=UA hg hw
  rw[hg]at h1;rw[ak hg]
  by_cases hk:oU l w=true
  ·rw[hk]at w1
   rw[ak hk];exact bu (bu h1 (bz rfl (bu (bu w1 (bD _)) (bz rfl (bD _))))) (bD _)
  ·rw[ahc]at hk
   rw[hk]at w1;rw[aj (by rw[hk];decide)];exact bu (bu h1 (bz rfl (bu (bu w1 (bD _)) (cB aG (bD _))))) (bD _)
 ·rw[ahc]at hg
  rw[hg]at h1;rw[aj (by rw[hg];decide)];exact bu (bu h1 (cB aG (bD _))) (bD _)

theorem xM {l:List (List Int)} {w:List Int} (h:oU l w=true):1≤w.length∧w.length≤12∧qP l w=true∧steps l w (w.length - 1) 1=true:=by
 unfold oU at h;rw[ahx,ahx,decide_eq_true_iff]at h;obtain⟨h1,h2,h3⟩:=h;exact⟨by omega,by omega,h2,h3⟩

def tF (l:List (List Int)) (w:List Int):Nat→Nat→Bool
 | 0,_=>true
 | d+1,i=>next l (rd w (i:Int)).toNat (rd w (((i+1) % w.length:Nat):Int)).toNat && tF l w d (i+1)

theorem UB (i n:Nat) (h:i<1048576):Int.tmod (wrap64 ((i:Int)+1)) (n:Int)=(((i+1) % n:Nat):Int):=by
 rw[eE aa,ahq aa]
 rfl

section
variable {n:Int} {l:List (List Int)} (h:fH n l=true) {w:List Int}
include h

theorem UC (hd:qP l w=true) (hw:w.length≤1048576): ∀(d i:Nat),i+d=w.length→Ev (fun k=>m9.l0 k w w (w.length:Int) (i:Int) n l) (tF l w d i && decide ((w.length:Int)>0)):=by
 obtain⟨g1,g2,g3⟩:=gG h;intro d
 induction d with
 | zero=>
  intro i hi;refine bX ?_;simp only[m9.l0];unfold tF;rw[aht]
  repeat (first|with_reducible exact bD _ |dsimp only |refine dx ?_ |refine dz ?_ |simp only[bne_self_eq_false,agC,agD,agB,agE]|rw[bN aa aa]|((with_reducible refine bK (congrArg some ?_));rfl))
 | succ d ih=>
  intro i hi;have hm:(i+1) % w.length<w.length:=ahB _ aa;obtain⟨e1,r1⟩:=zu hd (show i<w.length by omega);obtain⟨e2,r2⟩:=zu hd hm;have:=ih (i+1) aa;have ha:=xJ h r1;have hb:=xJ h r2;have hx:=GU (rd w (i:Int)).toNat aa;rw[← e1]at ha hx;rw[← e2]at hb;refine bX ?_;simp only[m9.l0];unfold tF next;rw[UB i w.length aa,eE aa,hx]
  by_cases c1:Pure.hd l (rd w (i:Int)).toNat=tl l (rd w (((i+1) % w.length:Nat):Int)).toNat
  ·rw[aV c1,aht]
   by_cases c2:(rd w (((i+1) % w.length:Nat):Int)).toNat=inv (rd w (i:Int)).toNat
   ·rw[cj (show ¬((rd w (((i+1) % w.length:Nat):Int)).toNat≠inv (rd w (i:Int)).toNat) from fun e=>e c2),ahs,ahs]
    have U7:rd w (((i+1) % w.length:Nat):Int)=((inv (rd w (i:Int)).toNat:Nat):Int):=by omega
    repeat (first|with_reducible exact bD _ |dsimp only |with_reducible refine bu (bK ha) ?_ |with_reducible refine bu (bK hb) ?_ |refine dx ?_ |refine dz ?_ |simp only[bne_self_eq_false,agC,agD,agB,agE]|rw[bN aa aa]|with_reducible exact(bK ha)|with_reducible exact(bK hb)|((with_reducible refine bK (congrArg some ?_));rfl))
   ·rw[aV (show(rd w (((i+1) % w.length:Nat):Int)).toNat≠inv (rd w (i:Int)).toNat from c2),aht]
    have U7: ¬rd w (((i+1) % w.length:Nat):Int)=((inv (rd w (i:Int)).toNat:Nat):Int):=by omega
    repeat (first|with_reducible exact bD _ |dsimp only |with_reducible refine bu (bK ha) ?_ |with_reducible refine bu (bK hb) ?_ |refine dx ?_ |refine dz ?_ |simp only[bne_self_eq_false,agC,agD,agB,agE]|rw[bN aa aa]|with_reducible exact(bK ha)|with_reducible exact(bK hb)|((with_reducible refine bK (congrArg some ?_));rfl))
    exact this
  ·rw[cj c1,ahs,ahs,ahs]
   repeat (first|with_reducible exact bD _ |dsimp only |with_reducible refine bu (bK ha) ?_ |with_reducible refine bu (bK hb) ?_ |refine dx ?_ |refine dz ?_ |simp only[bne_self_eq_false,agC,agD,agB,agE]|rw[bN aa aa]|with_reducible exact(bK ha)|with_reducible exact(bK hb)|((with_reducible refine bK (congrArg some ?_));rfl))

theorem UD (hd:qP l w=true) (hw:w.length≤1048576):Ev (fun k=>m9.f k n l w) (tF l w w.length 0 && decide ((w.length:Int)>0)):=by
 unfold m9.f;exact UC h hd hw w.length 0 aa

end
theorem UE (l:List (List Int)) (w:List Int): ∀(d i:Nat),i+1+d=w.length→steps l w d (i+1)=true→tF l w (d+1) i=next l (rd w ((w.length - 1:Nat):Int)).toNat (rd w 0).toNat:=by
 intro d
 induction d with
 | zero=>
  intro i hi hs;unfold tF tF;rw[ahY,show(i+1) % w.length=0 by rw[show i+1=w.length by omega,ag8],show i=w.length - 1 by omega]
  rfl
 | succ d ih=>
  intro i hi hs;unfold steps at hs;rw[ahx]at hs;unfold tF;rw[ag9 aa,ih (i+1) aa hs.2];have:=hs.1;rw[show i+1 - 1=i by omega]at this;rw[this,aht]
def turn (w:List Int) (k:Nat):List Int:=w.drop k++w.take k

theorem lS (w:List Int) (k:Nat):(turn w k).length=w.length:=by
 unfold turn;rw[ahu,ahP,ahG]
 omega

def bf:List Int→List Int→Bool
 | x :: xs,y :: ys=>if x=y then bf xs ys else decide (x<y)
 | _,_=>false

theorem Ec (a:List Int):bf a a=false:=by
 induction a with
 | nil=>rfl
 | cons x xs ih=>unfold bf;rw[ak rfl,ih]

theorem GZ: ∀(a b:List Int),a.length=b.length→(bf a b || bf b a)=decide (a≠b):=by
 intro a
 induction a with
 | nil=>
  intro b hb
  match b,hb with
  | [],_=>rfl
  | y :: ys,hb=>simp at hb
 | cons x xs ih=>
  intro b hb
  match b,hb with
  | [],hb=>simp at hb
  | y :: ys,hb=>
   unfold bf
   by_cases c:x=y
   ·subst c
    rw[ak rfl,ak rfl,ih ys (by simpa using hb)]
    by_cases c2:xs=ys
    ·rw[c2];simp
    ·rw[aV c2,aV (by intro e;exact c2 (aia e).2)]
   ·rw[aj c,aj (fun e=>c e.symm),aV (show x :: xs≠y :: ys from fun e=>c (aia e).1)]
    by_cases c2:x<y
    ·rw[aV c2,Bool.true_or]
    ·rw[cj c2,aV aa,ah2]

theorem MK (w:List Int) (k:Nat) (hk:k≤w.length) (hw:w.length≤1000):lC.f w (k:Int)=some (turn w k):=by
 unfold lC.f mo.f turn;rw[ak aa,ak aa,agG];have h1:(w.drop k).length≤1000:=by rw[ahP];omega
 have h2:(w.take k).length≤1000:=by rw[ahG];omega
 simp only[ahy,agE,ahN];rw[ak aa,ahy,ak aa]

theorem ML (w:List Int) (k:Nat) (hk:k≤w.length) (hw:w.length≤1000) (h0:0<w.length):oV.f w (k:Int)=some (turn w k):=by
 unfold oV.f turn;rw[ak aa,ak aa,ak h0,ak hw,agG]

theorem Ed (a b:List Int) (hab:a.length=b.length) (hl:a.length≤1000):Ev (fun k=>jS.f k a b) (bf a b):=by
 have: ∀(d i:Nat),i+d=a.length→Ev (fun k=>jS.l0 k a b (i:Int)) (bf (a.drop i) (b.drop i)):=by
  intro d
  induction d with
  | zero=>
   intro i hi;rw[ahe aa];refine bX ?_;simp only[jS.l0];exact cB aa (bD _)
  | succ d ih=>
   intro i hi;have h1:=ih (i+1) aa;rw[ahd (by omega:i<a.length),ahd (by omega:i<b.length)];refine bX ?_;simp only[jS.l0];unfold bf;rw[gz aa,gz aa,eE (i:=i) aa]
   by_cases c:a[i]=b[i]
   ·rw[ak c]
    exact bz aa (bz aa (bz aa (bz c h1)))
   ·rw[aj c]
    exact bz aa (bz aa (bz aa (cB c (bD _))))
 exact this a.length 0 aa

theorem MM (a b:List Int) (hl:a.length≤1048576):Ev (fun k=>lT.f k a b) (decide (a=b)):=by
 unfold lT.f
 by_cases h:a.length=b.length
 ·refine bz aa ?_
  have: ∀(d i:Nat),i+d=a.length→Ev (fun k=>lT.l0 k a b (a.length:Int) (i:Int)) (decide (a.drop i=b.drop i)):=by
   intro d
   induction d with
   | zero=>
    intro i hi;refine bX ?_;simp only[lT.l0];rw[ahe aa,ahe aa]
    repeat (first|with_reducible exact bD _ |dsimp only |refine dx ?_ |refine dz ?_ |simp only[bne_self_eq_false,agC,agD,agB,agE]|rw[bN aa aa]|((with_reducible refine bK (congrArg some ?_));rfl))
   | succ d ih=>
    intro i hi;refine bX ?_;simp only[lT.l0];rw[ahd (by omega:i<a.length),ahd (by omega:i<b.length),eE aa]
    by_cases e:rd a i=rd b i
    ·repeat (first|with_reducible exact bD _ |dsimp only |refine dx ?_ |refine dz ?_ |simp only[bne_self_eq_false,agC,agD,agB,agE]|rw[bN aa aa]|((with_reducible refine bK (congrArg some ?_));rfl))
     have:=ih (i+1) aa;rw[gz aa,gz aa]at e;rw[e,Mc];exact this
    ·rw[cj (fun h=>e (by rw[gz aa,gz aa];exact(aia h).1))]
     repeat (first|with_reducible exact bD _ |dsimp only |refine dx ?_ |refine dz ?_ |simp only[bne_self_eq_false,agC,agD,agB,agE]|rw[bN aa aa]|((with_reducible refine bK (congrArg some ?_));rfl))
  exact this a.length 0 aa
 ·rw[cj (fun e=>h (by rw[e]))]
  repeat (first|with_reducible exact bD _ |dsimp only |refine dx ?_ |refine dz ?_ |simp only[bne_self_eq_false,agC,agD,agB,agE]|rw[bN aa aa]|((with_reducible refine bK (congrArg some ?_));rfl))

theorem UF (a b:List Int) (hab:a.length=b.length) (hl:a.length≤1000): ∃z:Int,Ev (fun k=>nM.f k a b) z∧decide (z<0)=bf a b:=by
 have: ∀(d i:Nat),i+d=a.length→∃z:Int,Ev (fun k=>nM.l0 k a b a (a.length:Int) (i:Int)) z∧decide (z<0)=bf (a.drop i) (b.drop i):=by
  intro d
  induction d with
  | zero=>
   intro i hi;rw[ahe aa];refine⟨0, ?_,rfl⟩;refine bX ?_;simp only[nM.l0];exact cB aa (cB aa (bD _))
  | succ d ih=>
   intro i hi;obtain⟨z,h1,h2⟩:=ih (i+1) aa;rw[ahd (by omega:i<a.length),ahd (by omega:i<b.length)];have hc: ∀x y:Int,uZ.f x y=some (if x<y then -1 else if x>y then 1 else 0):=by
    intro x y;unfold uZ.f ni.f;simp only[bne_self_eq_false,ahy,if_false,Bool.false_eq_true]
    split
    ·rfl
    ·split<;>rfl
   unfold bf
   by_cases c:a[i]=b[i]
   ·refine⟨z, ?_,by rw[ak c];exact h2⟩
    refine bX ?_;simp only[nM.l0];rw[hc,gz aa,gz aa,eE (i:=i) aa,c,aj (Int.lt_irrefl _),aj (Int.lt_irrefl _)];exact bz aa (bz aa (bz aa (cB aa (bz aa (bu (bD _) (bz rfl h1))))))
   ·refine⟨if a[i]<b[i] then -1 else if a[i]>b[i] then 1 else 0, ?_, ?_⟩
    ·refine bX ?_;simp only[nM.l0]
     rw[hc,gz aa,gz aa];refine bz aa (bz aa (bz aa (cB aa (bz aa (bu (bD _) (cB ?_ (bD _)))))))
     split
     ·decide
     ·rw[ak aa]
      decide
    ·rw[aj c]
     by_cases c2:a[i]<b[i]
     ·rw[ak c2,aV c2];rfl
     ·rw[aj c2,ak aa,cj c2];rfl
 obtain⟨z,h1,h2⟩:=this a.length 0 aa;rw[ah1,ah1]at h2;exact⟨z,h1,h2⟩

def qh (w:List Int):Nat→Nat→Bool
 | 0,_=>true
 | d+1,k=>decide (turn w k≠w) && qh w d (k+1)

def least (w:List Int):Nat→Nat→List Int→List Int
 | 0,_,b=>b
 | d+1,k,b=>if bf (turn w k) b=true then least w d (k+1) (turn w k) else least w d (k+1) b

theorem UG (w:List Int) (hw:w.length≤1000): ∀(d k:Nat),k+d=w.length→Ev (fun f=>mB.l0 f w (k:Int)) (qh w d k):=by
 intro d
 induction d with
 | zero=>
  intro k hk;refine bX ?_;simp only[mB.l0];exact cB aa (bD _)
 | succ d ih=>
  intro k hk;have h1:=ih (k+1) aa;have ht:=MK w k aa hw;have hl:=lS w k;have b1:=Ed (turn w k) w hl aa;have b2:=Ed w (turn w k) hl.symm aa;have ho:=GZ (turn w k) w hl;unfold qh;rw[← ho];refine bX ?_;simp only[mB.l0];rw[eE (i:=k) aa];refine bz aa (bu (bK ht) ?_);cases c1:bf (turn w k) w with
  | true=>
   rw[c1]at b1;rw[Bool.true_or,aht];exact bu b1 (bz rfl h1)
  | false=>
   rw[c1]at b1;refine bu b1 (cB aG ?_);cases c2:bf w (turn w k) with
   | true=>
    rw[c2]at b2;rw[ah2,aht];exact bu b2 (bz rfl h1)
   | false=>
    rw[c2]at b2;rw[ah2,ahs];exact bu b2 (cB aG (bD _))

theorem UH (w:List Int) (hw:w.length≤1000): ∀(d k:Nat) (b:List Int),k+d=w.length→b.length=w.length→Ev (fun f=>nj.l0 f w b (k:Int)) (least w d k b):=by
 intro d
 induction d with
 | zero=>
  intro k b hk hb;refine bX ?_;simp only[nj.l0];exact cB aa (bD _)
 | succ d ih=>
  intro k b hk hb;have ht:=MK w k aa hw;have hl:=lS w k;have b1:=Ed (turn w k) b aa aa;unfold least;refine bX ?_;simp only[nj.l0];rw[eE (i:=k) aa];refine bz aa (bu (bK ht) ?_);cases c1:bf (turn w k) b with
  | true=>
   rw[c1]at b1;rw[ak rfl];exact bu b1 (bz rfl (ih (k+1) _ aa hl))
  | false=>
   rw[c1]at b1;rw[aj aG];exact bu b1 (cB aG (ih (k+1) b aa hb))

theorem UI (w:List Int) (hw:w.length≤1000) (h0:0<w.length): ∀(d k:Nat) (b:List Int),k+d=w.length→b.length=w.length→Ev (fun f=>nk.l0 f w b (w.length:Int) (k:Int)) (least w d k b):=by
 intro d
 induction d with
 | zero=>
  intro k b hk hb;refine bX ?_;simp only[nk.l0];exact cB aa (bD _)
 | succ d ih=>
  intro k b hk hb;have ht:=ML w k aa hw h0;have hl:=lS w k;obtain⟨z,z1,z2⟩:=UF (turn w k) b aa aa;unfold least;refine bX ?_;simp only[nk.l0];rw[eE (i:=k) aa];refine bz aa (bu (bK ht) (bu z1 ?_));cases c1:bf (turn w k) b with
  | true=>
   rw[c1]at z2;rw[ak rfl];exact bz (of_decide_eq_true z2) (ih (k+1) _ aa hl)
  | false=>
   rw[c1]at z2;rw[aj aG];exact cB (of_decide_eq_false z2) (ih (k+1) b aa hb)

theorem Bm (w:List Int):turn w 0=w:=by
 unfold turn;rw[ah1,List.take_zero,ahk]

def iD (w:List Int):List Int:=least w (w.length - 1) 1 w

theorem G0 (w:List Int): ∀(d k:Nat) (b:List Int),b.length=w.length→(least w d k b).length=w.length:=by
 intro d
 induction d with
 | zero=>intro k b hb;exact hb
 | succ d ih=>
  intro k b hb;unfold least
  split
  ·exact ih _ _ (lS w k)
  ·exact ih _ _ hb

theorem UJ (w:List Int) (hw:w.length≤1000) (h0:0<w.length):Ev (fun f=>nj.f f w) (iD w):=by
 have ho:mo.f w=some w:=by
  unfold mo.f;rw[ahy,agE,ahN,ak aa]
 unfold nj.f;refine bu (bK ho) ?_;exact UH w hw (w.length - 1) 1 w aa rfl

theorem UK (w:List Int) (hw:w.length≤1000) (h0:0<w.length):Ev (fun f=>nk.f f w) (iD w):=by
 unfold nk.f mS.f;refine bu (bz aa (bD _)) ?_;have h:=UI w hw h0 w.length 0 w aa rfl;have e:least w w.length 0 w=iD w:=by
  obtain⟨m,hm⟩: ∃m,w.length=m+1:=⟨w.length - 1,by omega⟩;unfold iD;rw[hm,agK]
  show(if bf (turn w 0) w=true then _ else _)=_
  rw[Bm,Ec,aj aG]
 rw[e]at h;exact h

section
variable {n:Int} {l:List (List Int)} (h:fH n l=true) {w:List Int} (hwk:oU l w=true)
include h hwk

def sE (l:List (List Int)) (w:List Int):Bool:=next l (rd w ((w.length - 1:Nat):Int)).toNat (rd w 0).toNat

theorem UL:Ev (fun k=>m9.f k n l w) (sE l w):=by
 obtain⟨h1,h12,hd,hs⟩:=xM hwk;have hc:=UE l w (w.length - 1) 0 aa hs;rw[show w.length - 1+1=w.length by omega]at hc;have i1:=UD h hd aa;rw[hc,aV aa,ahY]at i1;exact i1

theorem UM:Ev (fun _=>nN.f n l w) (sE l w):=by
 obtain⟨h1,h12,hd,hs⟩:=xM hwk;obtain⟨e1,r1⟩:=zu hd (show w.length - 1<w.length by omega);obtain⟨e2,r2⟩:=zu hd (show 0<w.length by omega);have hn:=zq h r1 r2;rw[← e1,← e2]at hn;unfold nN.f;rw[bN (x:=(w.length:Int) - 1) aa aa,show(w.length:Int) - 1=((w.length - 1:Nat):Int) by omega];exact bz aa (bz aa (bz aa (bu (bK hn) (bD _))))

theorem UN:Ev (fun k=>mB.f k n l w) (qh w (w.length - 1) 1 && sE l w):=by
 obtain⟨h1,h12,hd,hs⟩:=xM hwk;have hc:=UM h hwk;have hn:=UG w aa (w.length - 1) 1 aa;unfold mB.f;cases c:sE l w with
 | true=>
  rw[c]at hc;rw[ahY];exact bu hc (bz rfl hn)
 | false=>
  rw[c]at hc;rw[ahM];exact bu hc (cB aG (bD _))

theorem Mq:Ev (fun k=>mC.f k n l w) (qh w (w.length - 1) 1 && sE l w):=by
 obtain⟨h1,h12,hd,hs⟩:=xM hwk;have hc:=UL h hwk;have loop: ∀(d k:Nat),k+d=w.length→Ev (fun f=>mC.l0 f w (k:Int) n l) (qh w d k && sE l w):=by
  intro d
  induction d with
  | zero=>
   intro k hk;refine bX ?_;simp only[mC.l0];exact cB aa (bu hc (bD _))
  | succ d ih=>
   intro k hk;have h2:=ih (k+1) aa;have ht:=ML w k aa aa aa;have hl:=lS w k;have he:=MM (turn w k) w aa;unfold qh;refine bX ?_;simp only[mC.l0];rw[eE (i:=k) aa];refine bz aa (bu (bK ht) ?_)
   by_cases c:turn w k=w
   ·rw[aV c]at he
    rw[cj (fun z=>z c),ahs,ahs];exact bu he (bz rfl (bD _))
   ·rw[cj c]at he
    rw[aV c,aht];exact bu he (cB aG h2)
 exact loop (w.length - 1) 1 aa

end
theorem p4 {n:Nat} {f g:Nat→Int} (h: ∀i,i<n→f i≤g i):Sm n f≤Sm n g:=by
 induction n with
 | zero=>exact agI _
 | succ n ih=>
  have h1:=ih (fun i hi=>h i aa);have h2:=h n aa;unfold Sm
  omega

theorem G1 {n:Nat} {f:Nat→Int} (h: ∀i,i<n→0≤f i) {i:Nat} (hi:i<n):f i≤Sm n f:=by
 induction n with
 | zero=>omega
 | succ n ih=>
  have h2:=h n aa;have h3:=lu (n:=n) (f:=f) (fun i hi=>h i aa);unfold Sm
  by_cases e:i=n
  ·subst e;omega
  ·have:=ih (fun i hi=>h i aa) aa
   omega

theorem G2 {n p:Nat} (hp:p<n):Sm n (fun r=>if r=p then 1 else 0)=1:=by
 have:=Bl n (fun _=>1) hp
 simpa using this

theorem UO (n:Nat) (c:Int):Sm n (fun _=>c)=n*c:=by
 induction n with
 | zero=>simp[Sm]
 | succ n ih=>unfold Sm;rw[ih,Int.natCast_add,agV];simp

theorem UQ (m:Nat):inv (2*m)=2*m+1:=by unfold inv;rw[ak aa]
theorem UR (m:Nat):inv (2*m+1)=2*m:=by unfold inv;rw[aj aa];omega
theorem inv_inv (p:Nat):inv (inv p)=p:=by
 unfold inv
 split<;>split<;>omega
theorem MN {p m:Nat} (h:p<2*m):inv p<2*m:=by
 unfold inv
 split<;>omega

theorem US (m:Nat) (f:Nat→Int):Sm (2*m) (fun q=>f (inv q))=Sm (2*m) f:=by
 induction m with
 | zero=>rfl
 | succ m ih=>
  show Sm (2*m) (fun q=>f (inv q))+f (inv (2*m))+f (inv (2*m+1))=Sm (2*m) f+f (2*m)+f (2*m+1)
  rw[ih,UQ,UR]
  omega

theorem MO (l:List (List Int)) (p:Nat):hd l (inv p)=tl l p:=by
 unfold hd tl inv
 split<;>split<;>(try omega)
 ·rename_i h1 h2
  rw[aj aa,show(p+1) / 2=p / 2 by omega]
 ·rename_i h1 h2
  rw[ak aa,show(p - 1) / 2=p / 2 by omega]

theorem UT (l:List (List Int)) (p:Nat):tl l (inv p)=hd l p:=by rw[← MO,inv_inv]

theorem UU (l:List (List Int)) (p q:Nat) (h:next l p q=true):next l (inv q) (inv p)=true:=by
 rw[zf]at h ⊢;rw[MO,UT];refine⟨h.1.symm,fun e=>h.2 ?_⟩;rw[inv_inv]at e;rw[e]

section
variable (l:List (List Int)) (v:Int)

def aw (t q:Nat):Int:=Sm (2*l.length) (fun p=>if tl l p=v then vec l (2*l.length) p t q else 0)
def jT (t:Nat):Int:=Sm (2*l.length) (aw l v t)
def od (p:Nat):Int:=Sm (2*l.length) (W l p)

theorem MP (p:Nat):0≤od l p:=lu (fun q _=>(mU l p q).1)

theorem UW {p q:Nat} (hq:q<2*l.length) (h:next l p q=true):1≤od l p:=by
 have:=G1 (f:=W l p) (fun q _=>(mU l p q).1) hq;unfold W at this;rw[ak h]at this;exact this

theorem Bn (hl:l.length≤10) (t q:Nat):0≤aw l v t q:=lu (fun p _=>by
 split
 ·exact(Bk l _ p aa t q).1
 ·exact agI _)

theorem MQ {q:Nat} (hq:q<2*l.length):aw l v 0 q=if tl l q=v then 1 else 0:=by
 have:=Bl (2*l.length) (fun p=>if tl l p=v then (1:Int) else 0) hq;rw[← this];refine cR (fun p _=> ?_)
 show(if tl l p=v then (if q=p then (1:Int) else 0) else 0)=(if p=q then 1 else 0)*(if tl l p=v then 1 else 0)
 by_cases e:p=q
 ·subst e
  simp
 ·rw[aj (show ¬q=p from fun z=>e z.symm),aj e]
  simp

theorem G3 (t q:Nat):aw l v (t+1) q=Sm (2*l.length) (fun r=>aw l v t r*W l r q):=by
 have e: ∀r,aw l v t r*W l r q=Sm (2*l.length) (fun p=>(if tl l p=v then vec l (2*l.length) p t r else 0)*W l r q):=fun r=>(pW _ _ _).symm
 rw[cR (fun r _=>e r),← rB];refine cR (fun p _=> ?_)
 split
 ·rfl
 ·simp only[agA]
  exact(kM _).symm

theorem G5 (t:Nat):jT l v (t+1)=Sm (2*l.length) (fun r=>aw l v t r*od l r):=by
 unfold jT;rw[cR (fun q _=>G3 l v t q),rB];exact cR (fun r _=>jg _ _ _)

theorem aeR (hl:l.length≤10) (t:Nat):0≤jT l v t:=lu (fun q _=>Bn l v hl t q)

theorem UX (hl:l.length≤10):jT l v 0≤20:=by
 have:jT l v 0≤(2*l.length:Nat)*1:=qL (fun q hq=>by
  rw[MQ l v hq]
  split<;>decide)
 omega

theorem UY (hl:l.length≤10) (M:Nat) (hM: ∀r,r<2*l.length→od l r≤M): ∀t,jT l v t≤((20*M ^ t:Nat):Int):=by
 intro t
 induction t with
 | zero=>exact UX l v hl
 | succ t ih=>
  rw[G5];have h1:Sm (2*l.length) (fun r=>aw l v t r*od l r)≤Sm (2*l.length) (fun r=>aw l v t r*M):=p4 (fun r hr=>agP (hM r hr) (Bn l v hl t r));rw[pW]at h1;have h2:jT l v t*M≤((20*M ^ t:Nat):Int)*M:=agR ih aa;have e:20*M ^ (t+1)=20*M ^ t*M:=by rw[Nat.pow_succ,Nat.mul_assoc]
  rw[e,Int.natCast_mul];unfold jT at h2
  omega

def nO:Int:=Sm (2*l.length) (fun q=>if od l q=0 then 1 else 0)

theorem MR:0≤nO l∧nO l≤(2*l.length:Nat):=by
 refine⟨lu (fun q _=>by split<;>decide), ?_⟩
 have:nO l≤(2*l.length:Nat)*1:=qL (fun q _=>by split<;>decide)
 omega

theorem UZ (h:nO l=0) {r:Nat} (hr:r<2*l.length):1≤od l r:=by
 have h1:=G1 (f:=fun q=>if od l q=0 then 1 else 0) (fun q _=>by split<;>decide) hr
 have h2:=MP l r;unfold nO at h;rw[h]at h1
 by_cases e:od l r=0
 ·simp only[e,if_true]at h1
  omega
 ·omega

theorem U0 {p:Nat} (hp:p<2*l.length) (h0:od l p≠0):od l p+nO l+1≤(2*l.length:Nat):=by
 have e1:=US l.length (fun q=>if od l q=0 then 1 else 0);have e2:=G2 (MN hp);have h1:Sm (2*l.length) (fun q=>W l p q+(if od l (inv q)=0 then 1 else 0)+(if q=inv p then 1 else 0))≤Sm (2*l.length) (fun _=>1):=by
  refine p4 (fun q hq=> ?_);unfold W
  by_cases c:next l p q=true
  ·have c1:=UW l (MN hp) (UU l p q c)
   rw[zf]at c;rw[ak (by rw[zf];exact c),aj aa,aj c.2]
   decide
  ·rw[aj c]
   by_cases c2:q=inv p
   ·subst c2
    rw[inv_inv,aj h0,ak rfl]
    decide
   ·rw[aj c2]
    split<;>decide
 rw[iT,iT,e1,e2,UO]at h1;unfold od nO
 omega

theorem U1 (hl:l.length≤10) (t:Nat):jT l v (t+1)≤jT l v (t+2)+nO l*jT l v t:=by
 have e:jT l v (t+2)+nO l*jT l v t=Sm (2*l.length) (fun r=>aw l v (t+1) r*od l r+(if od l r=0 then 1 else 0)*jT l v t):=by
  rw[iT,pW,G5]
  rfl
 rw[e];refine p4 (fun q hq=> ?_);have h1:=Bn l v hl (t+1) q;have h2:=MP l q
 by_cases c:od l q=0
 ·rw[ak c,c,G3]
  have:Sm (2*l.length) (fun r=>aw l v t r*W l r q)≤Sm (2*l.length) (aw l v t):=p4 (fun r _=>by
   have:aw l v t r*W l r q≤aw l v t r*1:=agP (mU l r q).2 (Bn l v hl t r)
   omega)
  unfold jT
  omega
 ·rw[aj c]
  have:aw l v (t+1) q*1≤aw l v (t+1) q*od l q:=agP aa h1
  omega

theorem U2 (hl:l.length≤10) (h:nO l=0) (t:Nat): ∀d,jT l v t≤jT l v (t+d):=by
 intro d
 induction d with
 | zero=>exact agI _
 | succ d ih=>
  refine ag7 ih ?_
  show _≤jT l v (t+d+1)
  rw[G5];refine p4 (fun r hr=> ?_);have:aw l v (t+d) r*1≤aw l v (t+d) r*od l r:=agP (UZ l h hr) (Bn l v hl _ r)
  omega

theorem U3 (hl:l.length≤10) (r:Nat) (hr:r<2*l.length):od l r≤((19 - (nO l).toNat:Nat):Int):=by
 have h1:=MR l
 by_cases c:od l r=0
 ·omega
 ·have:=U0 l hr c
  omega

theorem aeS (hl:l.length≤10) (k:Nat) (hk:k≤11) (h:jT l v k≤400): ∀t,t≤k→jT l v t≤5000000000000:=by
 intro t ht
 by_cases e:t=k
 ·subst e;omega
 have hd:=MR l
 by_cases c:nO l=0
 ·have:=U2 l v hl c t (k - t)
  rw[show t+(k - t)=k by omega]at this
  omega
 have hM:(19 - (nO l).toNat:Nat)≤18:=by omega
 have h9:=fun t=>UY l v hl _ (U3 l hl) t
 by_cases c9:t≤9
 ·have h1:=h9 t
  have h2:(19 - (nO l).toNat:Nat) ^ t≤18 ^ 9:=ahO (Nat.pow_le_pow_left hM t) (Nat.pow_le_pow_right aG c9);have h3:(18:Nat) ^ 9=198359290368:=by decide
  rw[h3]at h2
  omega
 ·have e1:t=10:=by omega
  have e2:k=11:=by omega
  subst e1 e2;have h1:=U1 l v hl 9;have h2:=h9 9;have h3:nO l*jT l v 9≤nO l*((20*(19 - (nO l).toNat:Nat) ^ 9:Nat):Int):=agP h2 hd.1;obtain⟨D,hD⟩:=agM hd.1;rw[hD]at h3 hd c;have U7:D≤20:=by omega
  have h4: ∀D,D<21→D*(20*(19 - D) ^ 9)≤4800000000000:=by decide
  have h5:=h4 D aa;have h6:((D:Int)*((20*(19 - D) ^ 9:Nat):Int))=((D*(20*(19 - D) ^ 9):Nat):Int):=by simp
  rw[agG,h6]at h3;rw[hD]at h1;have h7:jT l v (9+2)≤400:=h;have h8:jT l v 10≤jT l v (9+2)+D*jT l v 9:=h1
  omega

end

def dG (ws:List Int):Nat:=(rd ws ((ws.length - 1:Nat):Int)).toNat

theorem Bo (ws:List Int) (q:Int):rd (ws++[q]) ((ws.length:Nat):Int)=q:=by
 rw[gz bQ];simp

theorem rD (ws:List Int) (q:Nat):dG (ws++[(q:Int)])=q:=by
 unfold dG;rw[ahu,ahE,agK,Bo,agG]

theorem Ee {α β:Type} {f g:α→List β} {L:List α} (h: ∀a∈L,f a=g a):L.flatMap f=L.flatMap g:=by
 induction L with
 | nil=>rfl
 | cons a L ih=>rw[ahD,ahD,h a bQ,ih (fun b hb=>h b (by simp[hb]))]

def cnt (q:Nat):List (List Int)→Int
 | []=>0
 | ws :: L=>(if dG ws=q then 1 else 0)+cnt q L

theorem MS (q:Nat) (A B:List (List Int)):cnt q (A++B)=cnt q A+cnt q B:=by
 induction A with
 | nil=>simp[cnt]
 | cons ws A ih=>
  show(if dG ws=q then 1 else 0)+cnt q (A++B)=(if dG ws=q then 1 else 0)+cnt q A+cnt q B
  rw[ih]
  omega

theorem MT (N:Nat) (L:List (List Int)) (h: ∀ws∈L,dG ws<N):(L.length:Int)=Sm N (fun q=>cnt q L):=by
 induction L with
 | nil=>exact(kM N).symm
 | cons ws L ih=>
  have e:Sm N (fun q=>cnt q (ws :: L))=Sm N (fun q=>(if q=dG ws then 1 else 0)+cnt q L):=cR (fun q _=>by
   show(if dG ws=q then (1:Int) else 0)+_=_
   by_cases c:dG ws=q
   ·rw[ak c,ak c.symm]
   ·rw[aj c,aj (fun z=>c z.symm)])
  rw[e,iT,G2 (h ws bQ),← ih (fun w hw=>h w (by simp[hw])),agB]
  omega

theorem MV (P:Nat→Bool) (f:Nat→List Int) (hf: ∀a,dG (f a)=a) (q:Nat): ∀m,cnt q (((ag2 m).filter P).map f)=if q<m∧P q=true then 1 else 0:=by
 intro m
 induction m with
 | zero=>rfl
 | succ m ih=>
  rw[ahQ,ahK,List.map_append,MS,ih]
  by_cases c:P m=true
  ·rw[ahC c]
   show _+((if dG (f m)=q then 1 else 0)+0)=_
   rw[hf]
   by_cases e:m=q
   ·subst e
    rw[aj aa,ak rfl,ak ⟨by omega,c⟩]
    rfl
   ·rw[aj e]
    by_cases e2:q<m∧P q=true
    ·rw[ak e2,ak ⟨by omega,e2.2⟩]
     rfl
    ·rw[aj e2,aj (fun z=>e2 ⟨by omega,z.2⟩)]
     rfl
  ·rw[ahA c]
   show _+0=_
   by_cases e2:q<m∧P q=true
   ·rw[ak e2,ak ⟨by omega,e2.2⟩]
    rfl
   ·rw[aj e2,aj (fun z=>e2 ⟨by
     have:q≠m:=fun e=>c (e▸z.2)
     omega,z.2⟩)]
    rfl

section
variable (l:List (List Int)) (v:Int)

def ext1 (ws:List Int):List (List Int):=((ag2 (2*l.length)).filter (fun q=>next l (dG ws) q)).map (fun q:Nat=>ws++[(q:Int)])
def longer (L:List (List Int)):List (List Int):=L.flatMap (ext1 l)
def vk:List (List Int):=((ag2 (2*l.length)).filter (fun a=>decide (tl l a=v))).map (fun a:Nat=>[(a:Int)])
def Lw:Nat→List (List Int)
 | 0=>vk l v
 | t+1=>longer l (Lw t)

def good (m:Nat) (ws:List Int):Prop:=ws.length=m∧dG ws<2*l.length∧rd ws ((ws.length - 1:Nat):Int)=((dG ws:Nat):Int)

theorem Bq {m:Nat} {ws:List Int} (h:ws.length=m) {q:Nat} (hq:q<2*l.length):good l (m+1) (ws++[(q:Int)]):=by
 refine⟨by rw[ahu,h];rfl,by rw[rD];exact hq, ?_⟩;rw[rD,ahu,ahE,agK,Bo]

theorem U4 {m:Nat} {ws:List Int} (h:good l m ws): ∀x∈ext1 l ws,good l (m+1) x:=by
 intro x hx;simp only[ext1,ahH,ahw,ahv]at hx;obtain⟨q,⟨hq,_⟩,rfl⟩:=hx;exact Bq l h.1 hq

theorem Ef {m:Nat} {L:List (List Int)} (h: ∀ws∈L,good l m ws): ∀x∈longer l L,good l (m+1) x:=by
 intro x hx;simp only[longer,ahL]at hx;obtain⟨ws,hw,hx⟩:=hx;exact U4 l (h ws hw) x hx

theorem U5: ∀x∈vk l v,good l 1 x:=by
 intro x hx;simp only[vk,ahH,ahw,ahv]at hx;obtain⟨q,⟨hq,_⟩,rfl⟩:=hx;exact Bq l (ws:=[]) rfl hq

theorem G6: ∀t,∀x∈Lw l v t,good l (t+1) x
 | 0=>U5 l v
 | t+1=>Ef l (G6 t)

theorem G7 {m:Nat} (L:List (List Int)) (h: ∀ws∈L,good l m ws) {q:Nat} (hq:q<2*l.length):cnt q (longer l L)=Sm (2*l.length) (fun r=>cnt r L*W l r q):=by
 induction L with
 | nil=>
  show 0=Sm (2*l.length) (fun r=>0*W l r q)
  rw[jg,agA]
 | cons ws L ih=>
  show cnt q (ext1 l ws++longer l L)=Sm (2*l.length) (fun r=>((if dG ws=r then 1 else 0)+cnt r L)*W l r q)
  have e:Sm (2*l.length) (fun r=>((if dG ws=r then 1 else 0)+cnt r L)*W l r q)=Sm (2*l.length) (fun r=>(if r=dG ws then 1 else 0)*W l r q+cnt r L*W l r q):=cR (fun r _=>by
   rw[agV]
   by_cases c:dG ws=r
   ·rw[ak c,ak c.symm]
   ·rw[aj c,aj (fun z=>c z.symm)])
  rw[MS,e,iT,Bl _ _ (h ws bQ).2.1,ih (fun w hw=>h w (by simp[hw]))];have:cnt q (ext1 l ws)=W l (dG ws) q:=by
   unfold ext1 W;rw[MV _ _ (fun a=>rD ws a)]
   by_cases c:next l (dG ws) q=true
   ·rw[ak ⟨hq,c⟩,ak c]
   ·rw[aj (fun z=>c z.2),aj c]
  rw[this]

theorem U6: ∀(t:Nat) {q:Nat},q<2*l.length→cnt q (Lw l v t)=aw l v t q:=by
 intro t
 induction t with
 | zero=>
  intro q hq;rw[MQ l v hq]
  show cnt q (vk l v)=_
  unfold vk;rw[MV _ (fun a:Nat=>[(a:Int)]) (fun a=>rD [] a)]
  by_cases c:tl l q=v
  ·rw[ak ⟨hq,aV c⟩,ak c]
  ·rw[aj (fun z=>c (of_decide_eq_true z.2)),aj c]
 | succ t ih=>
  intro q hq
  show cnt q (longer l (Lw l v t))=_
  rw[G7 l _ (G6 l v t) hq,G3];exact cR (fun r hr=>by rw[ih hr])

theorem aeT (t:Nat):((Lw l v t).length:Int)=jT l v t:=by
 rw[MT (2*l.length) _ (fun ws hw=>(G6 l v t ws hw).2.1)];exact cR (fun q hq=>U6 l v t hq)

def wk:Nat→List Int→List (List Int)
 | 0,ws=>[ws]
 | d+1,ws=>((ag2 (2*l.length)).filter (fun q=>if ws.length=0 then decide (tl l q=v) else next l (dG ws) q)).flatMap (fun q:Nat=>wk d (ws++[(q:Int)]))

def oW:Nat→List (List Int)→List (List Int)
 | 0,L=>L
 | d+1,L=>oW d (longer l L)

theorem MW: ∀(d:Nat) (A B:List (List Int)),oW l d (A++B)=oW l d A++oW l d B
 | 0,_,_=>rfl
 | d+1,A,B=>by
  show oW l d (longer l (A++B))=oW l d (longer l A)++oW l d (longer l B)
  rw[← MW d];unfold longer;rw[ahI]

theorem MX: ∀d,oW l d []= []
 | 0=>rfl
 | d+1=>MX d

theorem G8 (d:Nat): ∀L:List (List Int),oW l d L=L.flatMap (fun ws=>oW l d [ws])
 | []=>MX l d
 | ws :: L=>by
  rw[show ws :: L= [ws]++L from rfl,MW,G8 d L];simp

theorem MZ: ∀(d:Nat) (ws:List Int),0<ws.length→wk l v d ws=oW l d [ws]
 | 0,_,_=>rfl
 | d+1,ws,h=>by
  show(ahR _ _).flatMap _=oW l d (longer l [ws])
  rw[show longer l [ws]=ext1 l ws by simp[longer],G8];unfold ext1;rw[aib];have e:(fun q=>if ws.length=0 then decide (tl l q=v) else next l (dG ws) q)=(fun q=>next l (dG ws) q):=funext (fun q=>aj aa);rw[e];exact Ee (fun q _=>MZ d _ bQ)

theorem aaa (d:Nat):wk l v (d+1) []=oW l d (vk l v):=by
 show(ahR _ _).flatMap _=_
 rw[G8];unfold vk;rw[aib];have e:(fun q=>if ([]:List Int).length=0 then decide (tl l q=v) else next l (dG []) q)=(fun q=>decide (tl l q=v)):=funext (fun q=>ak rfl);rw[e];exact Ee (fun q _=>MZ l v d _ bQ)

theorem M0: ∀(d t:Nat),oW l d (Lw l v t)=Lw l v (t+d)
 | 0,_=>rfl
 | d+1,t=>by
  show oW l d (Lw l v (t+1))=_
  rw[M0 d (t+1),show t+1+d=t+(d+1) by omega]

theorem aeU (d:Nat):wk l v (d+1) []=Lw l v d:=by
 rw[aaa,show vk l v=Lw l v 0 from rfl,M0,Nat.zero_add]
end
section
variable {n:Int} {l:List (List Int)} (h:fH n l=true)
include h

def vl (l:List (List Int)) (ws:List Int) (q d:Nat):List (List Int):=((ahS q d).filter (fun q=>next l (dG ws) q)).map (fun q:Nat=>ws++[(q:Int)])

omit h in
theorem M3 (ws:List Int):vl l ws 0 (2*l.length)=ext1 l ws:=by
 unfold vl ext1;rw[ah3]

omit h in
theorem aab (ws:List Int) (q d:Nat):vl l ws q (d+1)=(if next l (dG ws) q=true then [ws++[(q:Int)]] else [])++vl l ws (q+1) d:=by
 unfold vl;rw[aic]
 by_cases c:next l (dG ws) q=true
 ·rw[ahC c,ak c]
  rfl
 ·rw[ahA c,aj c]
  rfl

theorem aac {m:Nat} (hm:1≤m) (hm2:m≤1000) (L:List (List Int)) (hL: ∀ws∈L,good l m ws) (i:Nat) (hi:i<L.length) (vm:L.length≤5000000000000) (res:List (List Int)):
  ∀(d q:Nat) (acc:List (List Int)),q+d=2*l.length→acc.length+(vl l L[i] q d).length≤5000000000000→
   Ev (fun k=>jh.l0 k L (acc++vl l L[i] q d) ((i+1:Nat):Int) n l) res→
   Ev (fun k=>jh.l1 k L acc (i:Int) ((dG L[i]:Nat):Int) (q:Int) n l) res:=by
 obtain⟨g1,g2,g3⟩:=gG h;have hg:=hL L[i] (ag5 hi);have hrow:aH L (i:Int)=L[i]:=by
  show L.getD (i:Int).toNat []=L[i]
  rw[agG,aho,ahT hi]
  rfl
 intro d
 induction d with
 | zero=>
  intro q acc hq hb hr;refine bX ?_;simp only[jh.l1];rw[bN (x:=2*(l.length:Int)) aa aa,eE (i:=i) aa];refine cB aa ?_
  simpa [vl] using hr
 | succ d ih=>
  intro q acc hq hb hr;have hn:=zq h hg.2.1 (show q<2*l.length by omega);rw[aab]at hb hr;refine bX ?_;simp only[jh.l1];rw[bN (x:=2*(l.length:Int)) aa aa,hn,eE (i:=q) aa,hrow];refine bz aa (bu (bD _) ?_)
  by_cases c:next l (dG L[i]) q=true
  ·rw[ak c]at hb hr
   rw[ahu,ahE]at hb;have hown:mo.f L[i]=some L[i]:=by
    have:=hg.1;unfold mo.f;simp
    omega
   refine bz c (bz aa (bz aa ?_));rw[hown];refine bu (bD _) (bz (by have:=hg.1;omega) (bz aa ?_));refine ih (q+1) _ aa (by rw[ahu,ahE];omega) ?_;rw[ahm];exact hr
  ·rw[aj c]at hb hr
   refine cB c (ih (q+1) acc aa (by simpa using hb) (by simpa using hr))

theorem aad {m:Nat} (hm:1≤m) (hm2:m≤1000) (L:List (List Int)) (hL: ∀ws∈L,good l m ws) (vm:L.length≤5000000000000):
  ∀(d i:Nat) (acc:List (List Int)),i+d=L.length→acc.length+(longer l (L.drop i)).length≤5000000000000→
   Ev (fun k=>jh.l0 k L acc (i:Int) n l) (acc++longer l (L.drop i)):=by
 obtain⟨g1,g2,g3⟩:=gG h;intro d
 induction d with
 | zero=>
  intro i acc hi hb;refine bX ?_;simp only[jh.l0];refine cB aa ?_;rw[ahe aa]
  show Ev _ (acc++[])
  rw[ahk];exact bD _
 | succ d ih=>
  intro i acc hi hb;have hi':i<L.length:=by omega
  have hg:=hL L[i] (ag5 hi');have hrow:aH L (i:Int)=L[i]:=by
   show L.getD (i:Int).toNat []=L[i]
   rw[agG,aho,ahT hi']
   rfl
  have e:longer l (L.drop i)=ext1 l L[i]++longer l (L.drop (i+1)):=by
   rw[ahd hi']
   rfl
  rw[e,ahu]at hb;have h1:=ih (i+1) (acc++ext1 l L[i]) aa (by rw[ahu];omega);have h2:=aac h hm hm2 L hL i hi' vm _ (2*l.length) 0 acc aa (by rw[M3];omega) (by rw[M3];exact h1);refine bX ?_;simp only[jh.l0];rw[hrow,bN (x:=(L[i].length:Int) - 1) (by have:=hg.1;omega) (by have:=hg.1;omega),show(L[i].length:Int) - 1=((L[i].length - 1:Nat):Int) by have:=hg.1;omega,hg.2.2,e,← ahm];exact bz aa (bz aa (bz aa (bz (by have:=hg.1;omega) h2)))

theorem aae {m:Nat} (hm:1≤m) (hm2:m≤1000) (L:List (List Int)) (hL: ∀ws∈L,good l m ws) (vm:L.length≤5000000000000) (hb:(longer l L).length≤5000000000000):
  Ev (fun k=>jh.f k n l L) (longer l L):=by
 have:=aad h hm hm2 L hL vm L.length 0 [] aa (by simpa using hb);exact this

end
section
variable (l:List (List Int))

def eI:Nat→Nat→Nat→Bool
 | 0,p,q=>p == q
 | i+1,p,q=>(ag2 (2*l.length)).any (fun r=>next l p r && eI i r q)

theorem tG (i p q:Nat):eI l (i+1) p q=true↔∃r,r<2*l.length∧next l p r=true∧eI l i r q=true:=by
 show(ag2 (2*l.length)).any (fun r=>next l p r && eI l i r q)=true↔_
 rw[List.any_eq_true];simp only[ahv,ahx]

theorem M4 (i:Nat): ∀(p q:Nat),p<2*l.length→q<2*l.length→(eI l (i+1) p q=true↔∃r,r<2*l.length∧eI l i p r=true∧next l r q=true):=by
 induction i with
 | zero=>
  intro p q hp hq;rw[tG]
  constructor
  ·rintro⟨r,hr,hn,he⟩
   have he:r=q:=by simpa [eI] using he
   subst he;exact⟨p,hp,by simp[eI],hn⟩
  ·rintro⟨r,hr,he,hn⟩
   have he:p=r:=by simpa [eI] using he
   subst he;exact⟨q,hq,hn,by simp[eI]⟩
 | succ i ih=>
  intro p q hp hq;rw[tG]
  constructor
  ·rintro⟨r,hr,hn,he⟩
   obtain⟨s,hs,h1,h2⟩:=(ih r q hr hq).1 he;exact⟨s,hs,(tG l i p s).2 ⟨r,hr,hn,h1⟩,h2⟩
  ·rintro⟨s,hs,h1,h2⟩
   obtain⟨r,hr,hn,h3⟩:=(tG l i p s).1 h1;exact⟨r,hr,hn,(ih r q hr hq).2 ⟨s,hs,h3,h2⟩⟩

def lU (a d:Nat) (L:List (List Int)):List (List Int):=(longer l L).filter (fun ws=>eI l (d+1) (dG ws) a)
def jj (a:Nat):Nat→List (List Int)→List (List Int)
 | 0,L=>L
 | d+1,L=>jj a d (lU l a d L)
def kg (k a:Nat):List (List Int):=if eI l k a a=true then [[(a:Int)]] else []

def gP (k:Nat):List (List Int):=(ag2 (2*l.length)).flatMap (fun a=>jj l a (k - 1) (kg l k a))

def pI (d:Nat) (ws:List Int) (q:Nat):Bool:=(if ws.length=0 then true else next l (dG ws) q) && eI l (d+1) q (if ws.length=0 then q else (rd ws 0).toNat)
def tH:Nat→List Int→List (List Int)
 | 0,ws=>[ws]
 | d+1,ws=>((ag2 (2*l.length)).filter (pI l d ws)).flatMap (fun q:Nat=>tH d (ws++[(q:Int)]))

theorem aaf (A B:List (List Int)):longer l (A++B)=longer l A++longer l B:=by
 unfold longer;rw[ahI]

theorem M5 (a d:Nat) (A B:List (List Int)):lU l a d (A++B)=lU l a d A++lU l a d B:=by
 unfold lU;rw[aaf,ahK]

theorem M6 (a:Nat): ∀(d:Nat) (A B:List (List Int)),jj l a d (A++B)=jj l a d A++jj l a d B
 | 0,_,_=>rfl
 | d+1,A,B=>by
  show jj l a d (lU l a d (A++B))=jj l a d (lU l a d A)++jj l a d (lU l a d B)
  rw[M5,M6 a d]

theorem G9 (a:Nat): ∀d,jj l a d []= []
 | 0=>rfl
 | d+1=>G9 a d

theorem M7 (a d:Nat): ∀L:List (List Int),jj l a d L=L.flatMap (fun ws=>jj l a d [ws])
 | []=>G9 l a d
 | ws :: L=>by
  rw[show ws :: L= [ws]++L from rfl,M6,M7 a d L];simp

theorem M8 (ws:List Int) (q:Int) (h:0<ws.length):rd (ws++[q]) 0=rd ws 0:=by
 have h1:rd (ws++[q]) ((0:Nat):Int)=rd ws ((0:Nat):Int):=by
  rw[gz bQ,gz h,ahU h]
 exact h1

theorem M9 (a:Nat): ∀(d:Nat) (ws:List Int),0<ws.length→(rd ws 0).toNat=a→tH l d ws=jj l a d [ws]
 | 0,_,_,_=>rfl
 | d+1,ws,h,ha=>by
  show(ahR _ _).flatMap _=jj l a d (lU l a d [ws])
  have e:lU l a d [ws]=((ag2 (2*l.length)).filter (pI l d ws)).map (fun q:Nat=>ws++[(q:Int)]):=by
   unfold lU;rw[show longer l [ws]=ext1 l ws by simp[longer]];unfold ext1;rw[List.filter_map,List.filter_filter]
   congr 1
   refine aid (fun q _=> ?_)
   show(eI l (d+1) (dG (ws++[(q:Int)])) a && next l (dG ws) q)=pI l d ws q
   unfold pI;rw[rD,aj aa,aj aa,ha,Bool.and_comm]
  rw[e,M7,aib];exact Ee (fun q _=>M9 a d _ bQ (by rw[M8 ws _ h,ha]))

theorem Na (k:Nat) (hk:1≤k):tH l k []=gP l k:=by
 obtain⟨d,rfl⟩: ∃d,k=d+1:=⟨k - 1,by omega⟩
 show(ahR _ _).flatMap _=_
 unfold gP;rw[agK];have e: ∀L:List Nat,(L.filter (pI l d [])).flatMap (fun q:Nat=>tH l d ([]++[(q:Int)]))=L.flatMap (fun a=>jj l a d (kg l (d+1) a)):=by
  intro L
  induction L with
  | nil=>rfl
  | cons a L ih=>
   have hs:pI l d [] a=eI l (d+1) a a:=by
    unfold pI;simp
   by_cases c:eI l (d+1) a a=true
   ·rw[ahC (by rw[hs];exact c),ahD,ahD,ih]
    unfold kg;rw[ak c]
    congr 1
    exact M9 l a d [(a:Int)] bQ (by
     have:rd [(a:Int)] ((0:Nat):Int)=(a:Int):=by rw[gz bQ];rfl
     have h2:rd [(a:Int)] 0=(a:Int):=this;rw[h2,agG])
   ·rw[ahA (by rw[hs];exact c),ahD,ih]
    unfold kg;rw[aj c,G9]
    rfl
 exact e _

theorem aag (q:Nat) (P:List Int→Bool) (L:List (List Int)):0≤cnt q L∧cnt q (L.filter P)≤cnt q L:=by
 induction L with
 | nil=>exact⟨agI _,agI _⟩
 | cons ws L ih=>
  have h0:(0:Int)≤(if dG ws=q then 1 else 0):=by split<;>decide
  show 0≤(if dG ws=q then 1 else 0)+cnt q L∧_
  by_cases c:P ws=true
  ·rw[ahC c]
   show _∧(if dG ws=q then 1 else 0)+cnt q (L.filter P)≤(if dG ws=q then 1 else 0)+cnt q L
   omega
  ·rw[ahA c]
   show _∧cnt q (L.filter P)≤(if dG ws=q then 1 else 0)+cnt q L
   omega

theorem aah {m:Nat} (a d:Nat) {L:List (List Int)} (h: ∀ws∈L,good l m ws): ∀x∈lU l a d L,good l (m+1) x:=fun x hx=>Ef l h x (ahw.1 hx).1

def fY (k a:Nat):Nat→List (List Int)
 | 0=>kg l k a
 | t+1=>lU l a (k - 2 - t) (fY k a t)

theorem zy (k a:Nat): ∀(d t:Nat),t+d=k - 1→jj l a d (fY l k a t)=fY l k a (k - 1)
 | 0,t,h=>by
  obtain rfl:t=k - 1:=by omega
  rfl
 | d+1,t,h=>by
  show jj l a d (lU l a d (fY l k a t))=_
  rw[← zy k a d (t+1) aa]
  show _=jj l a d (lU l a (k - 2 - t) (fY l k a t))
  rw[show k - 2 - t=d by omega]

theorem zz (k a:Nat) (ha:a<2*l.length): ∀t,∀x∈fY l k a t,good l (t+1) x
 | 0=>by
  intro x hx;unfold fY kg at hx
  split at hx
  ·simp only[ahV]at hx
   subst hx;exact Bq l (ws:=[]) rfl ha
  ·simp at hx
 | t+1=>aah l a _ (zz k a ha t)

theorem Nb (k a:Nat) (ha:a<2*l.length): ∀t,t≤k - 1→1≤k→∀x∈fY l k a t,eI l (k - t) (dG x) a=true
 | 0,_,_=>by
  intro x hx;unfold fY kg at hx
  split at hx
  ·rename_i c
   simp only[ahV]at hx;subst hx;have:dG [(a:Int)]=a:=rD [] a;rw[this];exact c
  ·simp at hx
 | t+1,h,hk=>by
  intro x hx;have h2:=(ahw.1 hx).2;rw[show k - 2 - t+1=k - (t+1) by omega]at h2;exact h2

theorem aai (hl:l.length≤10) (k a:Nat) (ha:a<2*l.length): ∀t {q:Nat},q<2*l.length→cnt q (fY l k a t)≤vec l (2*l.length) a t q:=by
 intro t
 induction t with
 | zero=>
  intro q hq
  show cnt q (kg l k a)≤(if q=a then 1 else 0)
  unfold kg
  split
  ·show(if dG [(a:Int)]=q then 1 else 0)+0≤_
   have:dG [(a:Int)]=a:=rD [] a;rw[this]
   by_cases c:a=q
   ·rw[ak c,ak c.symm]
    decide
   ·rw[aj c,aj (fun z=>c z.symm)]
    decide
  ·show 0≤_
   split<;>decide
 | succ t ih=>
  intro q hq;have h1:=(aag q (fun ws=>eI l (k - 2 - t+1) (dG ws) a) (longer l (fY l k a t))).2;rw[G7 l _ (zz l k a ha t) hq]at h1;refine ag7 h1 ?_
  show _≤Sm (2*l.length) (fun r=>vec l (2*l.length) a t r*W l r q)
  exact p4 (fun r hr=>agR (ih hr) (mU l r q).1)

theorem aaj (hl:l.length≤10) (k a:Nat) (hk:1≤k) (ha:a<2*l.length):((fY l k a (k - 1)).length:Int)≤vec l (2*l.length) a k a:=by
 rw[MT (2*l.length) _ (fun ws hw=>(zz l k a ha _ ws hw).2.1)];obtain⟨d,rfl⟩: ∃d,k=d+1:=⟨k - 1,by omega⟩
 show _≤Sm (2*l.length) (fun r=>vec l (2*l.length) a d r*W l r a)
 refine p4 (fun r hr=> ?_);have h1:=aai l hl (d+1) a ha d hr;have hv:=(Bk l (2*l.length) a aa d r).1
 by_cases c:next l r a=true
 ·have:W l r a=1:=by unfold W;rw[ak c]
  rw[this,ah0];exact h1
 ·have h0:cnt r (fY l (d+1) a d)=0:=by
   have hz: ∀L:List (List Int),(∀ws∈L,dG ws≠r)→cnt r L=0:=by
    intro L
    induction L with
    | nil=>intro _;rfl
    | cons ws L ih=>
     intro h
     show(if dG ws=r then 1 else 0)+cnt r L=0
     rw[aj (h ws bQ),ih (fun w hw=>h w (by simp[hw]))]
     rfl
   refine hz _ (fun ws hw e=> ?_);have h2:=Nb l (d+1) a ha d aa aa ws hw;rw[show d+1 - d=0+1 by omega,tG]at h2;obtain⟨s,_,h3,h4⟩:=h2;have h4:s=a:=by simpa [eI] using h4
   subst h4;rw[e]at h3;exact c h3
  show cnt r (fY l (d+1) a d)≤_
  rw[h0];exact agS hv (mU l r a).1

theorem aak {ws:List Int} {P:List Int→Bool} {r:Nat} (hr:r<2*l.length) (hn:next l (dG ws) r=true) (hP:P (ws++[(r:Int)])=true):1≤((ext1 l ws).filter P).length:=by
 have:ws++[(r:Int)]∈(ext1 l ws).filter P:=ahw.2 ⟨by
  unfold ext1;exact ahH.2 ⟨r,ahw.2 ⟨ahv.2 hr,hn⟩,rfl⟩,hP⟩
 exact List.length_pos_of_mem this

theorem aal (k a:Nat) (ha:a<2*l.length) (t:Nat) (ht:t+1≤k - 1):(fY l k a t).length≤(fY l k a (t+1)).length:=by
 have key: ∀L:List (List Int),(∀x∈L,eI l (k - t) (dG x) a=true)→L.length≤(lU l a (k - 2 - t) L).length:=by
  intro L
  induction L with
  | nil=>intro _;exact Nat.zero_le _
  | cons ws L ih=>
   intro h;have h1:=ih (fun x hx=>h x (by simp[hx]));have h2:=h ws bQ;rw[show k - t=(k - 2 - t+1)+1 by omega,tG]at h2;obtain⟨r,hr,hn,hc⟩:=h2;have e:lU l a (k - 2 - t) (ws :: L)=(ext1 l ws).filter (fun ws=>eI l (k - 2 - t+1) (dG ws) a)++lU l a (k - 2 - t) L:=by
    rw[show ws :: L= [ws]++L from rfl,M5];unfold lU;rw[show longer l [ws]=ext1 l ws by simp[longer]]
   have h3:=aak l (P:=fun ws=>eI l (k - 2 - t+1) (dG ws) a) hr hn (by
    show eI l (k - 2 - t+1) (dG (ws++[(r:Int)])) a=true
    rw[rD];exact hc)
   rw[e,ahu,agB]
   omega
 exact key _ (Nb l k a ha t aa aa)

theorem Nc (k a:Nat) (ha:a<2*l.length): ∀(d t:Nat),t+d=k - 1→(fY l k a t).length≤(fY l k a (k - 1)).length
 | 0,t,h=>by
  obtain rfl:t=k - 1:=by omega
  exact agO _
 | d+1,t,h=>ahO (aal l k a ha t aa) (Nc k a ha d (t+1) aa)

theorem aam (L:List (List Int)):(longer l L).length≤2*l.length*L.length:=by
 induction L with
 | nil=>exact Nat.zero_le _
 | cons ws L ih=>
  have e:longer l (ws :: L)=ext1 l ws++longer l L:=rfl;have h1:(ext1 l ws).length≤2*l.length:=by
   unfold ext1;rw[agZ];exact ahO (aie _ _) bQ
  rw[e,ahu,agB,Nat.mul_add]
  omega

theorem Nh (f:Nat→List (List Int)) (g:Nat→Int): ∀m,(∀a,a<m→((f a).length:Int)≤g a)→(((ag2 m).flatMap f).length:Int)≤Sm m g
 | 0,_=>agI _
 | m+1,h=>by
  have h1:=Nh f g m (fun a ha=>h a aa);have h2:=h m aa;rw[ahQ,ahI,ahu]
  show _≤Sm m g+g m
  simp only[ahD,List.flatMap_nil,ahk]
  omega

theorem Eg (hl:l.length≤10) (k:Nat) (hk:1≤k):((gP l k).length:Int)≤dO l (k - 1):=by
 unfold gP dO tr;refine Nh _ _ _ (fun a ha=> ?_);have e:jj l a (k - 1) (kg l k a)=fY l k a (k - 1):=zy l k a (k - 1) 0 aa;have h1:=aaj l hl k a hk ha;obtain⟨d,rfl⟩: ∃d,k=d+1:=⟨k - 1,by omega⟩;rw[e];rw[Eb l _ ha d a]at h1;exact h1

end
theorem He (xs:List (List Bool)) {i:Nat}:iV xs (i:Int)=xs.getD i []:=rfl
theorem Hf (xs:List Bool) {i:Nat}:eX false xs (i:Int)=xs.getD i false:=rfl

section
variable {n:Int} {l:List (List Int)} (h:fH n l=true) (k:Nat) (hk:1≤k∧k≤12)

def lD (l:List (List Int)) (a i m:Nat):List Bool:=(ag2 m).map (fun b=>eI l (i+1) b a)
def kV (l:List (List Int)) (a i:Nat):List (List Bool):=(ag2 i).map (fun j=>lD l a j (2*l.length))

theorem Hg (a i m:Nat) {b:Nat} (hb:b<m):(lD l a i m).getD b false=eI l (i+1) b a:=by
 unfold lD;rw[aho,ah4,ah5 hb]
 rfl
theorem Hh (a i:Nat) {j:Nat} (hj:j<i):(kV l a i).getD j []=lD l a j (2*l.length):=by
 unfold kV;rw[aho,ah4,ah5 hj]
 rfl
theorem Br (a i m:Nat):(lD l a i m).length=m:=by simp[lD]
theorem Eh (a i:Nat):(kV l a i).length=i:=by simp[kV]

theorem any_succ (f:Nat→Bool) (c:Nat):(ag2 (c+1)).any f=((ag2 c).any f || f c):=by
 rw[ahQ,List.any_append];simp

theorem aan (a b:Nat) (ha:a<2*l.length):eI l 1 b a=next l b a:=by
 rw[Bool.eq_iff_iff,show(1:Nat)=0+1 from rfl,tG]
 constructor
 ·rintro⟨r,_,h1,h2⟩
  have:r=a:=by simpa [eI] using h2
  subst this;exact h1
 ·intro h1
  exact⟨a,ha,h1,by simp[eI]⟩

include h hk

theorem spC (acc:List (List Int)) (a:Nat) (ha:a<2*l.length) (i:Nat) (hi:i<k) (Bt:0<i) (b:Nat) (hb:b<2*l.length) (r:List (List Int)×Bool)
  (hr:Ev (fun f=>cP.l2 f (k:Int) (2*(l.length:Int)) acc (a:Int) (kV l a i) (i:Int) (lD l a i (b+1)) ((b+1:Nat):Int) n l) r):
  ∀(d c:Nat),c+d=2*l.length→Ev (fun f=>cP.l3 f (k:Int) (2*(l.length:Int)) acc (a:Int) (kV l a i) (i:Int) (lD l a i b) (b:Int) ((ag2 c).any (fun c=>next l b c && eI l i c a)) (c:Int) n l) r:=by
 obtain⟨g1,g2,g3⟩:=gG h;have Hi:=Br (l:=l) a i b;intro d
 induction d with
 | zero=>
  intro c hc;obtain rfl:c=2*l.length:=by omega
  have e:lD l a i b++[(ag2 (2*l.length)).any (fun c=>next l b c && eI l i c a)]=lD l a i (b+1):=(tw (fun b=>eI l (i+1) b a) b).symm;refine bX ?_;simp only[cP.l3];rw[e,eE (i:=b) aa];exact cB aa (bz aa hr)
 | succ d ih=>
  intro c hc;have h1:=ih (c+1) aa;rw[any_succ]at h1;have hn:=zq h hb (show c<2*l.length by omega);have hw:iV (kV l a i) (((i - 1:Nat):Nat):Int)=lD l a (i - 1) (2*l.length):=by rw[He,Hh a i aa]
  have Bv:eX false (lD l a (i - 1) (2*l.length)) (c:Int)=eI l i c a:=by rw[Hf,Hg a (i - 1) _ aa,show i - 1+1=i by omega]
  have hl1:=Eh (l:=l) a i;have hl2:=Br (l:=l) a (i - 1) (2*l.length);refine bX ?_;simp only[cP.l3];rw[eE (i:=c) aa,bN (x:=(i:Int) - 1) aa aa,show(i:Int) - 1=((i - 1:Nat):Int) by omega,hn,hw,Bv];refine bz aa (bz aa ?_)
  by_cases c1:(ag2 c).any (fun c=>next l b c && eI l i c a)=true
  ·rw[c1,Bool.true_or]at h1
   exact bz c1 h1
  ·have c2:(ag2 c).any (fun c=>next l b c && eI l i c a)=false:=by simpa using c1
   rw[c2,ah2]at h1;refine cB c1 (bu (bD _) ?_)
   by_cases c3:next l b c=true
   ·rw[c3,aht]at h1
    exact bz c3 (bz aa (bz aa (bz aa (bz aa h1))))
   ·have c4:next l b c=false:=by simpa using c3
    rw[c4,ahs]at h1;exact cB c3 h1

theorem spB (acc:List (List Int)) (a:Nat) (ha:a<2*l.length) (i:Nat) (hi:i<k) (r:List (List Int)×Bool)
  (hr:Ev (fun f=>cP.l1 f (k:Int) (2*(l.length:Int)) acc (a:Int) (kV l a (i+1)) ((i+1:Nat):Int) n l) r):
  ∀(d b:Nat),b+d=2*l.length→Ev (fun f=>cP.l2 f (k:Int) (2*(l.length:Int)) acc (a:Int) (kV l a i) (i:Int) (lD l a i b) (b:Int) n l) r:=by
 obtain⟨g1,g2,g3⟩:=gG h;intro d
 induction d with
 | zero=>
  intro b hb;obtain rfl:b=2*l.length:=by omega
  have e:kV l a i++[lD l a i (2*l.length)]=kV l a (i+1):=(tw (fun j=>lD l a j (2*l.length)) i).symm;have hl1:=Eh (l:=l) a i;refine bX ?_;simp only[cP.l2];rw[e,eE (i:=i) aa];exact cB aa (bz aa hr)
 | succ d ih=>
  intro b hb;have h1:=ih (b+1) aa;have hn:=zq h (show b<2*l.length by omega) ha;refine bX ?_;simp only[cP.l2];rw[hn];refine bz aa ?_
  by_cases c:i=0
  ·subst c
   refine bz aa (bu (bD _) ?_);have e:lD l a 0 b++[next l b a]=lD l a 0 (b+1):=by
    rw[← aan a b ha];exact(tw (fun b=>eI l (0+1) b a) b).symm
   have Hi:=Br (l:=l) a 0 b;refine bX ?_;simp only[cP.j3];refine bX ?_;simp only[cP.l3];rw[e,eE (i:=b) aa];exact bz aa (cB aa (bz aa h1))
  ·refine cB aa ?_
   have h2:=spC h k hk acc a ha i hi aa b aa r h1 (2*l.length) 0 aa;refine bX ?_;simp only[cP.j3];exact h2

theorem spI (acc:List (List Int)) (a:Nat) (ha:a<2*l.length) (r:List (List Int)×Bool)
  (hr:Ev (fun f=>cP.l1 f (k:Int) (2*(l.length:Int)) acc (a:Int) (kV l a k) (k:Int) n l) r):
  ∀(d i:Nat),i+d=k→Ev (fun f=>cP.l1 f (k:Int) (2*(l.length:Int)) acc (a:Int) (kV l a i) (i:Int) n l) r:=by
 obtain⟨g1,g2,g3⟩:=gG h;intro d
 induction d with
 | zero=>
  intro i hi;obtain rfl:i=k:=by omega
  exact hr
 | succ d ih=>
  intro i hi;have h1:=ih (i+1) aa;have h2:=spB h k hk acc a ha i aa r h1 (2*l.length) 0 aa;refine bX ?_;simp only[cP.l1];exact bz aa h2

theorem aao (acc:List (List Int)) (a:Nat) (ha:a<2*l.length) (t:Nat) (ht:t<k) (m:Nat) (hm:1≤m) (hm2:m≤1000) (L:List (List Int)) (hL: ∀ws∈L,good l m ws) (vm:L.length≤5000000) (r:List (List Int)×Bool)
  (hr:Ev (fun f=>cP.l4 f (k:Int) (2*(l.length:Int)) acc (a:Int) (kV l a k) (L.filter (fun ws=>eI l (t+1) (dG ws) a)) ((t:Int) - 1) n l) r):
  ∀(d j:Nat),j+d=L.length→Ev (fun f=>cP.l5 f (k:Int) (2*(l.length:Int)) acc (a:Int) (kV l a k) (t:Int) L ((L.take j).filter (fun ws=>eI l (t+1) (dG ws) a)) (j:Int) n l) r:=by
 obtain⟨g1,g2,g3⟩:=gG h;have hl1:=Eh (l:=l) a k;have hl2:=Br (l:=l) a t (2*l.length);intro d
 induction d with
 | zero=>
  intro j hj;obtain rfl:j=L.length:=by omega
  refine bX ?_;simp only[cP.l5];rw[List.take_length,bN (x:=(t:Int) - 1) aa aa];exact cB aa hr
 | succ d ih=>
  intro j hj;have hj':j<L.length:=by omega
  have h1:=ih (j+1) aa;have hg:=hL L[j] (ag5 hj');have hrow:aH L (j:Int)=L[j]:=by
   show L.getD (j:Int).toNat []=L[j]
   rw[agG,aho,ahT hj']
   rfl
  have hw:iV (kV l a k) (t:Int)=lD l a t (2*l.length):=by rw[He,Hh a k ht]
  have Bv:eX false (lD l a t (2*l.length)) ((dG L[j]:Nat):Int)=eI l (t+1) (dG L[j]) a:=by rw[Hf,Hg a t _ hg.2.1]
  have hfl:((L.take j).filter (fun ws=>eI l (t+1) (dG ws) a)).length≤5000000:=ahO (aie _ _) (by rw[ahG];omega);rw[List.take_succ_eq_append_getElem hj',ahK]at h1;have hlen:=hg.1;refine bX ?_;simp only[cP.l5];rw[hrow,hw,bN (x:=(L[j].length:Int) - 1) aa aa,show(L[j].length:Int) - 1=((L[j].length - 1:Nat):Int) by omega,hg.2.2,Bv,eE (i:=j) aa];have hlt:=hg.2.1;refine bz aa (bz aa (bz aa (bz aa (bz aa (bz aa (bz aa (bz aa ?_)))))))
  by_cases c:eI l (t+1) (dG L[j]) a=true
  ·rw[ahC (p:=fun ws=>eI l (t+1) (dG ws) a) c]at h1
   exact bz c (bz aa h1)
  ·rw[ahA (p:=fun ws=>eI l (t+1) (dG ws) a) c,aif,ahk]at h1
   exact cB c h1

theorem aap (acc:List (List Int)) (a:Nat) (ha:a<2*l.length) (hs:(fY l k a (k - 1)).length≤400) (r:List (List Int)×Bool)
  (hr:Ev (fun f=>cP.l4 f (k:Int) (2*(l.length:Int)) acc (a:Int) (kV l a k) (fY l k a (k - 1)) (-1) n l) r):
  ∀(d t:Nat),t+d=k - 1→Ev (fun f=>cP.l4 f (k:Int) (2*(l.length:Int)) acc (a:Int) (kV l a k) (fY l k a t) ((d:Int) - 1) n l) r:=by
 obtain⟨g1,g2,g3⟩:=gG h;intro d
 induction d with
 | zero=>
  intro t ht;obtain rfl:t=k - 1:=by omega
  exact hr
 | succ d ih=>
  intro t ht;have h1:=ih (t+1) aa;have hle:=Nc l k a ha (d+1) t ht;have hgood:=zz l k a ha t;have hlo:=aam l (fY l k a t);have U7:2*l.length*(fY l k a t).length≤20*400:=Nat.mul_le_mul aa aa;have h2:=aae h (m:=t+1) aa aa (fY l k a t) hgood aa aa;have e:(longer l (fY l k a t)).filter (fun ws=>eI l (d+1) (dG ws) a)=fY l k a (t+1):=by
   show _=lU l a (k - 2 - t) (fY l k a t)
   rw[show k - 2 - t=d by omega]
   rfl
  have h3:=aao h k hk acc a ha d aa (t+2) aa aa (longer l (fY l k a t)) (Ef l hgood) aa r (by rw[e];exact h1) (longer l (fY l k a t)).length 0 aa;refine bX ?_;simp only[cP.l4];rw[show((d+1:Nat):Int) - 1=(d:Int) by omega];exact bz aa (bu h2 h3)

theorem spA (hb:(gP l k).length≤400): ∀(d a:Nat),a+d=2*l.length→
  Ev (fun f=>cP.l0 f (k:Int) (2*(l.length:Int)) ((ag2 a).flatMap (fun a=>jj l a (k - 1) (kg l k a))) (a:Int) n l) (gP l k,true):=by
 obtain⟨g1,g2,g3⟩:=gG h;intro d
 induction d with
 | zero=>
  intro a ha;obtain rfl:a=2*l.length:=by omega
  refine bX ?_;simp only[cP.l0];exact cB aa (bD _)
 | succ d ih=>
  intro a ha;have h1:=ih (a+1) aa;have e0:jj l a (k - 1) (kg l k a)=fY l k a (k - 1):=zy l k a (k - 1) 0 aa;rw[ahQ,ahI]at h1;have e1: [a].flatMap (fun a=>jj l a (k - 1) (kg l k a))=fY l k a (k - 1):=by
   rw[← e0];simp
  rw[e1]at h1;have hle:((ag2 a).flatMap (fun a=>jj l a (k - 1) (kg l k a))).length+(fY l k a (k - 1)).length≤400:=by
   have e2:gP l k=(ag2 a).flatMap (fun a=>jj l a (k - 1) (kg l k a))++(fY l k a (k - 1)++((ahS (a+1) d).flatMap (fun a=>jj l a (k - 1) (kg l k a)))):=by
    unfold gP;rw[← e1,← ahI,← ahI]
    congr 1
    rw[ah3,ah3,show 2*l.length=a+(d+1) by omega,← List.range'_append_1 (s:=0) (m:=a) (n:=d+1),aic];simp
   rw[e2,ahu,ahu]at hb
   omega
  have h2:Ev (fun f=>cP.l4 f (k:Int) (2*(l.length:Int)) ((ag2 a).flatMap (fun a=>jj l a (k - 1) (kg l k a))) (a:Int) (kV l a k) (fY l k a (k - 1)) (-1) n l) (gP l k,true):=by
   refine bX ?_;simp only[cP.l4];rw[eE (i:=a) aa];exact cB aa (bz aa h1)
  have h3:=aap h k hk _ a aa aa _ h2 (k - 1) 0 aa;have hl1:=Eh (l:=l) a k;have hl2:=Br (l:=l) a (k - 1) (2*l.length);have hw:iV (kV l a k) ((k - 1:Nat):Int)=lD l a (k - 1) (2*l.length):=by rw[He,Hh a k aa]
  have Bv:eX false (lD l a (k - 1) (2*l.length)) (a:Int)=eI l k a a:=by rw[Hf,Hg a (k - 1) _ aa,show k - 1+1=k by omega]
  have h5: ∀L,fY l k a 0=L→Ev (fun f=>cP.j5 f (k:Int) (2*(l.length:Int)) ((ag2 a).flatMap (fun a=>jj l a (k - 1) (kg l k a))) (a:Int) (kV l a k) L n l) (gP l k,true):=by
   intro L hL;subst hL;refine bX ?_;simp only[cP.j5];rw[bN (x:=(k:Int) - 2) aa aa,show(k:Int) - 2=((k - 1:Nat):Int) - 1 by omega];exact h3
  have h4:Ev (fun f=>cP.l1 f (k:Int) (2*(l.length:Int)) ((ag2 a).flatMap (fun a=>jj l a (k - 1) (kg l k a))) (a:Int) (kV l a k) (k:Int) n l) (gP l k,true):=by
   refine bX ?_;simp only[cP.l1];rw[bN (x:=(k:Int) - 1) aa aa,show(k:Int) - 1=((k - 1:Nat):Int) by omega,hw,Bv];refine cB aa (bu (bD _) (bz aa (bz aa (bz aa (bz aa ?_)))))
   by_cases c:eI l k a a=true
   ·exact bz c (bz bQ (h5 _ (ak c)))
   ·exact cB c (h5 _ (aj c))
  have h6:=spI h k hk _ a aa _ h4 k 0 aa;refine bX ?_;simp only[cP.l0];exact bz aa h6

def Ei (l:List (List Int)) (k:Nat):List (List Int)×Bool:=if dO l (k - 1)>400 then ([],false) else (gP l k,true)

theorem Nl:Ev (fun f=>cP.f f n l (k:Int)) (Ei l k):=by
 obtain⟨g1,g2,g3⟩:=gG h;have h1:=D5 h k hk;unfold cP.f Ei
 by_cases c:dO l (k - 1)>400
 ·rw[ak c]
  exact bu h1 (bz c (bD _))
 ·rw[aj c]
  have h2:=spA h k hk (by have:=Eg l g3 k hk.1;omega) (2*l.length) 0 aa;refine bu h1 (cB c ?_);rw[bN (x:=2*(l.length:Int)) aa aa];exact h2

end
theorem aaq (n:Nat):zeros n=ofFn n (fun _ _=>0):=by
 show ahz n (ahz n 0)=(ag2 n).map (fun _=>rowOf n (fun _=>0))
 rw[uN];simp[List.map_const']

def qi (N s:Nat):List (List Int):=ofFn N (fun i j=>if i=j∧i<s then 1 else 0)

theorem Nm (N s:Nat):(qi N s).length=N:=pZ _ _

theorem aar (N:Nat):zeros N=qi N 0:=by
 rw[aaq];exact mT (fun i j _ _=>(aj aa).symm)

theorem Nn (N s:Nat) (hs:s<N):aH (qi N s) (s:Int)=rowOf N (fun _=>0):=by
 unfold qi;rw[sC _ hs];exact lA (fun j _=>aj aa)

theorem aas (N s:Nat) (hs:s<N):(qi N s).set s ((aH (qi N s) (s:Int)).set s 1)=qi N (s+1):=by
 rw[Nn N s hs,uO _ _ hs];unfold qi;rw[DW _ _ hs];refine mT (fun i j hi hj=> ?_)
 by_cases c:i=s
 ·subst c
  rw[ak rfl]
  by_cases c2:j=i
  ·rw[ak c2,ak ⟨c2.symm,by omega⟩]
  ·rw[aj c2,aj (fun z=>c2 z.1.symm)]
 ·rw[aj c]
  by_cases c2:i=j∧i<s
  ·rw[ak c2,ak ⟨c2.1,by omega⟩]
  ·rw[aj c2,aj (fun z=>c2 ⟨z.1,by omega⟩)]

def ev (l:List (List Int)) (e:Nat):Nat:=(hd l e).toNat

def vp (v:Int):Int:=if 1<v then 1 else v

def mD (N:Nat) (S:Nat→Nat→Int) (i f:Nat):List (List Int):=ofFn N (fun p q=>if p<i∨(p=i∧q<f) then vp (S p q) else S p q)

theorem Ej (N:Nat) (S:Nat→Nat→Int) (i f:Nat) (hi:i<N):aH (mD N S i f) (i:Int)=rowOf N (fun q=>if q<f then vp (S i q) else S i q):=by
 unfold mD;rw[sC _ hi];refine lA (fun q _=> ?_)
 by_cases c:q<f
 ·rw[ak c,ak (.inr ⟨rfl,c⟩)]
 ·rw[aj c,aj (fun z=>z.elim (fun z=>by omega) (fun z=>c z.2))]

theorem aat (N:Nat) (S:Nat→Nat→Int) (i f:Nat) (hi:i<N) (hf:f<N):(mD N S i f).set i ((aH (mD N S i f) (i:Int)).set f (vp (S i f)))=mD N S i (f+1):=by
 rw[Ej N S i f hi,uO _ _ hf];unfold mD;rw[DW _ _ hi];refine mT (fun p q hp hq=> ?_)
 by_cases c:p=i
 ·subst c
  rw[ak rfl]
  by_cases c2:q=f
  ·rw[ak c2,c2,ak (.inr ⟨rfl,by omega⟩)]
  ·rw[aj c2]
   by_cases c3:q<f
   ·rw[ak c3,ak (.inr ⟨rfl,by omega⟩)]
   ·rw[aj c3,aj (fun z=>z.elim (fun z=>by omega) (fun z=>by omega))]
 ·rw[aj c]
  by_cases c2:p<i
  ·rw[ak (.inl c2),ak (.inl c2)]
  ·rw[aj (fun z=>z.elim c2 (fun z=>c z.1)),aj (fun z=>z.elim c2 (fun z=>c z.1))]

theorem aau (N:Nat) (S:Nat→Nat→Int) (i:Nat):mD N S i N=mD N S (i+1) 0:=by
 refine mT (fun p q hp hq=> ?_)
 by_cases c:p<i+1
 ·rw[ak (show p<i∨(p=i∧q<N) by omega),ak (show p<i+1∨(p=i+1∧q<0) from .inl c)]
 ·rw[aj (show ¬(p<i∨(p=i∧q<N)) by omega),aj (show ¬(p<i+1∨(p=i+1∧q<0)) by omega)]

theorem aav (N:Nat) (S:Nat→Nat→Int):ofFn N S=mD N S 0 0:=mT (fun p q _ _=>(aj (fun z=>z.elim (fun z=>by omega) (fun z=>by omega))).symm)
theorem aaw (N:Nat) (S:Nat→Nat→Int):mD N S N 0=ofFn N (fun p q=>vp (S p q)):=mT (fun p q hp _=>ak (.inl hp))
theorem Np (N:Nat) (S:Nat→Nat→Int) (i f:Nat):(mD N S i f).length=N:=pZ _ _

theorem lcM (N:Nat) (hN:N≤1000) (S:Nat→Nat→Int) (i:Nat) (hi:i<N): ∀(d f:Nat),f+d=N→bH.lc (i:Int) (N:Int) (d+1) (f:Int) (mD N S i f)=some (mD N S (i+1) 0):=by
 intro d
 induction d with
 | zero=>
  intro f hf;obtain rfl:f=N:=by omega
  unfold bH.lc;rw[aj aa,aau]
 | succ d ih=>
  intro f hf;have h1:=ih (f+1) aa;have hl:=Np N S i f;have hr:(aH (mD N S i f) (i:Int)).length=N:=by rw[Ej N S i f hi,jB]
  have hv:rd (aH (mD N S i f) (i:Int)) (f:Int)=S i f:=by
   rw[Ej N S i f hi,nK _ (show f<N by omega),aj aa]
  unfold bH.lc;rw[ak aa,ak ⟨by omega,by omega,by omega,by omega⟩,hv,eE (i:=f) aa,agG,agG];have e:=aat N S i f hi aa;unfold vp at e;rw[e];exact h1

theorem lrM (N:Nat) (hN:N≤1000) (S:Nat→Nat→Int): ∀(d i:Nat),i+d=N→bH.lr (N:Int) (d+1) (i:Int) (mD N S i 0)=some (ofFn N (fun p q=>vp (S p q))):=by
 intro d
 induction d with
 | zero=>
  intro i hi;obtain rfl:i=N:=by omega
  unfold bH.lr;rw[aj aa,aaw]
 | succ d ih=>
  intro i hi;have h1:=ih (i+1) aa;have hl:=Np N S i 0;have hr:(aH (mD N S i 0) (i:Int)).length=N:=by rw[Ej N S i 0 aa,jB]
  have h2:bH.lc (i:Int) (N:Int) (N+1) 0 (mD N S i 0)=some (mD N S (i+1) 0):=lcM N hN S i aa N 0 aa;unfold bH.lr;rw[ak aa,ak aa,hr,h2,ahy,eE (i:=i) aa];exact h1

theorem l0M (N:Nat) (hN:N≤1000): ∀(d s:Nat),s+d=N→bH.l0 (N:Int) (d+1) (s:Int) (qi N s)=some (qi N N):=by
 intro d
 induction d with
 | zero=>
  intro s hs;obtain rfl:s=N:=by omega
  unfold bH.l0;rw[aj aa]
 | succ d ih=>
  intro s hs;have h1:=ih (s+1) aa;have hl:=Nm N s;have hr:(aH (qi N s) (s:Int)).length=N:=by rw[Nn N s aa,jB]
  unfold bH.l0;rw[ak aa,ak aa,eE (i:=s) aa,agG,aas N s aa];exact h1

def jJ (l:List (List Int)) (i:Nat):List (List Int):=ofFn (2*l.length) (fun p q=>if eI l i p q=true then 1 else 0)

theorem aax (l:List (List Int)):qi (2*l.length) (2*l.length)=jJ l 0:=by
 refine mT (fun p q hp hq=> ?_)
 show(if p=q∧p<2*l.length then (1:Int) else 0)=if (p == q)=true then 1 else 0
 by_cases c:p=q
 ·rw[ak ⟨c,hp⟩,ak (by simpa using c)]
 ·rw[aj (fun z=>c z.1),aj (by simpa using c)]

section
variable {n:Int} {l:List (List Int)} (h:fH n l=true)
include h

theorem aay (i:Nat):ofFn (2*l.length) (fun p q=>vp (part (jJ l i) (ofFn (2*l.length) (W l)) (2*l.length) p q))=jJ l (i+1):=by
 obtain⟨g1,g2,g3⟩:=gG h;refine mT (fun p q hp hq=> ?_);have e:Sm (2*l.length) (fun m=>dF (jJ l i) p m*dF (ofFn (2*l.length) (W l)) m q)=Sm (2*l.length) (fun m=>(if eI l i p m=true then 1 else 0)*W l m q):=cR (fun m hm=>by
  unfold jJ;rw[uM _ hp hm,uM _ hm hq])
 have hpos: ∀m,m<2*l.length→0≤(if eI l i p m=true then (1:Int) else 0)*W l m q:=fun m _=>agS (by split<;>decide) (mU l m q).1
 have h0:=lu (n:=2*l.length) hpos;have h1:Sm (2*l.length) (fun m=>(if eI l i p m=true then (1:Int) else 0)*W l m q)≤(2*l.length:Nat)*1:=qL (fun m _=>by
  have:=mU l m q
  split<;>omega)
 unfold part;rw[e,bN aa aa]
 by_cases c:eI l (i+1) p q=true
 ·rw[ak c]
  obtain⟨r,hr,h2,h3⟩:=(M4 l i p q hp hq).1 c;have h4:=G1 hpos hr;have h5:(if eI l i p r=true then (1:Int) else 0)*W l r q=1:=by
   unfold W;rw[ak h2,ak h3]
   rfl
  simp only[h5]at h4;unfold vp
  split<;>omega
 ·rw[aj c]
  have hz:Sm (2*l.length) (fun m=>(if eI l i p m=true then (1:Int) else 0)*W l m q)=0:=by
   refine(cR (g:=fun _=>0) (fun m hm=> ?_)).trans (kM _)
   by_cases c2:eI l i p m=true
   ·by_cases c3:next l m q=true
    ·exact absurd ((M4 l i p q hp hq).2 ⟨m,hm,c2,c3⟩) c
    ·unfold W
     rw[aj c3,agL]
   ·rw[aj c2,agA]
  rw[hz]
  decide

theorem lwM (K:Nat) (hK:K≤12): ∀(d i:Nat),i+d=K→Ev (fun f=>bH.lw f (ofFn (2*l.length) (W l)) (K:Int) (d+1) (i:Int) ((ag2 (i+1)).map (jJ l))) ((ag2 (K+1)).map (jJ l)):=by
 obtain⟨g1,g2,g3⟩:=gG h;intro d
 induction d with
 | zero=>
  intro i hi;obtain rfl:i=K:=by omega
  unfold bH.lw;exact cB aa (bD _)
 | succ d ih=>
  intro i hi;have h1:=ih (i+1) aa;have hget:((ag2 (i+1)).map (jJ l)).getD (i:Int).toNat []=jJ l i:=by
   rw[agG,aho,ah4,ah5 aa]
   rfl
  have h2:=DX (2*l.length) aa (jJ l i) (ofFn (2*l.length) (W l)) (uP _ _) (uP _ _);have h3:bH.lr ((2*l.length:Nat):Int) (2*l.length+1) 0 _=_:=lrM (2*l.length) aa (part (jJ l i) (ofFn (2*l.length) (W l)) (2*l.length)) (2*l.length) 0 aa;rw[← aav,aay h i]at h3;have vm:((ag2 (i+1)).map (jJ l)).length=i+1:=by simp
  rw[show(ag2 (i+1+1)).map (jJ l)=(ag2 (i+1)).map (jJ l)++[jJ l (i+1)] from tw _ _]at h1;unfold bH.lw;rw[hget,eE (i:=i) aa];refine bz aa (bz aa (bu h2 ?_));rw[pZ,h3];exact bu (bD _) (bz aa h1)

omit h in
theorem Nq (K i e f:Nat) (hi:i≤K) (he:e<2*l.length) (hf:f<2*l.length):bH.can ((ag2 (K+1)).map (jJ l)) (i:Int) (e:Int) (f:Int)=some (eI l i e f):=by
 have hget:((ag2 (K+1)).map (jJ l)).getD (i:Int).toNat []=jJ l i:=by
  rw[agG,aho,ah4,ah5 aa]
  rfl
 have hrow:aH (jJ l i) (e:Int)=rowOf (2*l.length) (fun q=>if eI l i e q=true then 1 else 0):=sC _ he;have hv:rd (rowOf (2*l.length) (fun q=>if eI l i e q=true then 1 else 0)) (f:Int)=if eI l i e f=true then 1 else 0:=nK _ hf
 have hl1:(jJ l i).length=2*l.length:=pZ _ _;have hl2:=jB (2*l.length) (fun q=>if eI l i e q=true then (1:Int) else 0);unfold bH.can;rw[hget,hrow,hv,ak ⟨⟨by omega,by simp;omega⟩,⟨by omega,by omega⟩,by omega,by omega⟩]
 congr 1
 by_cases c:eI l i e f=true
 ·rw[ak c,c]
  rfl
 ·rw[aj c]
  simpa using c

def Ns (l:List (List Int)) (ws:List Int):Prop:=good l ws.length ws∧∃a,a<2*l.length∧rd ws 0=((a:Nat):Int)

theorem lpC (K:Nat) (d0:Nat) (F:List Int→List (List Int)→Option (List (List Int))) (G:Nat→List (List Int)) (ws:List Int) (hw:ws.length=0∨Ns l ws) (U7:ws.length+(d0+1)=K) (hK:K≤12) (hF: ∀q,q<2*l.length→∀xs,xs.length+(G q).length≤400→F (ws++[(q:Int)]) xs=some (xs++G q)):
  ∀(d q:Nat) (xs:List (List Int)),q+d=2*l.length→xs.length+(((ahS q d).filter (pI l d0 ws)).flatMap G).length≤400→
   bH.lp n l ((ag2 (K+1)).map (jJ l)) (K:Int) F ws (2*(l.length:Int)) (d+1) (q:Int) xs=some (xs++((ahS q d).filter (pI l d0 ws)).flatMap G):=by
 obtain⟨g1,g2,g3⟩:=gG h;intro d
 induction d with
 | zero=>
  intro q xs hq hb;unfold bH.lp;rw[aj aa];simp
 | succ d ih=>
  intro q xs hq hb;have rE:q<2*l.length:=by omega
  have hi:wrap64 ((K:Int) - (ws.length:Int))=((d0+1:Nat):Int):=by rw[bN aa aa];omega
  have hs:((if (ws.length:Int)=0 then some true else pH.f n l (rd ws (wrap64 ((ws.length:Int) - 1))) (q:Int)).bind fun b=>
    if b=true then bH.can ((ag2 (K+1)).map (jJ l)) (wrap64 ((K:Int) - (ws.length:Int))) (q:Int) (bH.first ws (q:Int)) else some false)=some (pI l d0 ws q):=by
   rw[hi];unfold pI bH.first
   by_cases c:ws.length=0
   ·rw[ak aa,ak c,ak c,aj aa,ahy,ak rfl,Nq K (d0+1) q q aa rE rE,aht]
   ·obtain⟨hg,a,ha,hfa⟩:=hw.resolve_left c
    rw[aj aa,aj c,aj c,ak aa,bN (x:=(ws.length:Int) - 1) aa aa,show(ws.length:Int) - 1=((ws.length - 1:Nat):Int) by omega,hg.2.2,My h hg.2.1 rE,ahy,hfa,Nq K (d0+1) q a aa rE ha,agG]
    by_cases c2:next l (dG ws) q=true
    ·rw[ak c2,c2,aht]
    ·have c3:next l (dG ws) q=false:=by simpa using c2
     rw[aj c2,c3,ahs]
  have hs2: ∀{α:Type} (R:Bool→Option α),((if (ws.length:Int)=0 then some true else pH.f n l (rd ws (wrap64 ((ws.length:Int) - 1))) (q:Int)).bind fun b=>
    (if b=true then bH.can ((ag2 (K+1)).map (jJ l)) (wrap64 ((K:Int) - (ws.length:Int))) (q:Int) (bH.first ws (q:Int)) else some false).bind R)=R (pI l d0 ws q):=by
   intro α R;rw[← Option.bind_assoc,hs,ahy]
  unfold bH.lp;rw[ak aa,hs2,eE (i:=q) aa];rw[aic]at hb ⊢
  by_cases c:pI l d0 ws q=true
  ·rw[ahC c,ahD,ahu]at hb
   rw[ahC c,ahD,ak c,ak aa,hF q rE xs aa,ahy,ih (q+1) _ aa (by rw[ahu];omega),ahm]
  ·rw[ahA c]at hb ⊢
   rw[aj c,ih (q+1) _ aa hb]

theorem goC (K:Nat) (hK:K≤12): ∀(d:Nat) (ws:List Int) (xs:List (List Int)),(ws.length=0∨Ns l ws)→ws.length+d=K→xs.length+(tH l d ws).length≤400→
  bH.go n l ((ag2 (K+1)).map (jJ l)) (K:Int) d ws xs=some (xs++tH l d ws):=by
 obtain⟨g1,g2,g3⟩:=gG h;intro d
 induction d with
 | zero=>
  intro ws xs hw hl hb;have hc:mS.f ws=some ws:=by
   unfold mS.f;simp
   omega
  show(mS.f ws).bind _=_
  rw[hc,ahy,ak aa]
  rfl
 | succ d ih=>
  intro ws xs hw hl hb
  show(kF.f n l).bind _=_
  unfold kF.f;rw[ahy,bN (x:=2*(l.length:Int)) aa aa,show(2*(l.length:Int)).toNat=2*l.length by omega];have e:tH l (d+1) ws=((ahS 0 (2*l.length)).filter (pI l d ws)).flatMap (fun q:Nat=>tH l d (ws++[(q:Int)])):=by
   rw[← ah3]
   rfl
  rw[e]at hb ⊢;refine lpC h K d _ (fun q:Nat=>tH l d (ws++[(q:Int)])) ws hw hl hK (fun q hq xs hx=>ih _ _ (.inr ⟨?_, ?_⟩) (by rw[ahu,ahE];omega) hx) (2*l.length) 0 xs aa hb
  ·have:=Bq l (ws:=ws) rfl hq
   rw[ahu];exact this
  ·rcases hw with hw|⟨_,a,ha,hfa⟩
   ·have:ws= []:=aih hw
    subst this;refine⟨q,hq, ?_⟩;have:rd [(q:Int)] ((0:Nat):Int)=(q:Int):=by rw[gz bQ];rfl
    exact this
   ·by_cases c:ws.length=0
    ·have:ws= []:=aih c
     subst this;refine⟨q,hq, ?_⟩;have:rd [(q:Int)] ((0:Nat):Int)=(q:Int):=by rw[gz bQ];rfl
     exact this
    ·exact⟨a,ha,by rw[M8 ws _ aa,hfa]⟩

theorem aaz (k:Nat) (hk:1≤k∧k≤12) (U7:Ev (fun f=>qb.f f n l (k:Int)) (dO l (k - 1))):Ev (fun f=>bH.f f n l (k:Int)) (if dO l (k - 1)>400 then ([],false) else (gP l k,true)):=by
 obtain⟨g1,g2,g3⟩:=gG h;unfold bH.f
 by_cases c:dO l (k - 1)>400
 ·rw[ak c]
  exact bu U7 (bz c (bD _))
 ·rw[aj c]
  have h2:=DY (2*(l.length:Int)) aa aa;rw[show(2*(l.length:Int)).toNat=2*l.length by omega,aar]at h2;have hE:=uR h;rw[Gp]at hE;have h3:=l0M (2*l.length) aa (2*l.length) 0 aa;rw[aax]at h3;have h4:Ev (fun f=>bH.lw f (ofFn (2*l.length) (W l)) (k:Int) (k+1) 0 [jJ l 0]) ((ag2 (k+1)).map (jJ l)):=lwM h k hk.2 k 0 aa;have h5:=goC h k hk.2 k [] [] (.inl rfl) bQ (by
   rw[Na l k hk.1];have:=Eg l g3 k hk.1
   show 0+_≤400
   omega)
  rw[Na l k hk.1]at h5;refine bu U7 (cB c ?_);unfold kF.f;refine bu (bD _) ?_;rw[bN (x:=2*(l.length:Int)) aa aa];refine bu h2 (bu hE ?_);rw[Nm];have h3':bH.l0 ((2*l.length:Nat):Int) (2*l.length+1) 0 (qi (2*l.length) 0)=some (jJ l 0):=h3;rw[h3',agG];refine bu (bD _) (bu h4 (bz aa ?_));rw[h5];exact bu (bD _) (bD _)

end
theorem aaA {n:Int} {l:List (List Int)} (h:fH n l=true) (k:Nat) (hk:1≤k∧k≤12):Ev (fun f=>qb.f f n l (k:Int)) (dO l (k - 1)):=by
 obtain⟨g1,g2,g3⟩:=gG h;have ht:=D4 g3 k hk.2;have hl:=zk l k;have e:rd (traces l k) ((k - 1:Nat):Int)=dO l (k - 1):=zj _ aa;unfold qb.f;rw[bN (x:=(k:Int) - 1) aa aa,show(k:Int) - 1=((k - 1:Nat):Int) by omega]
 repeat (first|with_reducible exact bD _ |dsimp only |with_reducible refine bu (uR h) ?_ |with_reducible refine bu (ht) ?_ |refine dx ?_ |refine dz ?_ |simp only[bne_self_eq_false,agC,agD,agB,agE]|rw[bN aa aa]|with_reducible exact(uR h)|with_reducible exact(ht)|((with_reducible refine bK (congrArg some ?_));rfl))
 exact bK (congrArg some e)

theorem Hj (n:Int) (l:List (List Int)) (a:Int) (hl:Mod l):Ev (fun k=>tI.f k n l a) (gL n l a 1):=by
 have h1:=zh n l hl;unfold tI.f xN.f gL;rw[Gz]
 by_cases hg:fH n l=true
 ·rw[hg]at h1
  rw[ak hg]
  by_cases c:1≤a∧a≤12
  ·rw[aV c,ak c]
   exact bu h1 (bz rfl (bu (bu (bD _) (bD _)) (bz rfl (bD _))))
  ·rw[cj c,aj c]
   exact bu h1 (bz rfl (bu (bu (bD _) (bD _)) (cB aG (bD _))))
 ·rw[ahc]at hg
  rw[hg]at h1;rw[aj (by rw[hg];decide)];exact bu h1 (cB aG (bD _))

def tD (l:List (List Int)) (k:Nat):List (List Int)×Int:=if dO l (k - 1)>400 then ([],3) else (gP l k,0)

theorem GS {l:List (List Int)} {k:Nat} (hk:1≤k): ∀x∈gP l k,good l k x:=by
 intro x hx;unfold gP at hx;obtain⟨a,ha,hx⟩:=ahL.1 hx;rw[show jj l a (k - 1) (kg l k a)=fY l k a (k - 1) from zy l k a (k - 1) 0 aa]at hx;have:=zz l k a (ahv.1 ha) (k - 1) x hx;rw[show k - 1+1=k by omega]at this;exact this

theorem aaB {n:Int} {l:List (List Int)} (h:fH n l=true) (k:Nat) (hk:1≤k∧k≤12):Mod (tD l k).1:=by
 obtain⟨g1,g2,g3⟩:=gG h;unfold tD
 by_cases c:dO l (k - 1)>400
 ·rw[ak c]
  exact⟨by simp,fun r hr=>absurd hr bQ⟩
 ·rw[aj c]
  have:=Eg l g3 k hk.1;exact⟨by show(gP l k).length≤_;omega,fun r hr=>by have:=(GS hk.1 r hr).1;omega⟩

theorem aaC {n:Int} {l:List (List Int)} (h:fH n l=true) (k:Nat) (hk:1≤k∧k≤12) (hl:Mod l):Ev (fun f=>tJ.f f n l (k:Int)) (tD l k):=by
 have h1:=xh n l k 1 hl;have e:gL n l k 1=0:=by
  unfold gL;rw[ak h,ak ⟨by omega,by omega⟩]
 rw[e]at h1;have h2:=Nl h k hk;unfold tJ.f tD;unfold Ei at h2
 by_cases c:dO l (k - 1)>400
 ·rw[ak c]at h2 ⊢
  exact bu h1 (bz rfl (bu h2 (cB aG (bD _))))
 ·rw[aj c]at h2 ⊢
  exact bu h1 (bz rfl (bu h2 (bz rfl (bD _))))

theorem Nu {n:Int} {l:List (List Int)} (h:fH n l=true) (k:Nat) (hk:1≤k∧k≤12) (hl:Mod l):Ev (fun f=>oX.f f n l (k:Int)) (tD l k):=by
 have h1:=Hj n l k hl;have e:gL n l k 1=0:=by
  unfold gL;rw[ak h,ak ⟨by omega,by omega⟩]
 rw[e]at h1;have h2:=aaz h k hk (aaA h k hk);unfold oX.f tD
 by_cases c:dO l (k - 1)>400
 ·rw[ak c]at h2 ⊢
  exact bu h1 (bz rfl (bu h2 (cB aG (bD _))))
 ·rw[aj c]at h2 ⊢
  exact bu h1 (bz rfl (bu h2 (bz rfl (bD _))))

def Bh (n:Int) (l:List (List Int)) (a:Int):List (List Int)×Int:=if gL n l a 1=0 then tD l a.toNat else ([],gL n l a 1)

theorem Mh (n:Int) (l:List (List Int)) (a:Int) (hl:Mod l):Mod (Bh n l a).1∧Ev (fun k=>tJ.f k n l a) (Bh n l a)∧Ev (fun k=>oX.f k n l a) (Bh n l a):=by
 unfold Bh
 by_cases c:gL n l a 1=0
 ·obtain⟨hg,ha,hb⟩:=tB c
  obtain⟨k,rfl⟩:=agM (show 0≤a by omega);rw[ak c,agG];exact⟨aaB hg k aa,aaC hg k aa hl,Nu hg k aa hl⟩
 ·have h1:=xh n l a 1 hl
  have h2:=Hj n l a hl;rw[aj c];unfold tJ.f oX.f;exact⟨⟨by simp,fun r hr=>absurd hr bQ⟩,bu h1 (cB c (bD _)),bu h2 (cB c (bD _))⟩

theorem Hl: ∀(a b c:List Int),bf a b=true→bf b c=true→bf a c=true
 | x :: xs,y :: ys,z :: zs=>by
  unfold bf;intro h1 h2
  by_cases c1:x=y
  ·subst c1
   rw[ak rfl]at h1
   by_cases c2:x=z
   ·subst c2
    rw[ak rfl]at h2;rw[ak rfl];exact Hl xs ys zs h1 h2
   ·rw[aj c2]at h2
    rw[aj c2];exact h2
  ·rw[aj c1]at h1
   have h1:=of_decide_eq_true h1
   by_cases c2:y=z
   ·subst c2
    rw[aj c1];exact aV h1
   ·rw[aj c2]at h2
    have h2:=of_decide_eq_true h2;rw[aj aa];exact aV aa
 | [],_,_=>by intro h1;simp[bf]at h1
 | _ :: _,[],_=>by intro h1;simp[bf]at h1
 | _ :: _,_ :: _,[]=>by intro _ h2;simp[bf]at h2

theorem least_le (w:List Int): ∀(d k:Nat) (b:List Int),bf w b=false→bf w (least w d k b)=false
 | 0,_,_,h=>h
 | d+1,k,b,h=>by
  unfold least
  by_cases c:bf (turn w k) b=true
  ·rw[ak c]
   refine least_le w d (k+1) _ ?_;cases e:bf w (turn w k) with
   | false=>rfl
   | true=>
    have:=Hl _ _ _ e c;rw[this]at h;cases h
  ·rw[aj c]
   exact least_le w d (k+1) b h

theorem aaD (w:List Int):bf (iD w) w=decide (iD w≠w):=by
 have h1:=least_le w (w.length - 1) 1 w (Ec w);have h2:=GZ (iD w) w (G0 w _ _ _ rfl)
 show bf (iD w) w=_
 have h3:bf w (iD w)=false:=h1;rw[h3,Bool.or_false]at h2;exact h2

theorem Nv (l:List (List Int)) (w:List Int): ∀(d i:Nat),steps l w d i=true↔∀j,i≤j→j<i+d→next l (rd w ((j - 1:Nat):Int)).toNat (rd w (j:Int)).toNat=true
 | 0,i=>by
  unfold steps;simp;intro j h1 h2
  omega
 | d+1,i=>by
  unfold steps;rw[ahx,Nv l w d (i+1)]
  constructor
  ·rintro⟨h1,h2⟩ j hj hj2
   by_cases e:j=i
   ·subst e
    exact h1
   ·exact h2 j aa aa
  ·intro h
   exact⟨h i (agO _) aa,fun j hj hj2=>h j aa aa⟩

theorem Ho (ws:List Int) (q:Int) {j:Nat} (hj:j<ws.length):rd (ws++[q]) (j:Int)=rd ws (j:Int):=by
 rw[gz (by simp;omega),gz hj,ahU hj]

theorem aaE {l:List (List Int)} {ws:List Int} (h:oU l ws=true) (hl:ws.length<12) {q:Nat} (hq:q<2*l.length) (hn:next l (dG ws) q=true):oU l (ws++[(q:Int)])=true:=by
 obtain⟨h1,h12,hd,hs⟩:=xM h;unfold oU;rw[ahx,ahx,decide_eq_true_iff];refine⟨by simp;omega, ?_, ?_⟩
 ·unfold qP at hd ⊢
  rw[List.all_append,hd];simp
  omega
 ·rw[Nv]at hs ⊢
  intro j hj hj2;rw[ahu,ahE]at hj2
  by_cases e:j=ws.length
  ·subst e
   rw[Bo,Ho ws _ (show ws.length - 1<ws.length by omega),agG];exact hn
  ·rw[Ho ws _ (show j<ws.length by omega),Ho ws _ (show j - 1<ws.length by omega)]
   exact hs j hj aa

theorem aaF {l:List (List Int)} {a:Nat} (ha:a<2*l.length):oU l [(a:Int)]=true:=by
 unfold oU qP;simp[steps]
 omega

theorem Nw {l:List (List Int)} {k a:Nat} (hk:1≤k∧k≤12) (ha:a<2*l.length): ∀t,t≤k - 1→∀x∈fY l k a t,oU l x=true
 | 0,_=>by
  intro x hx;unfold fY kg at hx
  split at hx
  ·simp only[ahV]at hx
   subst hx;exact aaF ha
  ·simp at hx
 | t+1,ht=>by
  intro x hx;have hx:=(ahw.1 hx).1;simp only[longer,ahL]at hx;obtain⟨ws,hw,hx⟩:=hx;have h1:=Nw hk ha t aa ws hw;have hg:=(zz l k a ha t ws hw).1;simp only[ext1,ahH,ahw,ahv]at hx;obtain⟨q,⟨hq,hn⟩,rfl⟩:=hx;exact aaE h1 aa hq hn

theorem Mp {l:List (List Int)} {k:Nat} (hk:1≤k∧k≤12): ∀x∈gP l k,oU l x=true:=by
 intro x hx;unfold gP at hx;obtain⟨a,ha,hx⟩:=ahL.1 hx;rw[show jj l a (k - 1) (kg l k a)=fY l k a (k - 1) from zy l k a (k - 1) 0 aa]at hx;exact Nw hk (ahv.1 ha) (k - 1) (agO _) x hx

def lB (l:List (List Int)) (w:List Int):Bool:=(qh w (w.length - 1) 1 && sE l w) && decide (w=iD w)
section
variable {n:Int} {l:List (List Int)} (h:fH n l=true) (L:List (List Int)) (hL: ∀w∈L,oU l w=true) (vm:L.length≤400)
include h hL vm

theorem aaG: ∀(d i:Nat) (acc:List (List Int)),i+d=L.length→acc.length≤i→Ev (fun f=>iW.l0 f L acc (i:Int) n l) (acc++(L.drop i).filter (lB l),0):=by
 intro d
 induction d with
 | zero=>
  intro i acc hi ha;refine bX ?_;simp only[iW.l0];rw[ahe aa,aif,ahk];exact cB aa (bD _)
 | succ d ih=>
  intro i acc hi ha;have hi':i<L.length:=by omega
  have hw:=hL L[i] (ag5 hi');obtain⟨w1,kW,_,_⟩:=xM hw;have hrow:aH L (i:Int)=L[i]:=by
   show L.getD (i:Int).toNat []=L[i]
   rw[agG,aho,ahT hi']
   rfl
  have hp:=UN h hw;have hle:=UJ L[i] aa aa;have U7:=Ed (iD L[i]) L[i] (G0 _ _ _ _ rfl) (by rw[show(iD L[i]).length=L[i].length from G0 _ _ _ _ rfl];omega);rw[aaD]at U7;rw[ahd hi'];refine bX ?_;simp only[iW.l0];rw[hrow,eE (i:=i) aa];refine bz aa (bz aa (bu hp ?_));cases c:(qh L[i] (L[i].length - 1) 1 && sE l L[i]) with
  | false=>
   have e:lB l L[i]=false:=by unfold lB;rw[c,ahs]
   rw[ahA (by rw[e];decide)];exact cB aG (ih (i+1) acc aa aa)
  | true=>
   refine bz rfl (bu hle (bu U7 ?_))
   by_cases c2:L[i]=iD L[i]
   ·have e:lB l L[i]=true:=by unfold lB;rw[c,aht];exact aV c2
    have h1:=ih (i+1) (acc++[L[i]]) aa (by rw[ahu,ahE];omega);rw[ahm]at h1;have e2:decide (iD L[i]≠L[i])=false:=by simp[c2.symm]
    rw[ahC e,e2];exact cB aG (bz aa h1)
   ·have e:lB l L[i]=false:=by unfold lB;rw[c,aht];exact cj c2
    have e2:decide (iD L[i]≠L[i])=true:=by simpa using fun z=>c2 (Eq.symm z)
    rw[ahA (by rw[e];decide),e2];exact bz rfl (ih (i+1) acc aa aa)

theorem aaH: ∀(d i:Nat) (acc:List (List Int)),i+d=L.length→acc.length≤i→Ev (fun f=>gB.l0 f L acc (L.length:Int) (i:Int) n l) (acc++(L.drop i).filter (lB l),0):=by
 intro d
 induction d with
 | zero=>
  intro i acc hi ha;refine bX ?_;simp only[gB.l0];rw[ahe aa,aif,ahk];exact cB aa (bD _)
 | succ d ih=>
  intro i acc hi ha;have hi':i<L.length:=by omega
  have hw:=hL L[i] (ag5 hi');obtain⟨w1,kW,_,_⟩:=xM hw;have hrow:aH L (i:Int)=L[i]:=by
   show L.getD (i:Int).toNat []=L[i]
   rw[agG,aho,ahT hi']
   rfl
  have hp:=Mq h hw;have hle:=UK L[i] aa aa;have heq:=MM L[i] (iD L[i]) aa;rw[ahd hi'];refine bX ?_;simp only[gB.l0];rw[hrow,eE (i:=i) aa];refine bz aa (bz aa (bz aa (bu hp ?_)));cases c:(qh L[i] (L[i].length - 1) 1 && sE l L[i]) with
  | false=>
   have e:lB l L[i]=false:=by unfold lB;rw[c,ahs]
   rw[ahA (by rw[e];decide)];exact cB aG (ih (i+1) acc aa aa)
  | true=>
   refine bz rfl (bu hle (bu heq ?_))
   by_cases c2:L[i]=iD L[i]
   ·have e:lB l L[i]=true:=by unfold lB;rw[c,aht];exact aV c2
    have h1:=ih (i+1) (acc++[L[i]]) aa (by rw[ahu,ahE];omega);rw[ahm]at h1;rw[ahC e];exact bz (aV c2) (bz aa h1)
   ·have e:lB l L[i]=false:=by unfold lB;rw[c,aht];exact cj c2
    rw[ahA (by rw[e];decide)];exact cB (by simpa using c2) (ih (i+1) acc aa aa)

end

def xF (n:Int) (l:List (List Int)) (a:Int):List (List Int)×Int:=if gL n l a 1=0 then (if dO l (a.toNat - 1)>400 then ([],3) else ((gP l a.toNat).filter (lB l),0)) else ([],gL n l a 1)

theorem TL (n:Int) (l:List (List Int)) (a:Int) (hl:Mod l):Mod (xF n l a).1∧Ev (fun k=>iW.f k n l a) (xF n l a)∧Ev (fun k=>gB.f k n l a) (xF n l a):=by
 have hnil:Mod ([]:List (List Int)):=⟨by simp,fun r hr=>absurd hr bQ⟩;unfold iW.f gB.f xF
 by_cases c:gL n l a 1=0
 ·obtain⟨hg,ha,hb⟩:=tB c
  obtain⟨g1,g2,g3⟩:=gG hg;obtain⟨k,rfl⟩:=agM (show 0≤a by omega);have hk:1≤k∧k≤12:=by omega
  rw[ak c,agG];have h1:=xh n l k 1 hl;rw[c]at h1;have h2:=Nl hg k hk;have h3:=Nu hg k hk hl;unfold Ei at h2;unfold tD at h3
  by_cases c2:dO l (k - 1)>400
  ·rw[ak c2]at h2 h3
   rw[ak c2];exact⟨hnil,bu h1 (bz rfl (bu h2 (cB aG (bD _)))),bu h3 (cB aG (bD _))⟩
  ·rw[aj c2]at h2 h3
   rw[aj c2];have hlen:(gP l k).length≤400:=by
    have:=Eg l g3 k hk.1
    omega
   have hW:=Mp (l:=l) hk;have h4:=aaG hg (gP l k) hW hlen (gP l k).length 0 [] aa bQ;have h5:=aaH hg (gP l k) hW hlen (gP l k).length 0 [] aa bQ;refine⟨⟨?_,fun r hr=> ?_⟩,bu h1 (bz rfl (bu h2 (bz rfl h4))),bu h3 (bz rfl h5)⟩
   ·have:=aie (lB l) (gP l k)
    show((gP l k).filter (lB l)).length≤_
    omega
   ·have:=(GS hk.1 r (ahw.1 hr).1).1
    omega
 ·have h1:=xh n l a 1 hl
  have h2:=Hj n l a hl;unfold oX.f;rw[aj c];refine⟨hnil,bu h1 (cB c (bD _)),bu (bu h2 (cB c (bD _))) (cB c (bD _))⟩

def fw (w:List Int) (i:Nat):Int:=rd w ((i % w.length:Nat):Int)

theorem oY {w:List Int} {i:Nat} (h:i<w.length):fw w i=rd w (i:Int):=by
 unfold fw;rw[ag9 h]

theorem tK (w:List Int) (i:Nat):fw w (i+w.length)=fw w i:=by
 unfold fw;rw[Nat.add_mod_right]

theorem Ek (w:List Int) (i:Nat):fw w (i % w.length)=fw w i:=by
 unfold fw;rw[Nat.mod_mod]

theorem Hq {a b:List Int} (hab:a.length=b.length) (h: ∀i,fw a i=fw b i):a=b:=by
 refine Bj hab (fun j hj=> ?_);have:=h j;rw[oY hj,oY aa]at this;exact this

theorem aaI (k:Nat) (f:Nat→Int) (i:Nat) (hk:0<k):fw (rowOf k f) i=f (i % k):=by
 unfold fw;rw[jB,nK f (ahB _ hk)]

theorem Nx {α:Type} [BEq α] [LawfulBEq α]: ∀(a b:List α),a.Nodup→(∀x∈a,x∈b)→a.length≤b.length:=by
 intro a
 induction a with
 | nil=>intro b _ _;exact Nat.zero_le _
 | cons x a ih=>
  intro b hn hm;have h1:=hm x bQ;have h2:=ih (b.erase x) (ahJ.1 hn).2 (fun y hy=>(List.mem_erase_of_ne (fun e=>(ahJ.1 hn).1 (by rw[← e];exact hy))).2 (hm y (by simp[hy])));have h3:=List.length_erase_of_mem h1;have h4:=List.length_pos_of_mem h1;rw[agB]
  omega

theorem Ny {α β:Type} [BEq β] [LawfulBEq β] (a:List α) (b:List β) (f:α→β) (hn:a.Nodup) (hm: ∀x∈a,f x∈b) (hi: ∀x∈a,∀y∈a,f x=f y→x=y):a.length≤b.length:=by
 have h1:(a.map f).Nodup:=by
  show ah6 _ _
  rw[List.pairwise_map];clear hm
  induction a with
  | nil=>exact List.Pairwise.nil
  | cons x a ih=>
   refine List.Pairwise.cons (fun y hy e=> ?_) (ih (ahJ.1 hn).2 (fun x hx y hy=>hi x (by simp[hx]) y (by simp[hy])));have:=hi x bQ y (by simp[hy]) e;exact(ahJ.1 hn).1 (this▸hy)
 have:=Nx (a.map f) b h1 (fun y hy=>by
  obtain⟨x,hx,rfl⟩:=ahH.1 hy;exact hm x hx)
 rw[agZ]at this;exact this

section
variable (l:List (List Int))

def qj (a:Nat):Nat→List (List Int)
 | 0=>[[(a:Int)]]
 | t+1=>longer l (qj a t)

theorem Bw (ws x:List Int):x∈ext1 l ws↔∃r,r<2*l.length∧next l (dG ws) r=true∧x=ws++[(r:Int)]:=by
 unfold ext1;rw[ahH]
 constructor
 ·rintro⟨r,h,rfl⟩
  rw[ahw,ahv]at h;exact⟨r,h.1,h.2,rfl⟩
 ·rintro⟨r,h1,h2,rfl⟩
  exact⟨r,ahw.2 ⟨ahv.2 h1,h2⟩,rfl⟩

theorem aaJ (L:List (List Int)) (x:List Int):x∈longer l L↔∃ws,ws∈L∧∃r,r<2*l.length∧next l (dG ws) r=true∧x=ws++[(r:Int)]:=by
 unfold longer;rw[ahL]
 constructor
 ·rintro⟨ws,h1,h2⟩
  exact⟨ws,h1,(Bw l ws x).1 h2⟩
 ·rintro⟨ws,h1,h2⟩
  exact⟨ws,h1,(Bw l ws x).2 h2⟩

theorem Hr {a:Nat} (ha:a<2*l.length): ∀t,∀x∈qj l a t,good l (t+1) x
 | 0=>by
  intro x hx;rw[show qj l a 0= [[(a:Int)]] from rfl,ahV]at hx;subst hx;exact Bq l (ws:=[]) rfl ha
 | t+1=>Ef l (Hr ha t)

theorem aaK (p q:List Int→Bool) (h: ∀ws r,r<2*l.length→next l (dG ws) r=true→q (ws++[(r:Int)])=true→p ws=true): ∀L:List (List Int),(longer l (L.filter p)).filter q=(longer l L).filter q:=by
 intro L
 induction L with
 | nil=>rfl
 | cons ws L ih=>
  have e: ∀A:List (List Int),longer l (ws :: A)=ext1 l ws++longer l A:=fun A=>by unfold longer;rw[ahD]
  by_cases c:p ws=true
  ·rw[ahC c,e,e,ahK,ahK,ih]
  ·rw[ahA c,e,ahK,ih]
   have:(ext1 l ws).filter q= []:=List.filter_eq_nil_iff.2 (fun x hx hq=>by
    obtain⟨r,h1,h2,rfl⟩:=(Bw l ws x).1 hx;exact c (h ws r h1 h2 hq))
   rw[this,ahN]

theorem aaL (k a:Nat) (hk:1≤k): ∀t,t≤k - 1→fY l k a t=(qj l a t).filter (fun w=>eI l (k - t) (dG w) a):=by
 intro t
 induction t with
 | zero=>
  intro _
  show kg l k a=ahR _ [[(a:Int)]]
  have:dG [(a:Int)]=a:=rD [] a;unfold kg
  by_cases c:eI l k a a=true
  ·rw[ak c,ahC (by simp only[this];exact c)]
   rfl
  ·rw[aj c,ahA (by simp only[this];exact c)]
   rfl
 | succ t ih=>
  intro ht
  show(longer l (fY l k a t)).filter (fun ws=>eI l (k - 2 - t+1) (dG ws) a)=_
  rw[ih aa,aaK l _ _ (fun ws r hr hn hq=>by
   have hq:eI l (k - 2 - t+1) (dG (ws++[(r:Int)])) a=true:=hq;rw[rD]at hq
   show eI l (k - t) (dG ws) a=true
   rw[show k - t=(k - 2 - t+1)+1 by omega,tG];exact⟨r,hr,hn,hq⟩),show k - 2 - t+1=k - (t+1) by omega]
  rfl

theorem aaM (a b:Nat) (ha:a<2*l.length):eI l 1 b a=next l b a:=by
 rw[Bool.eq_iff_iff,tG]
 constructor
 ·rintro⟨r,_,h1,h2⟩
  have h2:r=a:=by simpa [eI] using h2
  rw[← h2];exact h1
 ·intro h
  exact⟨a,ha,h,by simp[eI]⟩

theorem Ht (k:Nat) (hk:1≤k):gP l k=(ag2 (2*l.length)).flatMap (fun a=>(qj l a (k - 1)).filter (fun w=>next l (dG w) a)):=by
 unfold gP;refine Ee (fun a ha=> ?_);rw[show jj l a (k - 1) (kg l k a)=fY l k a (k - 1) from zy l k a (k - 1) 0 aa,aaL l k a hk (k - 1) (agO _),show k - (k - 1)=1 by omega];refine aid (fun w _=>aaM l a (dG w) (ahv.1 ha))

theorem aaN {a:Nat} (ha:a<2*l.length): ∀t {q:Nat},q<2*l.length→cnt q (qj l a t)=vec l (2*l.length) a t q:=by
 intro t
 induction t with
 | zero=>
  intro q hq
  show(if dG [(a:Int)]=q then 1 else 0)+0=(if q=a then 1 else 0)
  have:dG [(a:Int)]=a:=rD [] a;rw[this]
  by_cases c:a=q
  ·rw[ak c,ak c.symm];rfl
  ·rw[aj c,aj (fun z=>c z.symm)];rfl
 | succ t ih=>
  intro q hq
  show cnt q (longer l (qj l a t))=Sm (2*l.length) (fun r=>vec l (2*l.length) a t r*W l r q)
  rw[G7 l _ (Hr l ha t) hq];exact cR (fun r hr=>by rw[ih hr])

theorem aaO (a:Nat) (L:List (List Int)) (h: ∀ws∈L,dG ws<2*l.length):((L.filter (fun w=>next l (dG w) a)).length:Int)=Sm (2*l.length) (fun r=>cnt r L*W l r a):=by
 induction L with
 | nil=>
  show(0:Int)=Sm (2*l.length) (fun r=>0*W l r a)
  rw[cR (g:=fun _=>0) (fun r _=>agA _),kM]
 | cons ws L ih=>
  have e:Sm (2*l.length) (fun r=>cnt r (ws :: L)*W l r a)=Sm (2*l.length) (fun r=>(if r=dG ws then 1 else 0)*W l r a+cnt r L*W l r a):=cR (fun r _=>by
   show((if dG ws=r then (1:Int) else 0)+cnt r L)*W l r a=_
   rw[agV]
   by_cases c:dG ws=r
   ·rw[ak c,ak c.symm]
   ·rw[aj c,aj (fun z=>c z.symm)])
  rw[e,iT,Bl _ (fun r=>W l r a) (h ws bQ),← ih (fun w hw=>h w (by simp[hw]))]
  by_cases c:next l (dG ws) a=true
  ·rw[ahC (p:=fun w=>next l (dG w) a) c,agB]
   unfold W;rw[ak c]
   omega
  ·rw[ahA (p:=fun w=>next l (dG w) a) c]
   unfold W;rw[aj c]
   omega

theorem aaP (f:Nat→List (List Int)): ∀m,(((ag2 m).flatMap f).length:Int)=Sm m (fun a=>((f a).length:Int)):=by
 intro m
 induction m with
 | zero=>rfl
 | succ m ih=>
  rw[ahQ,ahI,ahu,ahD,List.flatMap_nil,ahk]
  show _=Sm m (fun a=>((f a).length:Int))+((f m).length:Int)
  rw[← ih]
  omega

theorem LP (k:Nat) (hk:1≤k):((gP l k).length:Int)=dO l (k - 1):=by
 rw[Ht l k hk,aaP];unfold dO tr;refine cR (fun a ha=> ?_);rw[aaO l a _ (fun ws hw=>(Hr l ha _ ws hw).2.1),← Eb l _ ha]
 show _=Sm (2*l.length) (fun r=>vec l (2*l.length) a (k - 1) r*W l r a)
 exact cR (fun r hr=>by rw[aaN l ha (k - 1) hr])

theorem Em {a:Nat} (ha:a<2*l.length): ∀(t:Nat) (w:List Int),w∈qj l a t↔w.length=t+1∧rd w 0=(a:Int)∧(∀i:Nat,i≤t→∃q:Nat,q<2*l.length∧rd w (i:Int)=(q:Int))∧∀i:Nat,i<t→next l (rd w (i:Int)).toNat (rd w ((i+1:Nat):Int)).toNat=true:=by
 intro t
 induction t with
 | zero=>
  intro w;rw[show qj l a 0= [[(a:Int)]] from rfl,ahV]
  constructor
  ·rintro rfl
   refine⟨rfl,rfl,fun i hi=>⟨a,ha, ?_⟩,fun i hi=>absurd hi aa⟩;obtain rfl:i=0:=by omega
   rfl
  ·rintro⟨h1,h2,_,_⟩
   match w,h1 with
   | [x],_=>exact congrArg (fun z=>[z]) h2
 | succ t ih=>
  intro w;rw[show qj l a (t+1)=longer l (qj l a t) from rfl,aaJ]
  constructor
  ·rintro⟨ws,hw,r,hr,hn,rfl⟩
   obtain⟨h1,h2,h3,h4⟩:=(ih ws).1 hw;have left: ∀i:Nat,i<ws.length→rd (ws++[(r:Int)]) (i:Int)=rd ws (i:Int):=fun i hi=>by
    rw[gz (by simp;omega),gz hi,ahU hi]
   have last:rd (ws++[(r:Int)]) ((t+1:Nat):Int)=(r:Int):=by rw[← h1];exact Bo ws r
   refine⟨by simp[h1],(left 0 aa).trans h2,fun i hi=> ?_,fun i hi=> ?_⟩
   ·by_cases c:i=t+1
    ·subst c;exact⟨r,hr,last⟩
    ·obtain⟨q,hq,e⟩:=h3 i aa
     exact⟨q,hq,(left i aa).trans e⟩
   ·by_cases c:i=t
    ·subst c
     rw[last,left i aa,agG];unfold dG at hn;rw[h1,agK]at hn;exact hn
    ·rw[left i aa,left (i+1) aa]
     exact h4 i aa
  ·rintro⟨h1,h2,h3,h4⟩
   obtain⟨r,hr,er⟩:=h3 (t+1) (agO _);have left: ∀i:Nat,i<t+1→rd (w.take (t+1)) (i:Int)=rd w (i:Int):=fun i hi=>by
    rw[gz (by rw[ahG];omega),gz aa,aii]
   have e:w=w.take (t+1)++[(r:Int)]:=by
    refine Bj (by simp;omega) (fun j hj=> ?_)
    by_cases c:j=t+1
    ·subst c
     have:=Bo (w.take (t+1)) (r:Int);rw[ahG,show min (t+1) w.length=t+1 by omega]at this;rw[this,er]
    ·rw[gz (xs:=w.take (t+1)++[(r:Int)]) (by simp;omega),ahU (by rw[ahG];omega),aii,gz hj]
   have hl:(w.take (t+1)).length=t+1:=by rw[ahG];omega
   refine⟨w.take (t+1),(ih _).2 ⟨hl,(left 0 aa).trans h2,fun i hi=> ?_,fun i hi=> ?_⟩,r,hr, ?_,e⟩
   ·obtain⟨q,hq,e2⟩:=h3 i aa
    exact⟨q,hq,(left i aa).trans e2⟩
   ·rw[left i aa,left (i+1) aa]
    exact h4 i aa
   ·have:=h4 t aa
    rw[er,agG]at this;unfold dG;rw[hl,agK,left t aa];exact this

theorem aaQ (a:Nat): ∀t,(qj l a t).Nodup:=by
 intro t
 induction t with
 | zero=>exact ahJ.2 ⟨by simp,List.nodup_nil⟩
 | succ t ih=>
  show ah6 _ (List.flatMap (ext1 l) (qj l a t))
  rw[List.pairwise_flatMap];refine⟨fun ws _=> ?_,aij (fun {x y} hxy u hu v hv e=>hxy ?_) ih⟩
  ·unfold ext1
   rw[List.pairwise_map];exact aij (fun {x y} hxy e=>hxy (by
    have:=List.append_cancel_left e;simp only[List.cons.injEq,and_true]at this
    omega)) (ahW _ aik)
  ·obtain⟨r,_,_,rfl⟩:=(Bw l x u).1 hu
   obtain⟨s,_,_,rfl⟩:=(Bw l y v).1 hv;exact(List.append_inj' e rfl).1

def CW (k:Nat) (w:List Int):Prop:=w.length=k∧∀i,(∃q:Nat,q<2*l.length∧fw w i=(q:Int))∧next l (fw w i).toNat (fw w (i+1)).toNat=true

theorem En (k:Nat) (hk:1≤k) (w:List Int):w∈gP l k↔CW l k w:=by
 rw[Ht l k hk,ahL]
 constructor
 ·rintro⟨a,ha,hw⟩
  rw[ahv]at ha;rw[ahw]at hw;obtain⟨h1,h2,h3,h4⟩:=(Em l ha (k - 1) w).1 hw.1;have hn:=hw.2;rw[show k - 1+1=k by omega]at h1;refine⟨h1,fun i=>⟨?_, ?_⟩⟩
  ·have hi:=ahB i (show 0<w.length by omega)
   obtain⟨q,hq,e⟩:=h3 (i % w.length) aa;exact⟨q,hq,e⟩
  ·have hi:=ahB i (show 0<w.length by omega)
   rw[← Ek w i,← Ek w (i+1),show(i+1) % w.length=(i % w.length+1) % w.length by rw[Nat.mod_add_mod],oY hi]
   by_cases c:i % w.length+1<w.length
   ·rw[ag9 c,oY c]
    exact h4 _ aa
   ·rw[show i % w.length+1=w.length by omega,ag8,oY aa,show i % w.length=w.length - 1 by omega]
    unfold dG at hn
    show next l _ (rd w 0).toNat=true
    rw[h2,agG];exact hn
 ·rintro⟨h1,h2⟩
  obtain⟨⟨a,ha,ea⟩,_⟩:=h2 0;rw[oY aa]at ea;refine⟨a,ahv.2 ha,ahw.2 ⟨(Em l ha (k - 1) w).2 ⟨by omega,ea,fun i hi=> ?_,fun i hi=> ?_⟩, ?_⟩⟩
  ·obtain⟨q,hq,e⟩:=(h2 i).1
   rw[oY aa]at e;exact⟨q,hq,e⟩
  ·have:=(h2 i).2
   rw[oY aa,oY aa]at this;exact this
  ·have h3:=(h2 (k - 1)).2
   rw[oY aa,show k - 1+1=0+w.length by omega,tK,oY aa,ea,agG]at h3;unfold dG;rw[h1];exact h3

theorem NA (k:Nat) (hk:1≤k):(gP l k).Nodup:=by
 rw[Ht l k hk]
 show ah6 _ _
 rw[List.pairwise_flatMap];refine⟨fun a _=>ahW _ (aaQ l a _), ?_⟩;have hr:ah6 (fun a b:Nat=>a≠b∧a<2*l.length∧b<2*l.length) (ag2 (2*l.length)):=by
  have h1:(ag2 (2*l.length)).Nodup:=aik;refine List.Pairwise.imp_of_mem (fun {a b} ha hb h=>⟨h,ahv.1 ha,ahv.1 hb⟩) h1
 refine aij (fun {a b} hab u hu v hv e=>hab.1 ?_) hr;have h1:=((Em l hab.2.1 _ u).1 (ahw.1 hu).1).2.1;have h2:=((Em l hab.2.2 _ v).1 (ahw.1 hv).1).2.1;rw[e,h2]at h1
 omega

end
theorem ql (w:List Int) {j:Nat} (hj:j≤w.length) (i:Nat):fw (turn w j) i=fw w (i+j):=by
 by_cases h0:w.length=0
 ·have:w= []:=aih h0
  subst this;obtain rfl:j=0:=by simpa using hj
  rw[Bm]
  rfl
 have key: ∀i,i<w.length→rd (turn w j) (i:Int)=fw w (i+j):=by
  intro i hi;rw[gz (by rw[lS];exact hi)];unfold turn
  by_cases c:i<w.length - j
  ·rw[ahU (by rw[ahP];exact c),List.getElem_drop,oY aa,gz aa]
   congr 1
   omega
  ·rw[aim (by rw[ahP];omega),aii,show i+j=(i+j - w.length)+w.length by omega,tK,oY aa,gz aa]
   congr 1
   rw[ahP]
   omega
 have h1:=ahB i (show 0<w.length by omega);unfold fw;rw[lS,key _ h1];unfold fw;rw[Nat.mod_add_mod]

theorem Hu (w:List Int) {i j:Nat} (hi:i≤w.length) (hj:j≤w.length) (h0:0<w.length):turn (turn w i) j=turn w ((i+j) % w.length):=by
 have hm:=ahB (i+j) h0;refine Hq (by rw[lS,lS,lS]) (fun x=> ?_);rw[ql _ (by rw[lS];exact hj),ql _ hi,ql _ aa,← Ek w (x+j+i),← Ek w (x+(i+j) % w.length),ail,show x+j+i=x+(i+j) by omega]

def rF (w:List Int) (d:Nat):Prop:=∀i,fw w (i+d)=fw w i

theorem Bx (w:List Int) {d:Nat} (hd:d≤w.length):turn w d=w↔rF w d:=by
 constructor
 ·intro h i
  rw[← ql w hd,h]
 ·intro h
  exact Hq (lS w d) (fun i=>by rw[ql w hd];exact h i)

theorem NB {w:List Int} {d:Nat} (h:rF w d): ∀q,rF w (q*d):=by
 intro q
 induction q with
 | zero=>intro i;rw[Nat.zero_mul,Nat.add_zero]
 | succ q ih=>
  intro i;rw[Nat.succ_mul,← Nat.add_assoc,h,ih]

def kn (w:List Int):Nat:=(ag2 w.length).findIdx (fun i=>turn w (i+1) == w)+1

theorem tL (w:List Int) (h0:0<w.length):1≤kn w∧kn w≤w.length∧rF w (kn w)∧∀j,1≤j→j<kn w→¬rF w j:=by
 have hx: ∃x∈ag2 w.length,(fun i=>turn w (i+1) == w) x=true:=⟨w.length - 1,ahv.2 aa,by
  show(turn w (w.length - 1+1) == w)=true
  rw[show w.length - 1+1=w.length by omega,beq_iff_eq,Bx w (agO _)];exact tK w⟩
 have h1:=List.findIdx_lt_length_of_exists hx;rw[ah7]at h1;have h2:=List.findIdx_getElem (xs:=ag2 w.length) (p:=fun i=>turn w (i+1) == w) (w:=by rw[ah7];exact h1);rw[ahf]at h2;unfold kn;refine⟨by omega,by omega,(Bx w aa).1 (eq_of_beq h2),fun j zA hj2 hp=> ?_⟩;have h3:=List.not_of_lt_findIdx (p:=fun i=>turn w (i+1) == w) (xs:=ag2 w.length) (i:=j - 1) aa;rw[ahf]at h3;have h4:=(Bx w (show j - 1+1≤w.length by omega)).2 (by rw[show j - 1+1=j by omega];exact hp);rw[h4]at h3;simp at h3

theorem aaR (w:List Int) (h0:0<w.length):w.length % kn w=0:=by
 obtain⟨h1,h2,h3,h4⟩:=tL w h0;have hr:=ahB w.length (show 0<kn w by omega)
 by_cases c:w.length % kn w=0
 ·exact c
 ·refine absurd (fun i=> ?_) (h4 (w.length % kn w) aa hr)
  have e:w.length=w.length % kn w+w.length / kn w*kn w:=by rw[Nat.mod_add_div']
  have h5:=NB h3 (w.length / kn w) (i+w.length % kn w);rw[Nat.add_assoc,← e,tK]at h5;exact h5.symm

theorem Hv {w v:List Int} (h0:0<w.length) (h0':0<v.length) (h: ∀d,rF w d↔rF v d):kn w=kn v:=by
 obtain⟨a1,a2,a3,a4⟩:=tL w h0;obtain⟨b1,b2,b3,b4⟩:=tL v h0';rcases Nat.lt_trichotomy (kn w) (kn v) with c|c|c
 ·exact absurd ((h _).1 a3) (b4 _ a1 c)
 ·exact c
 ·exact absurd ((h _).2 b3) (a4 _ b1 c)

theorem aaS (w:List Int): ∀(d k:Nat),qh w d k=true↔∀j,k≤j→j<k+d→turn w j≠w:=by
 intro d
 induction d with
 | zero=>intro k;exact⟨fun _ j h1 h2=>absurd h1 aa,fun _=>rfl⟩
 | succ d ih=>
  intro k;unfold qh;rw[ahx,decide_eq_true_iff,ih (k+1)]
  constructor
  ·rintro⟨h1,h2⟩ j zA hj2
   by_cases c:j=k
   ·rw[c];exact h1
   ·exact h2 j aa aa
  ·intro h
   exact⟨h k (agO _) aa,fun j h1 h2=>h j aa aa⟩

theorem NC (w:List Int) (h0:0<w.length):qh w (w.length - 1) 1=true↔kn w=w.length:=by
 obtain⟨h1,h2,h3,h4⟩:=tL w h0;rw[aaS]
 constructor
 ·intro h
  by_cases c:kn w=w.length
  ·exact c
  ·exact absurd ((Bx w h2).2 h3) (h (kn w) h1 aa)
 ·intro h j zA hj2 e
  exact h4 j zA aa ((Bx w aa).1 e)

theorem ND (w:List Int) {j:Nat} (hj:j≤w.length) (d:Nat):rF (turn w j) d↔rF w d:=by
 constructor
 ·intro h i
  have h1:=h (i+(w.length - j));rw[ql w hj,ql w hj,show i+(w.length - j)+d+j=(i+d)+w.length by omega,show i+(w.length - j)+j=i+w.length by omega,tK,tK]at h1;exact h1
 ·intro h i
  rw[ql w hj,ql w hj,show i+d+j=(i+j)+d by omega];exact h (i+j)

theorem aaT (w:List Int): ∀(d k:Nat) (b:List Int),(least w d k b=b∨∃j,k≤j∧j<k+d∧least w d k b=turn w j):=by
 intro d
 induction d with
 | zero=>intro k b;exact .inl rfl
 | succ d ih=>
  intro k b;unfold least
  split
  ·rcases ih (k+1) (turn w k) with h|⟨j,h1,h2,h3⟩
   ·exact .inr ⟨k,agO _,by omega,h⟩
   ·exact .inr ⟨j,by omega,by omega,h3⟩
  ·rcases ih (k+1) b with h|⟨j,h1,h2,h3⟩
   ·exact .inl h
   ·exact .inr ⟨j,by omega,by omega,h3⟩

theorem Eo (w:List Int) (h0:0<w.length): ∃j,j<w.length∧iD w=turn w j:=by
 unfold iD;rcases aaT w (w.length - 1) 1 w with h|⟨j,h1,h2,h3⟩
 ·exact⟨0,h0,by rw[h,Bm]⟩
 ·exact⟨j,by omega,h3⟩

theorem aaU (w:List Int) (c:List Int) (hc:c.length=w.length): ∀(d k:Nat) (b:List Int),b.length=w.length→(bf c b=false∨∃j,k≤j∧j<k+d∧c=turn w j)→bf c (least w d k b)=false:=by
 intro d
 induction d with
 | zero=>
  intro k b hb h;rcases h with h|⟨j,h1,h2,_⟩
  ·exact h
  ·omega
 | succ d ih=>
  intro k b hb h;have hk:=lS w k;unfold least
  by_cases z:bf (turn w k) b=true
  ·rw[ak z]
   refine ih (k+1) _ hk ?_;rcases h with h|⟨j,h1,h2,h3⟩
   ·refine .inl ?_
    cases e:bf c (turn w k) with
    | false=>rfl
    | true=>rw[Hl c (turn w k) b e z]at h;exact h
   ·by_cases e:j=k
    ·subst e
     refine .inl ?_;rw[h3];exact Ec _
    ·exact .inr ⟨j,by omega,by omega,h3⟩
  ·rw[aj z]
   rw[ahc]at z;refine ih (k+1) _ hb ?_;rcases h with h|⟨j,h1,h2,h3⟩
   ·exact .inl h
   ·by_cases e:j=k
    ·subst e
     refine .inl ?_;rw[h3];exact z
    ·exact .inr ⟨j,by omega,by omega,h3⟩

theorem NF (w:List Int) {j:Nat} (hj:j<w.length):bf (turn w j) (iD w)=false:=by
 refine aaU w (turn w j) (lS w j) (w.length - 1) 1 w rfl ?_
 by_cases c:j=0
 ·subst c
  rw[Bm];exact .inl (Ec w)
 ·exact .inr ⟨j,by omega,by omega,rfl⟩

theorem NG (w:List Int) {j:Nat} (hj:j<w.length):iD (turn w j)=iD w:=by
 have h0:0<w.length:=by omega
 have hl:=lS w j;obtain⟨a,ha,ea⟩:=Eo (turn w j) aa;obtain⟨b,hb,eb⟩:=Eo w h0;rw[Hu w aa aa h0]at ea;have h1:bf (iD (turn w j)) (iD w)=false:=by
  rw[ea];exact NF w (ahB _ h0)
 have e2:iD w=turn (turn w j) ((b+(w.length - j)) % w.length):=by
  have hm:=ahB (b+(w.length - j)) h0;rw[Hu w aa aa h0,eb,ail,show j+(b+(w.length - j))=b+w.length by omega,Nat.add_mod_right,ag9 hb]
 have h2:bf (iD w) (iD (turn w j))=false:=by
  rw[e2];exact NF (turn w j) (by rw[hl];exact ahB _ h0)
 have h3:=GZ (iD (turn w j)) (iD w) (by rw[ea,eb,lS,lS]);rw[h1,h2]at h3;exact Classical.not_not.1 (of_decide_eq_false h3.symm)

section
variable (l:List (List Int))

theorem NH {k:Nat} {w:List Int} (h:CW l k w) {j:Nat} (hj:j≤k):CW l k (turn w j):=by
 obtain⟨h1,h2⟩:=h;refine⟨by rw[lS,h1],fun i=> ?_⟩;rw[ql w aa,ql w aa,show i+1+j=(i+j)+1 by omega];exact h2 (i+j)

theorem Hw {k d:Nat} {w:List Int} (h:CW l k w) (hd:0<d) (hp:rF w d) (K:Nat) (hK:0<K) (Bz:K % d=0):CW l K (rowOf K (fw w))∧∀i,fw (rowOf K (fw w)) i=fw w i:=by
 have key: ∀i,fw (rowOf K (fw w)) i=fw w i:=fun i=>by
  rw[aaI K _ i hK];have e:i=i % K+i / K*K:=by rw[Nat.mod_add_div']
  obtain⟨q,hq⟩:=Nat.dvd_of_mod_eq_zero Bz;have h1:=NB hp (i / K*q) (i % K);rw[Nat.mul_assoc,Nat.mul_comm q d,← hq,← e]at h1;exact h1.symm
 refine⟨⟨jB _ _,fun i=> ?_⟩,key⟩;rw[key,key];exact h.2 i

def mX (k d:Nat):List (List Int):=(gP l k).filter (fun w=>decide (kn w=d))

theorem sF {k d:Nat} (hk:1≤k) (w:List Int):w∈mX l k d↔CW l k w∧kn w=d:=by
 unfold mX;rw[ahw,En l k hk,decide_eq_true_iff]

theorem NI {k d:Nat} (hk:1≤k):(mX l k d).Nodup:=ahW _ (NA l k hk)

theorem NJ {k K d:Nat} (hk:1≤k) (hK:1≤K) (hd:1≤d) (BA:k % d=0) (Bz:K % d=0):(mX l k d).length≤(mX l K d).length:=by
 refine Ny _ _ (fun w=>rowOf K (fw w)) (NI l hk) (fun w hw=> ?_) (fun w hw v hv e=> ?_)
 ·obtain⟨h1,h2⟩:=(sF l hk w).1 hw
  have h0:0<w.length:=by rw[h1.1];omega
  have hp:=(tL w h0).2.2.1;rw[h2]at hp;obtain⟨h3,h4⟩:=Hw l h1 aa hp K aa Bz;refine(sF l hK _).2 ⟨h3, ?_⟩;rw[← h2];refine Hv (by rw[jB];omega) h0 (fun x=> ?_);unfold rF;simp only[h4]
 ·obtain⟨h1,h2⟩:=(sF l hk w).1 hw
  obtain⟨g1,g2⟩:=(sF l hk v).1 hv;have h0:0<w.length:=by rw[h1.1];omega
  have g0:0<v.length:=by rw[g1.1];omega
  have hp:=(tL w h0).2.2.1;have gp:=(tL v g0).2.2.1;rw[h2]at hp;rw[g2]at gp;have h4:=(Hw l h1 aa hp K aa Bz).2;have g4:=(Hw l g1 aa gp K aa Bz).2;have e:rowOf K (fw w)=rowOf K (fw v):=e;refine Hq (by rw[h1.1,g1.1]) (fun i=> ?_);rw[← h4 i,e,g4 i]

theorem aaV {k d:Nat} (hd:1≤d) (hk:1≤k) (BA:k % d=0):(mX l k d).length=(mX l d d).length:=
 Nat.le_antisymm (NJ l hk hd hd BA (ag8 d)) (NJ l hd hk hd (ag8 d) BA)

theorem aaW (g:List Int→Nat) (k:Nat): ∀L:List (List Int),(∀w∈L,1≤g w∧g w≤k)→(L.length:Int)=Sm k (fun t=>((L.filter (fun w=>decide (g w=t+1))).length:Int)):=by
 intro L
 induction L with
 | nil=>intro _;exact(kM k).symm
 | cons w L ih=>
  intro h;have hw:=h w bQ;have e:Sm k (fun t=>(((w :: L).filter (fun w=>decide (g w=t+1))).length:Int))=Sm k (fun t=>(if t=g w - 1 then 1 else 0)+((L.filter (fun w=>decide (g w=t+1))).length:Int)):=cR (fun t _=>by
   by_cases c:g w=t+1
   ·rw[ahC (p:=fun w=>decide (g w=t+1)) (aV c),agB,ak aa]
    omega
   ·rw[ahA (p:=fun w=>decide (g w=t+1)) (by simpa using c),aj aa]
    omega)
  rw[e,iT,G2 (show g w - 1<k by omega),← ih (fun v hv=>h v (by simp[hv])),agB]
  omega

theorem SA (k:Nat) (hk:1≤k):((gP l k).length:Int)=Sm k (fun t=>if k % (t+1)=0 then ((mX l (t+1) (t+1)).length:Int) else 0):=by
 rw[aaW kn k (gP l k) (fun w hw=>by
  have h1:=((En l k hk w).1 hw).1;have h2:=tL w aa
  omega)]
 refine cR (fun t _=> ?_)
 by_cases c:k % (t+1)=0
 ·rw[ak c,← aaV l aa hk c]
  rfl
 ·rw[aj c]
  have:(gP l k).filter (fun w=>decide (kn w=t+1))= []:=List.filter_eq_nil_iff.2 (fun w hw hz=>by
   have h1:=((En l k hk w).1 hw).1;have h2:=aaR w aa;rw[of_decide_eq_true hz,h1]at h2;exact c h2)
  rw[this]
  rfl

theorem aaX (g:List Int→List Int) (d:Nat): ∀(A P:List (List Int)),A.Nodup→(∀x∈P,g x∈A)→(∀w∈A,(P.filter (fun x=>decide (g x=w))).length=d)→P.length=d*A.length:=by
 intro A
 induction A with
 | nil=>
  intro P _ h _;cases P with
  | nil=>rfl
  | cons x P=>exact absurd (h x bQ) bQ
 | cons w A ih=>
  intro P hn h1 h2;have hw:=(ahJ.1 hn).1;have e:=List.length_eq_countP_add_countP (fun x=>decide (g x=w)) (l:=P);rw[aio,aio,h2 w bQ]at e;have h3:=ih (P.filter (fun x=>decide ¬decide (g x=w)=true)) (ahJ.1 hn).2 (fun x hx=>by
   obtain⟨hx1,hx2⟩:=ahw.1 hx;have:=h1 x hx1;rcases List.mem_cons.1 this with z|z
   ·simp[z]at hx2
   ·exact z) (fun v hv=>by
   rw[List.filter_filter,← h2 v (by simp[hv])]
   congr 1
   refine aid (fun x _=> ?_)
   by_cases c:g x=v
   ·have:g x≠w:=fun z=>hw (by rw[← z,c];exact hv)
    simp[c];rw[← c];exact this
   ·simp[c])
  rw[e,h3,agB,Nat.mul_succ]
  omega

theorem aaY (d:Nat) (hd:1≤d) (w:List Int) (hw:w∈mX l d d) (hl:w=iD w):((mX l d d).filter (fun x=>decide (iD x=w))).length=d:=by
 obtain⟨h1,h2⟩:=(sF l hd w).1 hw;have hlen:=h1.1;have h0:0<w.length:=by omega
 obtain⟨_,_,_,h4⟩:=tL w h0;rw[h2]at h4;refine Nat.le_antisymm ?_ ?_
 ·have:=Nx ((mX l d d).filter (fun x=>decide (iD x=w))) ((ag2 d).map (turn w)) (ahW _ (NI l hd)) (fun x hx=>by
   obtain⟨hx1,hx2⟩:=ahw.1 hx;obtain⟨g1,_⟩:=(sF l hd x).1 hx1;have hx2:=of_decide_eq_true hx2;obtain⟨j,hj,ej⟩:=Eo x (by rw[g1.1];omega);rw[g1.1]at hj;have hm:=ahB (j+(d - j)) (show 0<d by omega);refine ahH.2 ⟨(d - j) % d,ahv.2 (ahB _ aa), ?_⟩;have e:turn (turn x j) ((d - j) % d)=x:=by
    rw[Hu x (by rw[g1.1];omega) (by rw[g1.1];have:=ahB (d - j) (show 0<d by omega);omega) (by rw[g1.1];omega),g1.1,ail,show j+(d - j)=d by omega,ag8,Bm]
   rw[← hx2,ej];exact e)
  rw[agZ,ah7]at this;exact this
 ·have:=Ny (ag2 d) ((mX l d d).filter (fun x=>decide (iD x=w))) (turn w) aik (fun j hj=>by
   rw[ahv]at hj;refine ahw.2 ⟨(sF l hd _).2 ⟨NH l h1 aa, ?_⟩,aV ?_⟩
   ·rw[← h2]
    exact Hv (by rw[lS];exact h0) h0 (fun x=>ND w aa x)
   ·rw[NG w aa,← hl]) (fun i hi j hj e=>by
   rw[ahv]at hi hj;have key: ∀a b,a<b→b<d→turn w a=turn w b→False:=fun a b hab hb e=>by
    refine h4 (b - a) aa aa (fun x=> ?_);have h5:fw (turn w b) (x+(d - a))=fw (turn w a) (x+(d - a)):=by rw[e]
    rw[ql w aa,ql w aa,show x+(d - a)+b=(x+(b - a))+w.length by omega,show x+(d - a)+a=x+w.length by omega,tK,tK]at h5;exact h5
   rcases Nat.lt_trichotomy i j with c|c|c
   ·exact(key i j c hj e).elim
   ·exact c
   ·exact(key j i c hi e.symm).elim)
  rw[ah7]at this;exact this

def nL (k:Nat):List (List Int):=(gP l k).filter (lB l)

theorem NK (k:Nat) (hk:1≤k) (w:List Int):w∈nL l k↔w∈mX l k k∧w=iD w:=by
 unfold nL;rw[ahw,sF l hk,En l k hk]
 constructor
 ·rintro⟨h1,h2⟩
  unfold lB at h2;rw[ahx,ahx]at h2;refine⟨⟨h1, ?_⟩,of_decide_eq_true h2.2⟩;have:=(NC w (by rw[h1.1];omega)).1 h2.1.1;rw[this,h1.1]
 ·rintro⟨⟨h1,h2⟩,h3⟩
  refine⟨h1, ?_⟩;unfold lB;have hlen:=h1.1;rw[ahx,ahx];refine⟨⟨(NC w aa).2 aa, ?_⟩,aV h3⟩;unfold sE;have h4:=(h1.2 (w.length - 1)).2;rw[oY aa,show w.length - 1+1=0+w.length by omega,tK,oY aa]at h4;exact h4

theorem LQ (k:Nat) (hk:1≤k):(mX l k k).length=k*(nL l k).length:=by
 refine aaX iD k (nL l k) (mX l k k) (ahW _ (NA l k hk)) (fun x hx=> ?_) (fun w hw=> ?_)
 ·obtain⟨h1,h2⟩:=(sF l hk x).1 hx
  have hlen:=h1.1;obtain⟨j,hj,ej⟩:=Eo x aa;refine(NK l k hk _).2 ⟨(sF l hk _).2 ?_, ?_⟩
  ·rw[ej]
   refine⟨NH l h1 aa, ?_⟩;rw[← h2];exact Hv (by rw[lS];omega) aa (fun d=>ND x aa d)
  ·conv=>rhs;rw[ej]
   exact(NG x hj).symm
 ·obtain⟨h1,h2⟩:=(NK l k hk w).1 hw
  exact aaY l k hk w h1 h2

end

def sB (l:List Int):Nat→List Int
 | 0=>[]
 | i+1=>if rd l (i:Int)=0 then sB l i else l.take (i+1)

theorem S5 (l:List Int) (hl:l.length≤1048576):mo.f l=some l:=by
 unfold mo.f;simp only[ahy,agE,ahN];exact ak aa
def sg (j:Nat):Int:=if j % 2=0 then 1 else -1

theorem aaZ (j:Nat):sg (j+1)= - sg j:=by
 unfold sg
 split<;>split<;>omega

def minor (m:Nat→Nat→Int) (j:Nat):Nat→Nat→Int:=fun i k=>m (i+1) (if k<j then k else k+1)

def e7:Nat→(Nat→Nat→Int)→Int
 | 0,_=>1
 | n+1,m=>Sm (n+1) (fun j=>sg j*m 0 j*e7 n (minor m j))

theorem wV: ∀(n:Nat) (m m':Nat→Nat→Int),(∀i k,i<n→k<n→m i k=m' i k)→e7 n m=e7 n m':=by
 intro n
 induction n with
 | zero=>intro m m' _;rfl
 | succ n ih=>
  intro m m' h;unfold e7;refine cR (fun j hj=> ?_);rw[h 0 j aa hj,ih (minor m j) (minor m' j) (fun i k hi hk=> ?_)];unfold minor
  split
  ·exact h _ _ aa aa
  ·exact h _ _ aa aa

def fB (m:Nat→Nat→Int) (c:Nat) (v:Nat→Int):Nat→Nat→Int:=fun i k=>if k=c then v i else m i k

theorem DT (m:Nat→Nat→Int) (c:Nat):fB m c (fun i=>m i c)=m:=by
 funext i k
 unfold fB
 split
 ·next h=>rw[h]
 ·rfl

theorem zB (m:Nat→Nat→Int) {c d:Nat} (h:c≠d) (v v':Nat→Int):fB (fB m c v) d v'=fB (fB m d v') c v:=by
 funext i k
 unfold fB
 by_cases e:k=d
 ·rw[ak e,aj aa,ak e]
 ·rw[aj e]
  by_cases e2:k=c
  ·rw[ak e2,ak e2]
  ·rw[aj e2,aj e2,aj e]

theorem DQ (m:Nat→Nat→Int) (c:Nat) (v:Nat→Int):minor (fB m c v) c=minor m c:=by
 funext i k
 unfold minor fB;rw[aj]
 split<;>omega

theorem DR (m:Nat→Nat→Int) {c j:Nat} (h:j≠c) (v:Nat→Int):minor (fB m c v) j=fB (minor m j) (if c<j then c else c - 1) (fun i=>v (i+1)):=by
 funext i k
 unfold minor fB
 by_cases e:(if k<j then k else k+1)=c
 ·rw[ak e,ak (show k=(if c<j then c else c - 1) by split at e<;>split<;>omega)]
 ·rw[aj e,aj (show ¬k=(if c<j then c else c - 1) by split at e<;>split<;>omega)]

theorem DS: ∀(n:Nat) (m:Nat→Nat→Int) (c:Nat) (s t:Int) (x y:Nat→Int),c<n→e7 n (fB m c (fun i=>s*x i+t*y i))=s*e7 n (fB m c x)+t*e7 n (fB m c y):=by
 intro n
 induction n with
 | zero=>intro m c s t x y h;omega
 | succ n ih=>
  intro m c s t x y hc;unfold e7;rw[← jg,← jg,← iT];refine cR (fun j hj=> ?_)
  by_cases e:j=c
  ·subst e
   rw[DQ,DQ,DQ];simp only[fB,ak];generalize e7 n (minor m j)=d;generalize sg j=g;rw[ahF,agV]
   congr 1
   ·rw[← agJ,agF g s,agJ s g,agJ]
   ·rw[← agJ,agF g t,agJ t g,agJ]
  ·rw[DR m e,DR m e,DR m e,ih _ _ s t _ _ (by split<;>omega)]
   simp only[fB,aj e];generalize e7 n _=d1;generalize e7 n _=d2;generalize sg j*m 0 j=g;rw[ahF,← agJ,← agJ,agF g s,agF g t,agJ,agJ]

theorem Hy (n:Nat) (m:Nat→Nat→Int) (c:Nat) (x y:Nat→Int) (hc:c<n):e7 n (fB m c (fun i=>x i+y i))=e7 n (fB m c x)+e7 n (fB m c y):=by
 have:=DS n m c 1 1 x y hc;simp only[agQ]at this;exact this

theorem NL (n:Nat) (m:Nat→Nat→Int) (c:Nat) (hc:c<n):e7 n (fB m c (fun _=>0))=0:=by
 have:=DS n m c 0 0 (fun _=>0) (fun _=>0) hc;simp only[agA,agN]at this;exact this

theorem aa0 {n c:Nat} {f:Nat→Int} (hc:c+1<n) (h: ∀i,i<n→i≠c→i≠c+1→f i=0):Sm n f=f c+f (c+1):=by
 have z: ∀k,k≤n→Sm k f=(if c<k then f c else 0)+(if c+1<k then f (c+1) else 0):=by
  intro k
  induction k with
  | zero=>intro _;rfl
  | succ k ih=>
   intro hk;unfold Sm;rw[ih aa]
   by_cases e:k=c
   ·subst e
    rw[aj aa,aj aa,ak aa,aj aa]
    omega
   ·by_cases e2:k=c+1
    ·subst e2
     rw[ak aa,aj aa,ak aa,ak aa]
     omega
    ·rw[h k aa e e2]
     by_cases c1:c<k
     ·rw[ak c1,ak (show c<k+1 by omega)]
      by_cases c2:c+1<k
      ·rw[ak c2,ak aa];omega
      ·rw[aj c2,aj aa];omega
     ·rw[aj c1,aj (show ¬c+1<k by omega),aj (show ¬c<k+1 by omega),aj aa];omega
 rw[z n (agO _),ak aa,ak aa]

theorem NM: ∀(n:Nat) (m:Nat→Nat→Int) (c:Nat),c+1<n→(∀i,m i c=m i (c+1))→e7 n m=0:=by
 intro n
 induction n with
 | zero=>intro m c h;omega
 | succ n ih=>
  intro m c hc h;unfold e7;rw[aa0 hc]
  ·have e:minor m c=minor m (c+1):=by
    funext i k
    unfold minor
    by_cases e1:k<c
    ·rw[ak e1,ak aa]
    ·rw[aj e1]
     by_cases e2:k=c
     ·subst e2
      rw[ak aa];exact(h (i+1)).symm
     ·rw[aj aa]
   rw[e,← h 0,aaZ,Int.neg_mul,Int.neg_mul]
   omega
  ·intro j hj h1 h2
   rw[ih (minor m j) (if c+1<j then c else c - 1),agL]
   ·split<;>omega
   ·intro i
    unfold minor
    by_cases c1:c+1<j
    ·rw[ak c1,ak aa,ak aa]
     exact h (i+1)
    ·rw[aj c1,aj aa,aj aa,show c - 1+1=c by omega]
     exact h (i+1)

theorem aa1 (n:Nat) (m:Nat→Nat→Int) (c:Nat) (hc:c+1<n) (x y:Nat→Int):e7 n (fB (fB m c x) (c+1) y)= - e7 n (fB (fB m c y) (c+1) x):=by
 have two: ∀x,e7 n (fB (fB m c x) (c+1) x)=0:=fun x=>NM n _ c hc (fun i=>by
  unfold fB;rw[aj aa,ak rfl,ak rfl])
 have h:=two (fun i=>x i+y i);rw[Hy n _ (c+1) x y hc,zB m (show c≠c+1 by omega),zB m (show c≠c+1 by omega),Hy n _ c x y aa,Hy n _ c x y aa]at h;rw[zB m (show c+1≠c by omega),zB m (show c+1≠c by omega),zB m (show c+1≠c by omega),zB m (show c+1≠c by omega),two x,two y]at h
 omega

theorem NN (n:Nat): ∀(d:Nat) (m:Nat→Nat→Int) (p:Nat),p+1+d<n→(∀i,m i p=m i (p+1+d))→e7 n m=0:=by
 intro d
 induction d with
 | zero=>intro m p hp h;exact NM n m p hp h
 | succ d ih=>
  intro m p hp h;have hs:=aa1 n m (p+1+d) aa (fun i=>m i (p+1+d)) (fun i=>m i (p+1+d+1));have e1:fB (fB m (p+1+d) (fun i=>m i (p+1+d))) (p+1+d+1) (fun i=>m i (p+1+d+1))=m:=by
   rw[DT,DT]
  rw[e1]at hs;rw[hs,ih _ p aa]
  ·rfl
  ·intro i
   unfold fB;rw[aj aa,aj aa,aj aa,ak rfl];exact h i

theorem KY {n:Nat} {m:Nat→Nat→Int} {p q:Nat} (hp:p<n) (hq:q<n) (hne:p≠q) (h: ∀i,m i p=m i q):e7 n m=0:=by
 rcases Nat.lt_or_gt_of_ne hne with c|c
 ·exact NN n (q - p - 1) m p aa (fun i=>by rw[show p+1+(q - p - 1)=q by omega];exact h i)
 ·exact NN n (p - q - 1) m q aa (fun i=>by rw[show q+1+(p - q - 1)=p by omega];exact(h i).symm)

theorem aa2 (n:Nat) (m:Nat→Nat→Int) (c:Nat) (hc:c<n) (t:Nat→Int) (w:Nat→Nat→Int): ∀k,e7 n (fB m c (fun r=>Sm k (fun i=>t i*w i r)))=Sm k (fun i=>t i*e7 n (fB m c (w i))):=by
 intro k
 induction k with
 | zero=>exact NL n m c hc
 | succ k ih=>
  have h:=DS n m c 1 (t k) (fun r=>Sm k (fun i=>t i*w i r)) (w k) hc;simp only[agQ]at h
  show e7 n (fB m c (fun r=>Sm k (fun i=>t i*w i r)+t k*w k r))=_
  rw[h,ih]
  rfl

theorem tu (N:Nat) (f:Nat→Int) {p:Nat} (hp:p<N):Sm N (fun r=>(if r=p then 1 else 0)*f r)=f p:=by
 induction N with
 | zero=>omega
 | succ N ih=>
  show Sm N (fun r=>(if r=p then 1 else 0)*f r)+(if N=p then 1 else 0)*f N=f p
  by_cases e:p=N
  ·subst e
   rw[ak rfl,agQ];have:Sm p (fun r=>(if r=p then 1 else 0)*f r)=Sm p (fun _=>0):=cR (fun i hi=>by rw[aj aa,agA]);rw[this,kM,ahZ]
  ·rw[ih aa,aj aa,agA,agN]

def unit (i:Nat):Nat→Int:=fun r=>if r=i then 1 else 0

def adj (n:Nat) (x:Nat→Nat→Int) (k i:Nat):Int:=e7 n (fB x k (unit i))

theorem KU (n:Nat) (x:Nat→Nat→Int) (k:Nat) (hk:k<n) (v:Nat→Int):Sm n (fun i=>adj n x k i*v i)=e7 n (fB x k v):=by
 have h:=aa2 n x k hk v unit n;have e:e7 n (fB x k (fun r=>Sm n (fun i=>v i*unit i r)))=e7 n (fB x k v):=by
  refine wV n _ _ (fun i j hi hj=> ?_);unfold fB
  split
  ·have:Sm n (fun a=>v a*unit a i)=Sm n (fun a=>(if a=i then 1 else 0)*v a):=cR (fun a _=>by
    unfold unit;rw[agF]
    by_cases c:i=a
    ·rw[ak c,ak c.symm]
    ·rw[aj c,aj (fun z=>c z.symm)])
   exact this.trans (tu n v hi)
  ·rfl
 rw[e]at h;rw[h];exact cR (fun i _=>agF _ _)

theorem QH (n:Nat) (x:Nat→Nat→Int) (k j:Nat) (hk:k<n) (hj:j<n):mul n (adj n x) x k j=if k=j then e7 n x else 0:=by
 unfold mul;rw[KU n x k hk (fun i=>x i j)]
 by_cases e:k=j
 ·subst e
  rw[ak rfl,DT]
 ·rw[aj e]
  refine KY hk hj e (fun i=> ?_);unfold fB;rw[ak rfl,aj (fun z=>e z.symm)]
def ab (x:Int):Int:=(x.natAbs:Int)

theorem oL (x:Int):0≤ab x:=by unfold ab;omega
theorem NP (x y:Int):ab (x+y)≤ab x+ab y:=by unfold ab;omega
theorem AZ (x y:Int):ab (x*y)=ab x*ab y:=by
 unfold ab;rw[Int.natAbs_mul]
 push_cast
 rfl

def mE (d:Nat) (B:Int) (c:Nat→Int) (f:Int→Int):Prop:=(∀i,d≤i→c i=0)∧(∀u,f u=Sm d (fun i=>c i*u ^ i))∧Sm d (fun i=>ab (c i))≤B

theorem y9 {d e:Nat} (f:Nat→Int) (RD:d≤e) (h: ∀i,d≤i→f i=0):Sm e f=Sm d f:=by
 induction e with
 | zero=>rw[show d=0 by omega]
 | succ e ih=>
  by_cases c:d=e+1
  ·rw[c]
  ·show Sm e f+f e=_
   rw[ih aa,h e aa,agN]

theorem mE.add {d:Nat} {B B':Int} {c c':Nat→Int} {f g:Int→Int} (h:mE d B c f) (h':mE d B' c' g):mE d (B+B') (fun i=>c i+c' i) (fun u=>f u+g u):=by
 refine⟨fun i hi=>by show c i+c' i=0;rw[h.1 i hi,h'.1 i hi];rfl,fun u=> ?_, ?_⟩
 ·show f u+g u=Sm d (fun i=>(c i+c' i)*u ^ i)
  rw[h.2.1 u,h'.2.1 u,← iT];exact cR (fun i _=>(agV _ _ _).symm)
 ·have:=h.2.2
  have:=h'.2.2;have h3:Sm d (fun i=>ab (c i+c' i))≤Sm d (fun i=>ab (c i)+ab (c' i)):=p4 (fun i _=>NP _ _);rw[iT]at h3
  show Sm d (fun i=>ab (c i+c' i))≤B+B'
  omega

theorem mE.zero (d:Nat):mE d 0 (fun _=>0) (fun _=>0):=by
 refine⟨fun _ _=>rfl,fun u=> ?_, ?_⟩
 ·rw[cR (g:=fun _=>0) (fun i _=>agA _),kM]
 ·show Sm d (fun _=>(0:Int))≤0
  rw[kM];exact agI _

theorem mE.one:mE 1 1 (fun i=>if i=0 then 1 else 0) (fun _=>1):=by
 refine⟨fun i hi=>aj aa,fun u=> ?_, ?_⟩
 ·show(1:Int)=0+(if 0=0 then 1 else 0)*u ^ 0
  rw[ak rfl,Int.pow_zero]
  rfl
 ·exact agI _

def pX (a b:Int) (c:Nat→Int) (i:Nat):Int:=a*c i+(if i=0 then 0 else b*c (i - 1))

theorem Gf (d:Nat) (f:Nat→Int):Sm (d+1) (fun i=>if i=0 then 0 else f (i - 1))=Sm d f:=by
 induction d with
 | zero=>rfl
 | succ d ih=>
  show Sm (d+1) (fun i=>if i=0 then 0 else f (i - 1))+(if d+1=0 then 0 else f (d+1 - 1))=Sm d f+f d
  rw[ih,aj aa,agK]

theorem mE.aa3 {d:Nat} {B:Int} {c:Nat→Int} {f:Int→Int} (h:mE d B c f) (a b:Int):mE (d+1) ((ab a+ab b)*B) (pX a b c) (fun u=>(a+u*b)*f u):=by
 refine⟨fun i hi=> ?_,fun u=> ?_, ?_⟩
 ·unfold pX
  rw[h.1 i aa,aj aa,h.1 (i - 1) aa,agL,agL]
  rfl
 ·unfold pX
  have e1:Sm (d+1) (fun i=>(a*c i+(if i=0 then 0 else b*c (i - 1)))*u ^ i)=Sm (d+1) (fun i=>a*(c i*u ^ i))+Sm (d+1) (fun i=>if i=0 then 0 else u*b*(c (i - 1)*u ^ (i - 1))):=by
   rw[← iT];refine cR (fun i _=> ?_);rw[agV,agJ]
   congr 1
   by_cases e:i=0
   ·rw[ak e,ak e,agA]
   ·rw[aj e,aj e]
    obtain⟨j,rfl⟩: ∃j,i=j+1:=⟨i - 1,by omega⟩;rw[agK,Int.pow_succ,agF (u ^ j) u,agF u b,agJ,agJ]
    congr 1
    rw[← agJ,agF (c j) u,agJ]
  rw[e1,jg,Gf d (fun i=>u*b*(c i*u ^ i)),jg,y9 (d:=d) (fun i=>c i*u ^ i) aa (fun i hi=>by rw[h.1 i hi,agA]),← h.2.1 u];exact agV _ _ _
 ·have h1:Sm (d+1) (fun i=>ab (pX a b c i))≤Sm (d+1) (fun i=>ab a*ab (c i)+(if i=0 then 0 else ab b*ab (c (i - 1)))):=p4 (fun i _=>by
   unfold pX;have:=NP (a*c i) (if i=0 then 0 else b*c (i - 1));rw[AZ]at this
   by_cases e:i=0
   ·rw[ak e]at this ⊢
    rw[ak e];exact this
   ·rw[aj e,AZ]at this
    rw[aj e,aj e];exact this)
  rw[iT,jg,Gf d (fun i=>ab b*ab (c i)),jg,y9 (d:=d) (fun i=>ab (c i)) aa (fun i hi=>by rw[h.1 i hi];rfl)]at h1;have h2:ab a*Sm d (fun i=>ab (c i))≤ab a*B:=agP h.2.2 (oL a);have h3:ab b*Sm d (fun i=>ab (c i))≤ab b*B:=agP h.2.2 (oL b);rw[agV]
  omega

theorem aa4: ∀(d:Nat) (c:Nat→Int),(∀u:Int,2≤u→Sm d (fun i=>c i*u ^ i)=0)→∀i,i<d→c i=0:=by
 intro d
 induction d with
 | zero=>intro c _ i hi;omega
 | succ d ih=>
  intro c h;have split: ∀u:Int,Sm (d+1) (fun i=>c i*u ^ i)=c 0+u*Sm d (fun i=>c (i+1)*u ^ i):=by
   intro u;have: ∀n,Sm (n+1) (fun i=>c i*u ^ i)=c 0+u*Sm n (fun i=>c (i+1)*u ^ i):=by
    intro n
    induction n with
    | zero=>
     show 0+c 0*u ^ 0=c 0+u*0
     rw[Int.pow_zero]
     omega
    | succ n ihn=>
     show Sm (n+1) (fun i=>c i*u ^ i)+c (n+1)*u ^ (n+1)=c 0+u*(Sm n (fun i=>c (i+1)*u ^ i)+c (n+1)*u ^ n)
     rw[ihn,ahF,Int.pow_succ,agF (u ^ n) u,← agJ (c (n+1)) u,agF (c (n+1)) u,agJ u]
     omega
   exact this d
  have h0:c 0=0:=by
   apply ain;intro hc;have h1:=h (ab (c 0)+2) (by have:=oL (c 0);omega);rw[split]at h1;generalize Sm d _=s at h1;have hab:ab (c 0)=(c 0).natAbs:=rfl;have hdvd:(ab (c 0)+2)∣c 0:=⟨-s,by rw[Int.mul_neg];omega⟩;have:=Int.natAbs_dvd_natAbs.2 hdvd;have:=Nat.le_of_dvd aa this;have e:(ab (c 0)+2).natAbs=(c 0).natAbs+2:=by rw[hab];omega
   omega
  intro i hi
  by_cases e:i=0
  ·rw[e];exact h0
  ·have:=ih (fun i=>c (i+1)) (fun u hu=>by
    have h1:=h u hu;rw[split,h0,ahZ]at h1;rcases Int.mul_eq_zero.1 h1 with h2|h2
    ·omega
    ·exact h2) (i - 1) aa
   simp only[Nat.sub_add_cancel (show 1≤i by omega)]at this;exact this

theorem Gg (d:Nat) (c:Nat→Int) (h: ∀u:Int,1≤u→Sm d (fun i=>c i*u ^ i)=0): ∀i,i<d→c i=0:=aa4 d c (fun u hu=>h u aa)

def Pr:Nat→(Nat→Int)→Int
 | 0,_=>1
 | n+1,f=>Pr n f*f n

theorem NQ {n:Nat} {f g:Nat→Int} (h: ∀i,i<n→f i=g i):Pr n f=Pr n g:=by
 induction n with
 | zero=>rfl
 | succ n ih=>unfold Pr;rw[ih (fun i hi=>h i aa),h n aa]

theorem Gj {n:Nat} {f:Nat→Int} (h: ∀i,i<n→0≤f i):0≤Pr n f:=by
 induction n with
 | zero=>exact(by decide:(0:Int)≤1)
 | succ n ih=>
  unfold Pr;exact agS (ih (fun i hi=>h i aa)) (h n aa)

theorem Lo {n:Nat} {f g:Nat→Int} (h0: ∀i,i<n→0≤f i) (h: ∀i,i<n→f i≤g i):Pr n f≤Pr n g:=by
 induction n with
 | zero=>exact agI _
 | succ n ih=>
  unfold Pr;have h1:=ih (fun i hi=>h0 i aa) (fun i hi=>h i aa);have h2:Pr n f*f n≤Pr n g*f n:=agR h1 (h0 n aa);have hg:0≤Pr n g:=Gj (fun i hi=>ag7 (h0 i aa) (h i aa));have h3:Pr n g*f n≤Pr n g*g n:=agP (h n aa) hg
  omega

def skip (j k:Nat):Nat:=if k<j then k else k+1

theorem aa5 (n j:Nat) (f:Nat→Int) (hj:j≤n):Pr (n+1) (fun k=>f (skip j k))=if j=n+1 then Pr (n+1) f else Pr n (fun k=>f (skip j k))*f (n+1):=by
 rw[aj aa]
 show Pr n (fun k=>f (skip j k))*f (skip j n)=_
 rw[show skip j n=n+1 from aj aa]

theorem aa6 (a c:Nat→Int) (ha: ∀i,0≤a i) (hc: ∀i,0≤c i): ∀n,Sm (n+1) (fun j=>a j*Pr n (fun k=>c (skip j k)))+Pr (n+1) c≤Pr (n+1) (fun k=>a k+c k):=by
 intro n
 induction n with
 | zero=>
  show 0+a 0*1+1*c 0≤1*(a 0+c 0)
  omega
 | succ n ih=>
  have e1:Sm (n+1) (fun j=>a j*Pr (n+1) (fun k=>c (skip j k)))=Sm (n+1) (fun j=>a j*Pr n (fun k=>c (skip j k)))*c (n+1):=by
   rw[← pW];refine cR (fun j hj=> ?_);rw[aa5 n j c aa,aj aa,agJ]
  have e2:Pr (n+1) (fun k=>c (skip (n+1) k))=Pr (n+1) c:=NQ (fun k hk=>by rw[show skip (n+1) k=k from ak hk])
  show Sm (n+1) (fun j=>a j*Pr (n+1) (fun k=>c (skip j k)))+a (n+1)*Pr (n+1) (fun k=>c (skip (n+1) k))+Pr (n+1) c*c (n+1)≤Pr (n+1) (fun k=>a k+c k)*(a (n+1)+c (n+1))
  rw[e1,e2,ahF];have hP:Pr (n+1) c≤Pr (n+1) (fun k=>a k+c k):=Lo (fun i _=>hc i) (fun i _=>by have:=ha i;omega);have h1:(Sm (n+1) (fun j=>a j*Pr n (fun k=>c (skip j k)))+Pr (n+1) c)*c (n+1)≤Pr (n+1) (fun k=>a k+c k)*c (n+1):=agR ih (hc _);have h2:Pr (n+1) c*a (n+1)≤Pr (n+1) (fun k=>a k+c k)*a (n+1):=agR hP (ha _);rw[agV]at h1;rw[agF (a (n+1))]
  omega

def dc:Nat→(Nat→Nat→Int)→(Nat→Nat→Int)→Nat→Int
 | 0,_,_=>fun i=>if i=0 then 1 else 0
 | n+1,a,b=>fun i=>Sm (n+1) (fun j=>pX (sg j*a 0 j) (sg j*b 0 j) (dc n (minor a j) (minor b j)) i)

theorem mE.sum {d:Nat} (n:Nat) (B:Nat→Int) (c:Nat→Nat→Int) (f:Nat→Int→Int) (h: ∀j,j<n→mE d (B j) (c j) (f j)):mE d (Sm n B) (fun i=>Sm n (fun j=>c j i)) (fun u=>Sm n (fun j=>f j u)):=by
 induction n with
 | zero=>exact mE.zero d
 | succ n ih=>exact mE.add (ih (fun j hj=>h j aa)) (h n aa)

def cs (n:Nat) (a b:Nat→Nat→Int) (k:Nat):Int:=Sm n (fun i=>ab (a i k)+ab (b i k))

theorem Lc (n:Nat) (a b:Nat→Nat→Int) (k:Nat):0≤cs n a b k:=lu (fun i _=>by
 have:=oL (a i k);have:=oL (b i k)
 omega)

theorem qK (n:Nat) (f:Nat→Int):Sm (n+1) f=f 0+Sm n (fun i=>f (i+1)):=by
 induction n with
 | zero=>show 0+f 0=f 0+0;omega
 | succ n ih=>
  show Sm (n+1) f+f (n+1)=f 0+(Sm n (fun i=>f (i+1))+f (n+1))
  rw[ih];omega

theorem NR (j:Nat) (x:Int):ab (sg j*x)=ab x:=by
 rw[AZ];have:ab (sg j)=1:=by unfold sg ab;split<;>rfl
 rw[this,agQ]

theorem za: ∀(n:Nat) (a b:Nat→Nat→Int),mE (n+1) (Pr n (cs n a b)) (dc n a b) (fun u=>e7 n (fun i k=>a i k+u*b i k)):=by
 intro n
 induction n with
 | zero=>intro a b;exact mE.one
 | succ n ih=>
  intro a b;have h:=mE.sum (d:=n+2) (n+1) (fun j=>(ab (sg j*a 0 j)+ab (sg j*b 0 j))*Pr n (cs n (minor a j) (minor b j))) (fun j=>pX (sg j*a 0 j) (sg j*b 0 j) (dc n (minor a j) (minor b j)))
   (fun j u=>(sg j*a 0 j+u*(sg j*b 0 j))*e7 n (fun i k=>minor a j i k+u*minor b j i k)) (fun j _=>(ih (minor a j) (minor b j)).aa3 _ _)
  have hB:Sm (n+1) (fun j=>(ab (sg j*a 0 j)+ab (sg j*b 0 j))*Pr n (cs n (minor a j) (minor b j)))≤Pr (n+1) (cs (n+1) a b):=by
   have h1:=aa6 (fun k=>ab (a 0 k)+ab (b 0 k)) (fun k=>Sm n (fun i=>ab (a (i+1) k)+ab (b (i+1) k))) (fun k=>by have:=oL (a 0 k);have:=oL (b 0 k);omega) (fun k=>lu (fun i _=>by have:=oL (a (i+1) k);have:=oL (b (i+1) k);omega)) n;have h2:0≤Pr (n+1) (fun k=>Sm n (fun i=>ab (a (i+1) k)+ab (b (i+1) k))):=Gj (fun k _=>lu (fun i _=>by have:=oL (a (i+1) k);have:=oL (b (i+1) k);omega));have e1:Pr (n+1) (cs (n+1) a b)=Pr (n+1) (fun k=>(ab (a 0 k)+ab (b 0 k))+Sm n (fun i=>ab (a (i+1) k)+ab (b (i+1) k))):=NQ (fun k _=>qK n (fun i=>ab (a i k)+ab (b i k)));have e2:Sm (n+1) (fun j=>(ab (sg j*a 0 j)+ab (sg j*b 0 j))*Pr n (cs n (minor a j) (minor b j)))=Sm (n+1) (fun j=>(ab (a 0 j)+ab (b 0 j))*Pr n (fun k=>Sm n (fun i=>ab (a (i+1) (skip j k))+ab (b (i+1) (skip j k))))):=cR (fun j _=>by
    rw[NR,NR]
    rfl)
   rw[e1,e2]
   omega
  refine⟨h.1,fun u=> ?_,ag7 h.2.2 hB⟩;refine Eq.trans ?_ (h.2.1 u);refine cR (fun j _=> ?_)
  show sg j*(a 0 j+u*b 0 j)*e7 n (minor (fun i k=>a i k+u*b i k) j)=(sg j*a 0 j+u*(sg j*b 0 j))*e7 n (fun i k=>minor a j i k+u*minor b j i k)
  have e:minor (fun i k=>a i k+u*b i k) j=fun i k=>minor a j i k+u*minor b j i k:=rfl
  rw[e,ahF,← agJ (sg j) u,agF (sg j) u,agJ u]
theorem qJ (n:Nat) (a b:Nat→Nat→Int) {i:Nat} (h:n+1≤i):dc n a b i=0:=(za n a b).1 i h

theorem AY: ∀(n:Nat) (a b:Nat→Nat→Int),dc n a b 0=e7 n a:=by
 intro n
 induction n with
 | zero=>intro a b;rfl
 | succ n ih=>
  intro a b
  show Sm (n+1) (fun j=>pX (sg j*a 0 j) (sg j*b 0 j) (dc n (minor a j) (minor b j)) 0)=Sm (n+1) (fun j=>sg j*a 0 j*e7 n (minor a j))
  refine cR (fun j _=> ?_);unfold pX;rw[ak rfl,ih,agN]

theorem aa7: ∀(n:Nat) (a b:Nat→Nat→Int),dc n a b n=e7 n b:=by
 intro n
 induction n with
 | zero=>intro a b;rfl
 | succ n ih=>
  intro a b
  show Sm (n+1) (fun j=>pX (sg j*a 0 j) (sg j*b 0 j) (dc n (minor a j) (minor b j)) (n+1))=Sm (n+1) (fun j=>sg j*b 0 j*e7 n (minor b j))
  refine cR (fun j _=> ?_);unfold pX;rw[aj aa,agK,ih,qJ n _ _ (agO _),agL,ahZ]

def jf (i k:Nat):Int:=if i=k then 1 else 0
def ng (a:Nat→Nat→Int) (i k:Nat):Int:= - a i k

def ch (n:Nat) (a:Nat→Nat→Int):Nat→Int:=dc n jf (ng a)

def nc (n:Nat) (a:Nat→Nat→Int) (m k i:Nat):Int:=dc n (fB jf k (unit i)) (fB (ng a) k (fun _=>0)) m

def xu (a:Nat→Nat→Int) (u:Int) (i k:Nat):Int:=jf i k+u*ng a i k

theorem Ga (n:Nat) (a:Nat→Nat→Int) (u:Int) (k i:Nat):adj n (xu a u) k i=Sm (n+1) (fun m=>nc n a m k i*u ^ m):=by
 refine Eq.trans ?_ ((za n (fB jf k (unit i)) (fB (ng a) k (fun _=>0))).2.1 u);unfold adj;refine wV n _ _ (fun r c _ _=> ?_);unfold fB xu
 by_cases e:c=k
 ·rw[ak e,ak e,ak e,agL,agN]
 ·rw[aj e,aj e,aj e]

theorem DP (n:Nat) (a:Nat→Nat→Int) (u:Int):e7 n (xu a u)=Sm (n+1) (fun m=>ch n a m*u ^ m):=(za n jf (ng a)).2.1 u

theorem DN (n:Nat) (a:Nat→Nat→Int) (m k i:Nat) (hk:k<n) (hm:n≤m):nc n a m k i=0:=by
 by_cases e:m=n
 ·subst e
  unfold nc;rw[aa7];exact NL m (ng a) k hk
 ·exact qJ n _ _ aa
end Go.Proofs.Ytkadhadceongiaa.Pure
