/- The printed functions that this law reaches, and their contracts: part 5. -/

import Derived.Test.YtkadhadceongiaaC4
namespace Go.Proofs.Ytkadhadceongiaa.G
open Go.RowKit Go.Proofs.YtkadhadceongiaaW.PrintWords Go.Proofs.YtkadhadceongiaaW.PrintLast Go.Proofs.YtkadhadceongiaaW.PrintMore
open Nat renaming le_refl → agO, le_of_eq → aip, ne_of_lt → air, le_trans → ahO, mul_le_mul_right → aiJ
open Option.some renaming inj → aiq, injEq → aiv
open Int renaming tmod → agT, tdiv → aiz
open Bool renaming false_ne_true → ais, eq_false_iff → aix
open Go.RowKit.Below renaming refl → ait
open Go.Proofs.Try renaming prog → aiu, underlying26 → aiy, func118 → aiE, underlying29 → aiF, func141 → aiG, func34 → aiH, func23 → aiI
open Prod.mk renaming injEq → aiw
open Go.Act renaming put → aiA
open List renaming setIfInBounds_toArray → aiB, set_cons_zero → aiC, set_cons_succ → aiD, replicate → ahz
attribute [local go_sem] xO xP xQ xR xS xT xU xV
set_option maxHeartbeats 8000000
set_option maxRecDepth 100000
set_option linter.unusedVariables false
set_option linter.unusedSimpArgs false

def mW.l0:Nat→List Int→List Int→Int→Int→Option (List Int×Int)
 | 0,_,_,_,_=>none
 | k+1,x7,x8,x20,vq=>if vq<x20 then ((xd.f x8 vq).bind fun zC=>(if x7.length<17592186044416 then (mW.l0 k (x7++[zC]) x8 x20 (wrap64 (vq+1))) else (none))) else (some (x7,0))
def mW.f (k:Nat) (ah:Int) (ag:List (List Int)) (a1:Int):Option (List Int×Int):=(uW.f k ah ag a1).bind fun zD=>(if zD=0 then ((uQ.f k ah ag).bind fun rG=>(mW.l0 k (([]:List Int)) rG (wrap64 (a1+1)) 0)) else (some (([]:List Int),zD)))
theorem mW.calls (k:Nat) (ah:Int) (aE:Option Addr) (aD:Nat) (ag:List (List Int)) (a1:Int) (r1:List Int) (r2:Int) (w:World) (cC:Kd.C (Kd.slice 2 (Kd.int .i64)) w aE ag.length ag) (cD:ag.length≤aD) (h:mW.f k ah ag a1=some (r1,r2)):
  Calls aiu 31 #[.agg #[.int .i64 ah, .slice aE ag.length aD], .int .i64 a1] w fun e w'=>∃dR:Value,e= .returned (.tuple #[dR, .int .i64 r2])∧Kd.R (Kd.int .i64) 2 w' w.heap.size (fun _=>True) dR r1∧Below w.heap.size w w':=by
 have fq:=aiy;have bL:=m_ cC;have bU:=m_ cD;clear cC cD;have HB:=m_ (ait w.heap.size w);have H:=h;unfold mW.f at H;clear h;obtain⟨zD,A3,H⟩:=bE H
 by_cases c4:zD=0
 ·rw[ak c4]at H
  obtain⟨dL,ij⟩:=dJ c4;clear c4;obtain⟨Vf,Vq,H⟩: ∃Vf:List Int,au (Vf=(([]:List Int)))∧((uQ.f k ah ag).bind fun rG=>(mW.l0 k Vf rG (wrap64 (a1+1)) 0))=some (r1,r2):=⟨_,⟨rfl⟩,H⟩;obtain⟨rG,A5,H⟩:=bE H;have H':=m_ H;clear H;go_enter Try.func31,Try.ntmps31;go_wp2_with (first|((with_reducible refine bO (N:=2) rfl ?_);refine cF (N:=2) (cs:= #[.int .i64 ah, .slice aE ag.length aD]) (t:=26) ?_;intro Va hg w6 aN hb;have U7:=m_ (aN);have Vn:=m_ ((by rw[hg];exact(aM aU):w.heap.size≤Va));have Vj:=m_ ((by rw[hg];exact(aM aU):w.heap.size≤Va));replace HB:=m_ (aI aU hb);clear hb aN hg)|((with_reducible refine bO (N:=3) rfl ?_);refine cF (N:=3) (cs:= #[.int .i64 a1]) (t:=2) ?_;intro U9 hg w7 aN hb;have U8:=m_ (aN);have Vo:=m_ ((by rw[hg];exact(aM ai):w.heap.size≤U9));have Vm:=m_ ((by rw[hg];exact(aM ai):w.heap.size≤U9));replace HB:=m_ (aI ai hb);have Vc:=m_ ((by rw[hg];exact air (ee (az U7.1 af)):Va≠U9));have Vh:=m_ Vc.1.symm;replace U7:=m_ (aQ U7.1 hb);clear hb aN hg;have xW:=Vc.1;have xX:=Vh.1;have lE:=aY U7.1;have lF:=aZ U7.1;have lV:=aA U7.1 0;have lG:=aA U7.1 1)|((with_reducible refine bp (f:=123) rfl ?_);refine bA (some 12) Try.func123 #[.agg #[.int .i64 ah, .slice aE ag.length aD], .func (.func 138) #[] #[.pointer (some ⟨U9,0,none⟩)]] ?_;(with_reducible refine(uW.calls k ah _ _ ag U9 a1 zD _ ?av ?ax ?cK A3.1).mono ?_);(case av=>exact Kd.aC (Kd.aC bL.1 HB.1) af);(case ax=>exact bU.1);(case cK=>exact(az U8.1 af));rintro e jc ⟨rfl,hb⟩;refine⟨_,rfl, ?_⟩;replace U7:=m_ (aQ U7.1 hb);replace U8:=m_ (aQ U8.1 hb);replace HB:=m_ (aI ai hb);clear hb)|((with_reducible refine bO (N:=16) rfl ?_);refine Kd.jK (Kd.int .i64) _ 2 ?hg (N:=16) ?hd (xs:=([]:List Int)) (inner:=[]) (ok:=fun _=>True) (cN:=fun _=>True) ?hr ?hp (fun _ hk=>hk) trivial (ait _ _) (agO _) bQ ?_;(case hd=>rfl);(case hg=>rfl);(case hr=>first|(go_simp;done)|(go_simp;rfl));(case hp=>exact(bP.none _ _));intro Vt lW Vg hb cW dH;clear cW dH;rw[← Vq.1]at Vg;have Ve:=m_ (Kd.eu (Kd.Ep Vg (g:=U9) (o:= .cells #[.int .i64 a1] 2 (0,0)) (az U8.1 af)) (aM ai));replace U7:=m_ (aQ U7.1 hb);replace U8:=m_ (aQ U8.1 hb);replace HB:=m_ (aI ai hb);clear hb Vg;have zE:=aY U7.1;have BB:=aZ U7.1;have zF:=aA U7.1 0;have BC:=aA U7.1 1)|((with_reducible refine bp (f:=139) rfl ?_);refine bA (some 18) Try.func139 #[.agg #[.int .i64 ah, .slice aE ag.length aD]] ?_;(with_reducible refine(uQ.calls k ah _ _ ag rG _ ?av ?ax A5.1).mono ?_);(case av=>exact Kd.aC (Kd.aC bL.1 HB.1) af);(case ax=>exact bU.1);rintro e qm ⟨Vi,rfl,aW,hb⟩;refine⟨_,rfl, ?_⟩;have Vr:=m_ (Kd.eu (Kd.Ep (Kd.nr aW (Kd.gq (Kd.bq Ve.1 af))) (g:=U9) (o:= .cells #[.int .i64 a1] 2 (0,0)) (az U8.1 af)) (aM ai));replace Ve:=m_ (Kd.ko (Kd.bq Ve.1 af) (Kd.dW aW) hb);replace U7:=m_ (aQ U7.1 hb);replace U8:=m_ (aQ U8.1 hb);replace HB:=m_ (aI ai hb);clear hb;(try clear aW);have xY:=aY U8.1;have xZ:=aA U8.1 0));go_loopg [7,21] k (fun kq v7 Vl w'=>∃(ck:List Int) (Vb:Int),Vl= .int .i64 Vb∧au (mW.l0 kq ck rG (wrap64 (a1+1)) Vb=some (r1,r2))∧au (kq≤k)∧au (Kd.R (Kd.int .i64) 2 w' w.heap.size (fun k_=>some k_≠(Vi:Value).ownBlock∧k_≠U9) v7 ck)∧au (Kd.R (Kd.int .i64) 2 w' w.heap.size (fun k_=>some k_≠(v7:Value).ownBlock∧k_≠U9) Vi rG)∧au (w'.heap[Va]? =some (.cells #[.int .i64 ah,(.slice aE ag.length aD)] 26 (0,0)))∧au (w'.heap[U9]? =some (.cells #[.int .i64 a1] 2 (0,0)))∧au (Below w.heap.size w w'))
  case atStart=>exact⟨(Vf),(0),bh,H',⟨agO _⟩,⟨by(with_reducible repeat (first|apply Kd.gr|apply Kd.gu|apply Kd.fM));exact Kd.cL Ve.1 (fun _ hk=>⟨hk.2,hk.1.2⟩)⟩,⟨by(with_reducible repeat (first|apply Kd.gr|apply Kd.gu|apply Kd.fM));exact Kd.cL Vr.1 (fun _ hk=>⟨hk.1.2,hk.2⟩)⟩,⟨az U7.1 af⟩,⟨az U8.1 af⟩,⟨ai⟩⟩
  case round=>
   clear H';obtain⟨ck,Vb,rfl,HA,bF,bV,fC,U7,U8,HB⟩:=hrel;cases gk with
   | zero=>exact absurd HA.1 (by simp[mW.l0])
   | succ k1=>
    have H:=HA.1;clear HA;simp only[mW.l0]at H
    by_cases c16:Vb<(wrap64 (a1+1))
    ·rw[ak c16]at H
     have zG:=aV c16;clear c16;obtain⟨zC,yc,H⟩:=bE H;obtain⟨c18,H⟩:=bJ H;have Hz:=m_ c18;clear c18;obtain⟨Vd,Vk,H⟩: ∃Vd:List Int,au (Vd=(ck++[zC]))∧(mW.l0 k1 Vd rG (wrap64 (a1+1)) (wrap64 (Vb+1)))=some (r1,r2):=⟨_,⟨rfl⟩,H⟩;have H':=m_ H;clear H;obtain⟨vu,tM,vv⟩:=Kd.eF fC.1;subst vv;go_wp2_with (first|((with_reducible refine bp (f:=140) rfl ?_);refine bA (some 27) Try.func140 #[.slice vu rG.length tM, .int .i64 Vb] ?_;(with_reducible refine(xd.calls _ _ rG Vb zC _ ?av ?ax yc.1).mono ?_);(case av=>exact Kd.aC (Kd.dh fC.1).2.2 af);(case ax=>exact(Kd.dh fC.1).2.1);rintro e w' ⟨rfl,⟨nd,rfl⟩⟩;refine⟨_,rfl, ?_⟩)|((with_reducible refine jk (b:= .append) (xs:= #[.tmp 24, .tmp 28]) rfl ?_);at_builtin;refine Kd.qn (Kd.int .i64) (w0:=w) w.heap.size rfl (.tmp 24) (.tmp 28) 29 2 (.int .i64 0) 8 rfl aiF kr rfl aG aa u7 ck zC [.int .i64 zC] (fun k_=>some k_≠(.slice vu rG.length tM:Value).ownBlock∧k_≠U9) (fun _=>False) rfl rfl ?aP (fun _ hk=>hk.elim) ?aF ?aO ?aB ?aS ?aL ?_;(case aP=>exact rfl);(case aB=>exact ai);(case aF=>exact(fun k_ hk=>⟨Kd.fresh' (Kd.gq (Kd.bq fC.1 af)) k_ hk,Kd.fu (g:=U9) (o:= .cells #[.int .i64 a1] 2 (0,0)) (az U8.1 af) k_ hk⟩));(case aO=>exact(Kd.bq bV.1 af));(case aS=>exact(aM ai));(case aL=>have:=Hz.1;omega);intro Vs qo ho hb hg hat;rw[← Vk.1]at ho;replace fC:=m_ (Kd.HC (ok:=(fun k_=>k_≠U9)) (Kd.bq (Kd.cL fC.1 (fun _ hk=>⟨hk.2,hk.1⟩)) af) hg hat);replace U7:=m_ (fV (az U7.1 af) hg (Kd.kX bV.1 U7.1 aG));replace U8:=m_ (fV (az U8.1 af) hg (Kd.aa8 bV.1 (fun _ hk=>hk.2)));replace HB:=m_ (hb);have Vp:=m_ (ho);clear bV;clear ho hb hg hat));go_roundg k1
     case measure=>have:=bF.1;omega
     case rel=>exact⟨(Vd),(wrap64 (Vb+1)),bh,H',⟨by have:=bF.1;omega⟩,⟨Kd.bq Vp.1 af⟩,⟨by(with_reducible repeat (first|apply Kd.gr|apply Kd.gu|apply Kd.fM));exact Kd.cL fC.1 (fun _ hk=>⟨hk.2,hk.1⟩)⟩,⟨az U7.1 af⟩,⟨az U8.1 af⟩,⟨ai⟩⟩
    ·rw[aj c16]at H
     have zG:=cj c16;clear c16;simp only[aiv,aiw]at H;obtain⟨rfl,rfl⟩:=H;go_wp2
     go_ret2
     exact⟨_,cG,by(with_reducible repeat (first|apply Kd.gr|apply Kd.gu|apply Kd.fM));exact Kd.cL bV.1 (fun _ hk=>trivial),ai⟩
 ·rw[aj c4]at H
  obtain⟨dL,ij⟩:=dK c4;simp only[aiv,aiw]at H;obtain⟨rfl,rfl⟩:=H;go_enter Try.func31,Try.ntmps31;go_wp2_with (first|((with_reducible refine bO (N:=2) rfl ?_);refine cF (N:=2) (cs:= #[.int .i64 ah, .slice aE ag.length aD]) (t:=26) ?_;intro Va hg vw aN hb;have U7:=m_ (aN);have Vn:=m_ ((by rw[hg];exact(aM aU):w.heap.size≤Va));have Vj:=m_ ((by rw[hg];exact(aM aU):w.heap.size≤Va));replace HB:=m_ (aI aU hb);clear hb aN hg)|((with_reducible refine bO (N:=3) rfl ?_);refine cF (N:=3) (cs:= #[.int .i64 a1]) (t:=2) ?_;intro U9 hg nP aN hb;have U8:=m_ (aN);have Vo:=m_ ((by rw[hg];exact(aM ai):w.heap.size≤U9));have Vm:=m_ ((by rw[hg];exact(aM ai):w.heap.size≤U9));replace HB:=m_ (aI ai hb);have Vc:=m_ ((by rw[hg];exact air (ee (az U7.1 af)):Va≠U9));have Vh:=m_ Vc.1.symm;replace U7:=m_ (aQ U7.1 hb);clear hb aN hg;have Vu:=Vc.1;have Vv:=Vh.1;have NS:=aY U7.1;have NT:=aZ U7.1;have NU:=aA U7.1 0;have NV:=aA U7.1 1)|((with_reducible refine bp (f:=123) rfl ?_);refine bA (some 12) Try.func123 #[.agg #[.int .i64 ah, .slice aE ag.length aD], .func (.func 138) #[] #[.pointer (some ⟨U9,0,none⟩)]] ?_;(with_reducible refine(uW.calls k ah _ _ ag U9 a1 zD _ ?av ?ax ?cK A3.1).mono ?_);(case av=>exact Kd.aC (Kd.aC bL.1 HB.1) af);(case ax=>exact bU.1);(case cK=>exact(az U8.1 af));rintro e HE ⟨rfl,hb⟩;refine⟨_,rfl, ?_⟩;replace U7:=m_ (aQ U7.1 hb);replace U8:=m_ (aQ U8.1 hb);replace HB:=m_ (aI ai hb);clear hb))
  go_ret2
  exact⟨_,cG,by first|exact Kd.nu _ _ _ _ _ |exact Kd.qQ _ _ _ _ _ |exact Kd.qR _ _ _ _ _ |exact Kd.qU _ _ _ _ _ |exact Kd.pJ _ _ _ _ _,ai⟩

def oq.l0:Nat→Int→Int→Int→Option (Int)
 | 0,_,_,_=>none
 | k+1,x0,x3,x4=>if x4≤x0 then (if x4=0 then (none) else (if (agT x0 x4)=0 then (if (agT (wrap64 (aiz x0 x4)) x4)=0 then (some 0) else (oq.l0 k (wrap64 (aiz x0 x4)) (wrap64 (-x3)) (wrap64 (x4+1)))) else (oq.l0 k x0 x3 (wrap64 (x4+1))))) else (some x3)
def oq.f (k:Nat) (a0:Int):Option (Int):=oq.l0 k a0 1 2
theorem oq.calls (k:Nat) (a0:Int) (r:Int) (w:World) (h:oq.f k a0=some r):
  Calls aiu 227 #[.int .i64 a0] w fun e w'=>e= .returned (.int .i64 r)∧bG w w':=by
 have H:=h;unfold oq.f at H;clear h;have H':=m_ H;clear H;go_enter Try.func227,Try.ntmps227;go_wp2;go_loopg [0,3,4] k (fun kq v0 v3 v4 w'=>∃(fW:Int) (eK:Int) (dS:Int),v0= .int .i64 fW∧v3= .int .i64 eK∧v4= .int .i64 dS∧au (oq.l0 kq fW eK dS=some r)∧au (kq≤k)∧bG w w')
 case atStart=>exact⟨(a0),(1),(2),bh,bh,bh,H',⟨agO _⟩,by repeat (first|exact bG.refl _ |apply bG.step)⟩
 case round=>
  clear H';obtain⟨fW,eK,dS,rfl,rfl,rfl,HA,bF,⟨m1,rfl⟩⟩:=hrel;cases gk with
  | zero=>exact absurd HA.1 (by simp[oq.l0])
  | succ k1=>
   have H:=HA.1;clear HA;simp only[oq.l0]at H
   by_cases c2:dS≤fW
   ·rw[ak c2]at H
    have tN:=aV c2;clear c2
    by_cases c3:dS=0
    ·rw[ak c3]at H
     exact absurd H bQ
    ·rw[aj c3]at H
     obtain⟨iE,oy⟩:=dK c3
     by_cases c4:(agT fW dS)=0
     ·rw[ak c4]at H
      obtain⟨dL,ij⟩:=dJ c4;clear c4
      by_cases c5:(agT (wrap64 (aiz fW dS)) dS)=0
      ·rw[ak c5]at H
       obtain⟨gH,tO⟩:=dJ c5;clear c5;obtain rfl:=aiq H;go_wp2;go_ret;exact⟨bh,by repeat (first|exact bG.refl _ |apply bG.step)⟩
      ·rw[aj c5]at H
       obtain⟨gH,tO⟩:=dK c5;have H':=m_ H;clear H;go_wp2;go_roundg k1
       case measure=>have:=bF.1;omega
       case rel=>exact⟨(wrap64 (aiz fW dS)),(wrap64 (-eK)),(wrap64 (dS+1)),bh,bh,bh,H',⟨by have:=bF.1;omega⟩,by repeat (first|exact bG.refl _ |apply bG.step)⟩
     ·rw[aj c4]at H
      obtain⟨dL,ij⟩:=dK c4;have H':=m_ H;clear H;go_wp2;go_roundg k1
      case measure=>have:=bF.1;omega
      case rel=>exact⟨(fW),(eK),(wrap64 (dS+1)),bh,bh,bh,H',⟨by have:=bF.1;omega⟩,by repeat (first|exact bG.refl _ |apply bG.step)⟩
   ·rw[aj c2]at H
    have tN:=cj c2;clear c2;obtain rfl:=aiq H;go_wp2;go_ret;exact⟨bh,by repeat (first|exact bG.refl _ |apply bG.step)⟩

def jr.l0:Nat→Int→Int→Int→Int→List (List Int)→Option (Int)
 | 0,_,_,_,_,_=>none
 | k+1,x1,x5,x6,U7,U8=>if x6≤x1 then (if x6=0 then (none) else (if (agT x1 x6)=0 then ((oq.f k (wrap64 (aiz x1 x6))).bind fun Es=>((ig.f k U7 U8 x6).bind fun Et=>(jr.l0 k x1 (wrap64 (x5+(wrap64 (Es*Et)))) (wrap64 (x6+1)) U7 U8))) else (jr.l0 k x1 x5 (wrap64 (x6+1)) U7 U8))) else (if x1=0 then (none) else (some (wrap64 (aiz x5 x1))))
def jr.f (k:Nat) (ah:Int) (ag:List (List Int)) (a1:Int):Option (Int):=jr.l0 k a1 0 1 ah ag
def jr.T6:Bool×List (List Nat×List Nat):=(true,[([],[]),([],[]),([],[]),([1,2],[1,2]),([3],[3]),([],[]),([],[]),([5,6,4],[5,6]),([4,7],[4,7]),([0,8],[0,8]),([9,7,0,1,2,3,4,5,6,7,8,9],[0,9])])
def jr.B6:List Nat:=[0,0,0,6,14,0,0,126,254,511,1023]
theorem jr.tab6:gC .any (opsOf Try.f141 6)=jr.T6:=by kernel_rfl
theorem jr.tP:kY jr.T6.2 jr.B6=true:=by kernel_rfl
theorem jr.calls (k:Nat) (ah:Int) (aE:Option Addr) (aD:Nat) (ag:List (List Int)) (a1:Int) (r:Int) (w:World) (cC:Kd.C (Kd.slice 2 (Kd.int .i64)) w aE ag.length ag) (cD:ag.length≤aD) (h:jr.f k ah ag a1=some r):
  Calls aiu 141 #[.agg #[.int .i64 ah, .slice aE ag.length aD], .int .i64 a1] w fun e w'=>e= .returned (.int .i64 r)∧Below w.heap.size w w':=by
 have fq:=aiy;have bL:=m_ cC;have bU:=m_ cD;clear cC cD;have HB:=m_ (ait w.heap.size w);have H:=h;unfold jr.f at H;clear h;have H':=m_ H;clear H;go_enter aiG,Try.ntmps141;go_wp2_with (first|((with_reducible refine bO (N:=2) rfl ?_);refine cF (N:=2) (cs:= #[.int .i64 ah, .slice aE ag.length aD]) (t:=26) ?_;intro U8 hg w3 aN hb;have U7:=m_ (aN);have Va:=m_ ((by rw[hg];exact(aM aU):w.heap.size≤U8));have U9:=m_ ((by rw[hg];exact(aM aU):w.heap.size≤U8));replace HB:=m_ (aI aU hb);clear hb aN hg));go_loopg [5,6] k (fun kq v5 v6 w'=>∃(cA:Int) (cT:Int),v5= .int .i64 cA∧v6= .int .i64 cT∧au (jr.l0 kq a1 cA cT ah ag=some r)∧au (kq≤k)∧au (w'.heap[U8]? =some (.cells #[.int .i64 ah,(.slice aE ag.length aD)] 26 (0,0)))∧au (Below w.heap.size w w'))
 case atStart=>exact⟨(0),(1),bh,bh,H',⟨agO _⟩,⟨az U7.1 af⟩,⟨ai⟩⟩
 case round=>
  clear H';obtain⟨cA,cT,rfl,rfl,HA,bF,U7,HB⟩:=hrel;cases gk with
  | zero=>exact absurd HA.1 (by simp[jr.l0])
  | succ k1=>
   have H:=HA.1;clear HA;simp only[jr.l0]at H
   by_cases c4:cT≤a1
   ·rw[ak c4]at H
    have dL:=aV c4;clear c4
    by_cases c5:cT=0
    ·rw[ak c5]at H
     exact absurd H bQ
    ·rw[aj c5]at H
     obtain⟨gH,tO⟩:=dK c5
     by_cases c6:(agT a1 cT)=0
     ·rw[ak c6]at H
      obtain⟨gD,lH⟩:=dJ c6;clear c6;obtain⟨Es,A7,H⟩:=bE H;obtain⟨Et,A8,H⟩:=bE H;have H':=m_ H;clear H
      try go_wp2
      replace U7:=m_ (bM U7.1);replace HB:=m_ (iq HB.1);refine jl (n:=11) (S:=fun w'=>w'.cell? ⟨U8,0,none⟩=some (.int .i64 ah)∧w'.cell? ⟨U8,1,none⟩=some (.slice aE ag.length aD)) (ds:=[]) #[false,false,false,false,false,false,false,false,false,false,false] bI rfl rfl ⟨aY U7.1,aZ U7.1⟩ (fun hHeld=> ?_);refine jU jr.tab6 jr.tP (fun eA jV=> ?_);generalize wr.drew=w9 at U7 HB hHeld ⊢;refine aX 0 11 16 1 ?_;refine aX 1 11 17 3 ?_;refine aX 2 11 18 7 ?_;refine aX 3 11 19 15 ?_;refine aX 6 11 22 79 ?_;refine cX 5 11 21 111 hHeld ?_;refine gi 4 11 (some 20) 127 (fun K hK=> ?_);refine gI Try.func227 bI rfl #[.int .i64 (wrap64 (aiz a1 cT))] (by rfl) rfl rfl iM ?_
      with_reducible refine(oq.calls k1 (wrap64 (aiz a1 cT)) Es _ A7.1).mono ?_
      rintro e w' ⟨rfl,⟨nd,rfl⟩⟩;refine⟨_,rfl, ?_⟩;refine hK.out _ _ ⟨aY U7.1,aZ U7.1⟩ (fun hHeld=> ?_);clear hK K;refine eH ?_;refine gi 7 11 (some 23) 255 (fun K hK=> ?_);refine gI Try.func134 bI rfl #[.agg #[.int .i64 ah, .slice aE ag.length aD], .int .i64 cT] (by rfl) rfl rfl iM ?_
      with_reducible refine(ig.calls k1 ah _ _ ag cT Et _ ?av ?ax A8.1).mono ?_
      (case av=>exact Kd.aC (Kd.aC bL.1 ai) af);(case ax=>exact bU.1);rintro e jc ⟨rfl,hb⟩;refine⟨_,rfl, ?_⟩;replace U7:=m_ (aQ U7.1 hb);replace HB:=m_ (aI ai hb);refine hK.out _ _ ⟨aY U7.1,aZ U7.1⟩ (fun hHeld=> ?_);clear hK K;refine eH ?_;refine aX 8 11 24 511 ?_;refine aX 9 11 25 1023 ?_;refine aX 10 11 5 2047 ?_;refine ja (jC eA.1 bI) ?_
      try go_wp2
      go_roundg k1
      case measure=>have:=bF.1;omega
      case rel=>exact⟨(wrap64 (cA+(wrap64 (Es*Et)))),(wrap64 (cT+1)),bh,bh,H',⟨by have:=bF.1;omega⟩,⟨az U7.1 af⟩,⟨ai⟩⟩
     ·rw[aj c6]at H
      obtain⟨gD,lH⟩:=dK c6;have H':=m_ H;clear H;go_wp2;go_roundg k1
      case measure=>have:=bF.1;omega
      case rel=>exact⟨(cA),(wrap64 (cT+1)),bh,bh,H',⟨by have:=bF.1;omega⟩,⟨az U7.1 af⟩,⟨ai⟩⟩
   ·rw[aj c4]at H
    have dL:=cj c4;clear c4
    by_cases c11:a1=0
    ·rw[ak c11]at H
     exact absurd H bQ
    ·rw[aj c11]at H
     obtain⟨ku,tQ⟩:=dK c11;obtain rfl:=aiq H;go_wp2;go_ret;exact⟨cG,ai⟩

def oM.l0:Nat→Int→Int→Int→Int→Option (Int)
 | 0,_,_,_,_=>none
 | k+1,x0,x1,x5,x6=>if x6<x1 then (if (wrap64 (x6+1))=0 then (none) else (oM.l0 k x0 x1 (wrap64 (aiz (wrap64 (x5*(wrap64 (x0 - x6)))) (wrap64 (x6+1)))) (wrap64 (x6+1)))) else (some x5)
def oM.f (k:Nat) (a0:Int) (a1:Int):Option (Int):=oM.l0 k a0 a1 1 0
theorem oM.calls (k:Nat) (a0:Int) (a1:Int) (r:Int) (w:World) (h:oM.f k a0 a1=some r):
  Calls aiu 142 #[.int .i64 a0, .int .i64 a1] w fun e w'=>e= .returned (.int .i64 r)∧bG w w':=by
 have H:=h;unfold oM.f at H;clear h;have H':=m_ H;clear H;go_enter Try.func142,Try.ntmps142;go_wp2;go_loopg [5,6] k (fun kq v5 v6 w'=>∃(cA:Int) (cT:Int),v5= .int .i64 cA∧v6= .int .i64 cT∧au (oM.l0 kq a0 a1 cA cT=some r)∧au (kq≤k)∧bG w w')
 case atStart=>exact⟨(1),(0),bh,bh,H',⟨agO _⟩,by repeat (first|exact bG.refl _ |apply bG.step)⟩
 case round=>
  clear H';obtain⟨cA,cT,rfl,rfl,HA,bF,⟨m1,rfl⟩⟩:=hrel;cases gk with
  | zero=>exact absurd HA.1 (by simp[oM.l0])
  | succ k1=>
   have H:=HA.1;clear HA;simp only[oM.l0]at H
   by_cases c3:cT<a1
   ·rw[ak c3]at H
    have iE:=aV c3;clear c3
    by_cases c4:(wrap64 (cT+1))=0
    ·rw[ak c4]at H
     exact absurd H bQ
    ·rw[aj c4]at H
     obtain⟨dL,ij⟩:=dK c4;have H':=m_ H;clear H;go_wp2;go_roundg k1
     case measure=>have:=bF.1;omega
     case rel=>exact⟨(wrap64 (aiz (wrap64 (cA*(wrap64 (a0 - cT)))) (wrap64 (cT+1)))),(wrap64 (cT+1)),bh,bh,H',⟨by have:=bF.1;omega⟩,by repeat (first|exact bG.refl _ |apply bG.step)⟩
   ·rw[aj c3]at H
    have iE:=cj c3;clear c3;obtain rfl:=aiq H;go_wp2;go_ret;exact⟨bh,by repeat (first|exact bG.refl _ |apply bG.step)⟩

mutual
def eD.l0:Nat→Int→List Int→Int→Int→List (List Int)→Option (List Int×Int)
 | 0,_,_,_,_,_=>none
 | k+1,x1,x7,x8,rH,rI=>if x8≤x1 then ((jr.f k rH rI x8).bind fun oz=>(if 0≤(wrap64 (x1+1)) then (if (wrap64 (x1+1):Int).toNat≤35184372088832 then (eD.l1 k x1 x7 x8 oz (ahz (wrap64 (x1+1):Int).toNat 0) 0 rH rI) else (none)) else (none))) else (some (x7,0))
def eD.l1:Nat→Int→List Int→Int→Int→List Int→Int→Int→List (List Int)→Option (List Int×Int)
 | 0,_,_,_,_,_,_,_,_=>none
 | k+1,x1,x7,x8,x9,eC,dX,rH,rI=>if (wrap64 (dX*x8))≤x1 then (eD.j2 k x1 x7 x8 x9 eC dX (decide (dX≤x9)) rH rI) else (eD.j2 k x1 x7 x8 x9 eC dX false rH rI)
def eD.j2:Nat→Int→List Int→Int→Int→List Int→Int→Bool→Int→List (List Int)→Option (List Int×Int)
 | 0,_,_,_,_,_,_,_,_,_=>none
 | k+1,x1,x7,x8,x9,eC,dX,U7,rH,rI=>if U7=true then ((oM.f k x9 dX).bind fun sG=>(eD.l2 k x1 x7 x8 x9 eC dX (wrap64 (sG*(wrap64 (1 - (wrap64 (2*(agT dX 2))))))) (wrap64 (dX*x8)) rH rI)) else (eD.l0 k x1 eC (wrap64 (x8+1)) rH rI)
def eD.l2:Nat→Int→List Int→Int→Int→List Int→Int→Int→Int→Int→List (List Int)→Option (List Int×Int)
 | 0,_,_,_,_,_,_,_,_,_,_=>none
 | k+1,x1,x7,x8,x9,eC,dX,gJ,iF,rH,rI=>if iF≤x1 then (if 0≤iF then (if iF<(eC.length:Int) then (if 0≤(wrap64 (iF - (wrap64 (dX*x8)))) then (if (wrap64 (iF - (wrap64 (dX*x8))))<(x7.length:Int) then (eD.l2 k x1 x7 x8 x9 (eC.set (iF:Int).toNat (wrap64 ((rd eC iF)+(wrap64 (gJ*(rd x7 (wrap64 (iF - (wrap64 (dX*x8)))))))))) dX gJ (wrap64 (iF+1)) rH rI) else (none)) else (none)) else (none)) else (none)) else (eD.l1 k x1 x7 x8 x9 eC (wrap64 (dX+1)) rH rI)
end
def eD.f (k:Nat) (ah:Int) (ag:List (List Int)) (a1:Int):Option (List Int×Int):=(kU.f k ah ag a1 0).bind fun zH=>(if zH=0 then (if 0≤(wrap64 (a1+1)) then (if (wrap64 (a1+1):Int).toNat≤35184372088832 then ((some (ahz (wrap64 (a1+1):Int).toNat 0:List Int)).bind fun oZ=>(if 0<(oZ.length:Int) then (eD.l0 k a1 (oZ.set (0:Int).toNat 1) 1 ah ag) else (none))) else (none)) else (none)) else (some (([]:List Int),zH)))
def eD.T9:Bool×List (List Nat×List Nat):=(true,[([],[]),([],[]),([0,1],[0,1]),([],[]),([3],[3]),([4,4],[4]),([2,2,0,1,2],[2]),([5,6,0,1,2,3,4,5,6],[5])])
def eD.B9:List Nat:=[0,0,3,0,8,24,7,127]
theorem eD.yd:gC .any (opsOf Try.f32 9)=eD.T9:=by kernel_rfl
theorem eD.ye:kY eD.T9.2 eD.B9=true:=by kernel_rfl
def eD.BD:Bool×List (List Nat×List Nat):=(true,[([],[]),([],[]),([],[]),([],[]),([2,3],[2,3]),([4],[4]),([],[]),([],[]),([],[]),([],[]),([],[]),([9,10],[9,10]),([8,11],[8,11]),([7,12],[7,12]),([13],[13]),([6,14],[6,14]),([5,15],[5,15]),([0,1,0,1,2,3,4,5,6,7,8,9,10,11,12,13,14,15,16],[0,1]),([17,16,0,1,2,3,4,5,6,7,8,9,10,11,12,13,14,15,16],[16,17])])
def eD.HG:List Nat:=[0,0,0,0,12,28,0,0,0,0,0,1536,3840,8064,16256,32704,65532,131071,262143]
theorem eD.HH:gC .any (opsOf Try.f32 17)=eD.BD:=by kernel_rfl
theorem eD.HI:kY eD.BD.2 eD.HG=true:=by kernel_rfl
theorem eD.calls (k:Nat) (ah:Int) (aE:Option Addr) (aD:Nat) (ag:List (List Int)) (a1:Int) (r1:List Int) (r2:Int) (w:World) (cC:Kd.C (Kd.slice 2 (Kd.int .i64)) w aE ag.length ag) (cD:ag.length≤aD) (h:eD.f k ah ag a1=some (r1,r2)):
  Calls aiu 32 #[.agg #[.int .i64 ah, .slice aE ag.length aD], .int .i64 a1] w fun e w'=>∃dR:Value,e= .returned (.tuple #[dR, .int .i64 r2])∧Kd.R (Kd.int .i64) 2 w' w.heap.size (fun _=>True) dR r1∧Below w.heap.size w w':=by
 have fq:=aiy;have bL:=m_ cC;have bU:=m_ cD;clear cC cD;have HB:=m_ (ait w.heap.size w);have H:=h;unfold eD.f at H;clear h;obtain⟨zH,A3,H⟩:=bE H
 by_cases c4:zH=0
 ·rw[ak c4]at H
  obtain⟨dL,ij⟩:=dJ c4;clear c4;obtain⟨kz,kA⟩: ∃j_:Int,(wrap64 (a1+1))=j_:=⟨_,rfl⟩;(try rw[kA]);replace H:(if 0≤(kz) then (if (kz:Int).toNat≤35184372088832 then ((some (ahz (kz:Int).toNat 0:List Int)).bind fun oZ=>(if 0<(oZ.length:Int) then (eD.l0 k a1 (oZ.set (0:Int).toNat 1) 1 ah ag) else (none))) else (none)) else (none))=some (r1,r2):=by first|(rw[kA]at H;exact H)|(simp only[kA]at H ⊢;exact H)
  (try rw[kA]at A3);have NW:(IntKind.i64.wrap (a1+1))=kz:=(eV _).trans kA;obtain⟨c6,H⟩:=bJ H;have gD:=aJ c6;have lH:=aV c6;clear c6;obtain⟨c7,H⟩:=bJ H;have iN:=aJ c7;have pK:=aV c7;clear c7;obtain⟨oZ,VO,H⟩: ∃oZ:List Int,au (oZ=(ahz (kz:Int).toNat 0))∧(if 0<(oZ.length:Int) then (eD.l0 k a1 (oZ.set (0:Int).toNat 1) 1 ah ag) else (none))=some (r1,r2):=⟨_,⟨rfl⟩,H⟩;obtain⟨c8,H⟩:=bJ H;have nQ:=aV c8;have sH:decide (0<oZ.length)=true:=aV aa;clear c8;obtain⟨Vj,VL,H⟩: ∃Vj:List Int,au (Vj=(oZ.set (0:Int).toNat 1))∧(eD.l0 k a1 Vj 1 ah ag)=some (r1,r2):=⟨_,⟨rfl⟩,H⟩;have H':=m_ H;clear H;go_enter Try.func32,Try.ntmps32;go_wp2_with (first|((with_reducible refine bO (N:=2) rfl ?_);refine cF (N:=2) (cs:= #[.int .i64 ah, .slice aE ag.length aD]) (t:=26) ?_;intro Va hg jc aN hb;have U7:=m_ (aN);have VP:=m_ ((by rw[hg];exact(aM aU):w.heap.size≤Va));have VM:=m_ ((by rw[hg];exact(aM aU):w.heap.size≤Va));replace HB:=m_ (aI aU hb);clear hb aN hg;have Eu:=aY U7.1;have Ew:=aZ U7.1;have Ey:=aA U7.1 0;have Ez:=aA U7.1 1)|((with_reducible refine bp (f:=118) rfl ?_);refine bA (some 16) aiE #[.agg #[.int .i64 ah, .slice aE ag.length aD], .int .i64 a1, .int .i64 0] ?_;(with_reducible refine(kU.calls k ah _ _ ag a1 0 zH _ ?av ?ax A3.1).mono ?_);(case av=>exact Kd.aC (Kd.aC bL.1 HB.1) af);(case ax=>exact bU.1);rintro e kW ⟨rfl,hb⟩;refine⟨_,rfl, ?_⟩;replace U7:=m_ (aQ U7.1 hb);replace HB:=m_ (aI ai hb);clear hb)|((with_reducible refine bO (N:=22) rfl ?_);refine Kd.EA (Kd.int .i64) _ 2 rfl (N:=22) rfl 29 _ _ rfl kz rfl rfl aiF (.int .i64 0) 8 kr rfl aG aa 0 (ok:=fun _=>True) (cN:=fun _=>True) rfl (fun _ hk=>hk) trivial (aT) (ahO (aiJ _ (aT:kz.toNat≤35184372088832)) aa) (ait _ _) (agO _) ?_;intro VW nA Vp hb cW dH;clear cW dH;rw[← VO.1]at Vp;have Ve:=m_ (Kd.eu Vp (aM ai));replace U7:=m_ (aQ U7.1 hb);replace HB:=m_ (aI ai hb);clear hb Vp;have p9:0≤(0:Int):=aa;have q9:(0:Int)<((oZ.length:Int):Int):=aT;have V0:(0<oZ.length)=True:=aJ aa;obtain⟨Vo,kG,nB,gb9,VQ,V1,VG⟩:=Kd.qV Ve.1 aa;(first|cases nB|(injection nB with di fZ gb;(first|subst di|(injection di with di;subst di));subst gb;clear fZ));have VU:=m_ gb9;have V3:=m_ VG;clear gb9 VQ VG;obtain⟨VB,VD⟩:=Kd.oA 0 Ve.1 (0:Int) p9 q9;(try rw[show((0:Int)).toNat=0 from rfl]at VB);(try simp only[Nat.reduceMul,Nat.zero_mul,Nat.zero_add,Nat.reduceAdd]at VB);(try rw[show((0:Int)).toNat=0 from rfl]at VD);(try simp only[Nat.reduceMul,Nat.zero_mul,Nat.zero_add,Nat.reduceAdd]at VD);replace p9:=aJ p9;replace q9:=aJ q9;obtain⟨VJ,VF⟩:=Kd.oA 0 Ve.1 (0:Int) aa (aT);(try simp only[Int.reduceToNat,Int.toNat_zero,Int.toNat_ofNat,Nat.reduceMul,Nat.zero_mul,Nat.zero_add]at VJ VF);(try rw[show((0:Int)).toNat=0 from rfl]at VJ);(try rw[show((0:Int)).toNat=0 from rfl]at VF);have Vu:=Kd.zI Ve.1 (0:Int) 1)|((with_reducible refine EB (t:=2) (p:=24) rfl ?_);refine EC (t:=2) (p:=24) (v:= ?V2) (w1:=(nA.setCell ⟨Vo,(0:Int).toNat,none⟩ (.int .i64 1))) ?hg ?ho ?hn ?hr ?_;(case ho=>rfl);(case hg=>rfl);(case hn=>rfl);(case hr=>first|(go_simp;done)|(go_simp;rfl));intro oB hw;have hg:nA.grownBy oB (some Vo):=(by rw[hw];exact Vu.2);have rJ:Kd.R (Kd.int .i64) 2 oB w.heap.size (fun _=>True) (.slice (some ⟨Vo,0,none⟩) oZ.length kG) Vj:=(by rw[hw,VL.1];exact Vu.1);clear Vu;replace U7:=m_ (fV (az U7.1 af) hg (Kd.kX Ve.1 U7.1 aG));replace Ve:=m_ (rJ);replace HB:=m_ ((by rw[hw];exact mF (HB.1) VU.1:Below w.heap.size w oB));clear hg hw rJ));go_loopg [7,8] k (fun kq v7 v8 w'=>∃(ck:List Int) (cl:Int),v8= .int .i64 cl∧au (eD.l0 kq a1 ck cl ah ag=some (r1,r2))∧au (kq≤k)∧au (Kd.R (Kd.int .i64) 2 w' w.heap.size (fun _=>True) v7 ck)∧au (w'.heap[Va]? =some (.cells #[.int .i64 ah,(.slice aE ag.length aD)] 26 (0,0)))∧au (Below w.heap.size w w'))
  case atStart=>exact⟨(Vj),(1),bh,H',⟨agO _⟩,⟨Kd.bq Ve.1 af⟩,⟨az U7.1 af⟩,⟨ai⟩⟩
  case round=>
   clear H';obtain⟨ck,cl,rfl,HA,bF,bV,U7,HB⟩:=hrel;cases gk with
   | zero=>exact absurd HA.1 (by simp[eD.l0])
   | succ k1=>
    have H:=HA.1;clear HA;simp only[eD.l0]at H
    by_cases c17:cl≤a1
    ·rw[ak c17]at H
     have vz:=aV c17;clear c17;obtain⟨oz,zJ,H⟩:=bE H
     skip
     (try rw[kA]);replace H:(if 0≤(kz) then (if (kz:Int).toNat≤35184372088832 then (eD.l1 k1 a1 ck cl oz (ahz (kz:Int).toNat 0) 0 ah ag) else (none)) else (none))=some (r1,r2):=by first|(rw[kA]at H;exact H)|(simp only[kA]at H ⊢;exact H)
     (try rw[kA]at zJ);have NW:(IntKind.i64.wrap (a1+1))=kz:=(eV _).trans kA;obtain⟨c19,H⟩:=bJ H;have rK:=aJ c19;have BF:=aV c19;clear c19;obtain⟨kB,H⟩:=bJ H;have BG:=aJ kB;have HJ:=aV kB;clear kB;obtain⟨Vh,VC,H⟩: ∃Vh:List Int,au (Vh=(ahz (kz:Int).toNat 0))∧(eD.l1 k1 a1 ck cl oz Vh 0 ah ag)=some (r1,r2):=⟨_,⟨rfl⟩,H⟩;have H':=m_ H;clear H
     try go_wp2
     replace bV:=m_ (Kd.fM bV.1);replace U7:=m_ (bM U7.1);replace HB:=m_ (iq HB.1);refine jl (n:=8) (S:=fun w'=>w'.cell? ⟨Va,0,none⟩=some (.int .i64 ah)∧w'.cell? ⟨Va,1,none⟩=some (.slice aE ag.length aD)) (ds:=[]) #[false,false,false,false,false,false,false,false] bI rfl rfl ⟨aY U7.1,aZ U7.1⟩ (fun hHeld=> ?_);refine jU eD.yd eD.ye (fun eA jV=> ?_);generalize wr.drew=vw at bV U7 HB hHeld ⊢;refine aX 1 8 31 2 ?_;refine aX 3 8 33 10 ?_;refine aX 4 8 34 26 ?_;refine cX 0 8 30 27 hHeld ?_;refine qW (σ:=Value) 1 #[true,true,true,true,true,true,true,false] (fun s_=>[(32, .int .i64 oz),(35,s_),(9, .int .i64 oz)]) (fun s_ w'=>(w'.cell? ⟨Va,0,none⟩=some (.int .i64 ah)∧w'.cell? ⟨Va,1,none⟩=some (.slice aE ag.length aD))∧(Kd.R (Kd.int .i64) 2 w' w.heap.size (fun k_=>some k_≠(u7:Value).ownBlock) s_ Vh)∧(Kd.R (Kd.int .i64) 2 w' w.heap.size (fun k_=>some k_≠(s_:Value).ownBlock) u7 ck)∧(w'.heap[Va]? =some (.cells #[.int .i64 ah, .slice aE ag.length aD] 26 (0,0)))∧(Below w.heap.size w w')) ?_ ?_
     rotate_left
     ·intro VH
      refine zK (i:=2) (j:=5) (Ni:=some 32) (Nj:=some 35) #[true,true,true,true,true,false,false,false] #[true,true,false,true,true,true,false,false] rfl rfl rfl rfl (zL eA.1 bI) aG aG (fun K hK=> ?_) (fun K hK=> ?_)
      ·skip
       refine gI aiG bI rfl #[.agg #[.int .i64 ah, .slice aE ag.length aD], .int .i64 cl] (by rfl) rfl rfl iM ?_
       with_reducible refine(jr.calls k1 ah _ _ ag cl oz _ ?av ?ax zJ.1).mono ?_
       (case av=>exact Kd.aC (Kd.aC bL.1 HB.1) af);(case ax=>exact bU.1);rintro e nP ⟨rfl,hb⟩;refine⟨_,rfl, ?_⟩;replace bV:=m_ (Kd.bq (Kd.bq bV.1 af) hb);replace U7:=m_ (aQ U7.1 hb);replace HB:=m_ (aI ai hb);refine hK.out _ _ ⟨aY U7.1,aZ U7.1⟩ (fun hHeld=> ?_);clear hK K;refine eH ?_;refine aX 6 8 9 95 ?_;refine gi 5 8 (some 35) 127 (fun K hK=> ?_);refine Kd.NX (Kd.int .i64) _ 2 (by rfl) (N:=35) rfl 29 _ _ rfl kz rfl rfl aiF (.int .i64 0) 8 kr rfl aG aa 0 (ok:=fun _=>True) (cN:=fun _=>True) rfl (fun _ hk=>hk) trivial (aT) (ahO (aiJ _ (aT:kz.toNat≤35184372088832)) aa) (ait _ _) (agO _) ?_;intro Vc vA Vn hb cW dH;clear cW dH;rw[← VC.1]at Vn;have Vd:=m_ (Kd.eu (Kd.nr Vn (Kd.gq (Kd.bq bV.1 af))) (aM ai));replace bV:=m_ (Kd.ko (Kd.bq bV.1 af) (Kd.dW Vn) hb);replace U7:=m_ (aQ U7.1 hb);replace HB:=m_ (aI ai hb);clear hb Vn;refine hK.out _ _ ⟨aY U7.1,aZ U7.1⟩ (fun hHeld=> ?_);clear hK K;refine eH ?_;exact oC (by simp only[mG,aiA,aiB,aiC,aiD]) (VH (Vc) _ ⟨hHeld,(Kd.bq (Kd.cL Vd.1 (fun _ hk=>hk.2)) af),(Kd.bq (Kd.cL bV.1 (fun _ hk=>hk.2)) af),(az U7.1 af),ai⟩)
      ·skip
       refine Kd.NX (Kd.int .i64) _ 2 (by rfl) (N:=35) rfl 29 _ _ rfl kz rfl rfl aiF (.int .i64 0) 8 kr rfl aG aa 0 (ok:=fun _=>True) (cN:=fun _=>True) rfl (fun _ hk=>hk) trivial (aT) (ahO (aiJ _ (aT:kz.toNat≤35184372088832)) aa) (ait _ _) (agO _) ?_;intro Vc nP Vl hb cW dH;clear cW dH;rw[← VC.1]at Vl;have Vd:=m_ (Kd.eu (Kd.nr Vl (Kd.gq (Kd.bq bV.1 af))) (aM ai));replace bV:=m_ (Kd.ko (Kd.bq bV.1 af) (Kd.dW Vl) hb);replace U7:=m_ (aQ U7.1 hb);replace HB:=m_ (aI ai hb);clear hb Vl;refine hK.out _ _ ⟨aY U7.1,aZ U7.1⟩ (fun hHeld=> ?_);clear hK K;refine eH ?_;refine gi 2 8 (some 32) 63 (fun K hK=> ?_);refine gI aiG bI rfl #[.agg #[.int .i64 ah, .slice aE ag.length aD], .int .i64 cl] (by rfl) rfl rfl iM ?_
       with_reducible refine(jr.calls k1 ah _ _ ag cl oz _ ?av ?ax zJ.1).mono ?_
       (case av=>exact Kd.aC (Kd.aC bL.1 HB.1) af);(case ax=>exact bU.1);rintro e zM ⟨rfl,hb⟩;refine⟨_,rfl, ?_⟩;replace bV:=m_ (Kd.bq (Kd.bq bV.1 af) hb);replace Vd:=m_ (Kd.bq (Kd.bq Vd.1 af) hb);replace U7:=m_ (aQ U7.1 hb);replace HB:=m_ (aI ai hb);refine hK.out _ _ ⟨aY U7.1,aZ U7.1⟩ (fun hHeld=> ?_);clear hK K;refine eH ?_;refine aX 6 8 9 127 ?_;exact oC (by simp only[mG,aiA,aiB,aiC,aiD]) (VH (Vc) _ ⟨hHeld,(Kd.bq (Kd.cL Vd.1 (fun _ hk=>hk.2)) af),(Kd.bq (Kd.cL bV.1 (fun _ hk=>hk.2)) af),(az U7.1 af),ai⟩)
     rintro Vc HE ⟨VK,Vt,Vv,ED,Vy⟩
     try dsimp only at VK Vt Vv ED Vy
     have lI:=m_ Vt;have lJ:=m_ Vv;have tR:=m_ ED;have zN:=m_ Vy;clear bV;clear U7;clear HB;clear Vt Vv ED Vy;have Vd:=lI;have bV:=lJ;have U7:=tR;have HB:=zN;clear lI lJ tR zN;have hHeld:=VK;refine oC (a':= ?_) ?_ ?_
     rotate_left
     ·simp only[mG,aiA,aiB,aiC,aiD]
      rfl
     refine aX 7 8 10 255 ?_;refine ja (jC eA.1 bI) ?_
     try go_wp2
     go_loopg [11] k1 (fun kq v11 w'=>∃(kC:List Int) (U9:Int),v11= .int .i64 U9∧au (eD.l1 kq a1 ck cl oz kC U9 ah ag=some (r1,r2))∧au (kq≤k1)∧au (Kd.R (Kd.int .i64) 2 w' w.heap.size (fun k_=>some k_≠(Vc:Value).ownBlock) u7 ck)∧au (Kd.R (Kd.int .i64) 2 w' w.heap.size (fun k_=>some k_≠(u7:Value).ownBlock) Vc kC)∧au (w'.heap[Va]? =some (.cells #[.int .i64 ah,(.slice aE ag.length aD)] 26 (0,0)))∧au (Below w.heap.size w w'))
     case atStart=>exact⟨(Vh),(0),bh,H',⟨agO _⟩,⟨Kd.bq bV.1 af⟩,⟨Kd.bq Vd.1 af⟩,⟨az U7.1 af⟩,⟨ai⟩⟩
     case round=>
      clear H';obtain⟨kC,U9,rfl,HA,cU,bV,gQ,U7,HB⟩:=hrel;cases gk with
      | zero=>exact absurd HA.1 (by simp[eD.l1])
      | succ k2=>
       have H:=HA.1;clear HA;simp only[eD.l1]at H;have Vz:=m_ H;clear H;go_upto_region 11 with (fail)
       go_cut [45] (fun HM wc=>∃(kq:Nat) (Vm:Bool),HM= .bool Vm∧au (eD.j2 kq a1 ck cl oz kC U9 Vm ah ag=some (r1,r2))∧au (kq≤k2)∧au (Kd.R (Kd.int .i64) 2 wc w.heap.size (fun k_=>some k_≠(Vc:Value).ownBlock) u7 ck)∧au (Kd.R (Kd.int .i64) 2 wc w.heap.size (fun k_=>some k_≠(u7:Value).ownBlock) Vc kC)∧au (wc.heap[Va]? =some (.cells #[.int .i64 ah,(.slice aE ag.length aD)] 26 (0,0)))∧au (Below w.heap.size w wc))
       case first=>
        have H:=Vz.1;clear Vz
        by_cases jd:(wrap64 (U9*cl))≤a1
        ·rw[ak jd]at H
         have tS:=aV jd;clear jd;(first|rw[tS]|(simp only[eV,gK];rw[tS])|skip);have H':=m_ H;clear H;go_wp2;go_meet
         case rel=>exact⟨_,(decide (U9≤oz)),bh,H',⟨by have:=bF.1;have:=cU.1;first|omega|exact agO _⟩,⟨Kd.bq bV.1 af⟩,⟨Kd.bq gQ.1 af⟩,⟨az U7.1 af⟩,⟨ai⟩⟩
        ·rw[aj jd]at H
         have tS:=cj jd;clear jd;(first|rw[tS]|(simp only[eV,gK];rw[tS])|skip);have H':=m_ H;clear H;go_wp2;go_meet
         case rel=>exact⟨_,(false),bh,H',⟨by have:=bF.1;have:=cU.1;first|omega|exact agO _⟩,⟨Kd.bq bV.1 af⟩,⟨Kd.bq gQ.1 af⟩,⟨az U7.1 af⟩,⟨ai⟩⟩
       case rest=>
        clear Vz;obtain⟨kq,Vm,rfl,HA,Vf,bV,gQ,U7,HB⟩:=hcut;cases kq with
        | zero=>exact absurd HA.1 (by simp[eD.j2])
        | succ Vg=>
         have H:=HA.1;clear HA;simp only[eD.j2]at H
         by_cases qX:Vm=true
         ·subst qX
          rw[ak rfl]at H;obtain⟨sG,yf,H⟩:=bE H;have H':=m_ H;clear H;go_wp2_with (first|((with_reducible refine bp (f:=142) rfl ?_);refine bA (some 50) Try.func142 #[.int .i64 oz, .int .i64 U9] ?_;(with_reducible refine(oM.calls Vg oz U9 sG _ yf.1).mono ?_);rintro e w' ⟨rfl,⟨nd,rfl⟩⟩;refine⟨_,rfl, ?_⟩));go_loopg [13] Vg (fun kq rL w'=>∃(jt:List Int) (U8:Int),rL= .int .i64 U8∧au (eD.l2 kq a1 ck cl oz jt U9 (wrap64 (sG*(wrap64 (1 - (wrap64 (2*(agT U9 2))))))) U8 ah ag=some (r1,r2))∧au (kq≤Vg)∧au (Kd.R (Kd.int .i64) 2 w' w.heap.size (fun k_=>some k_≠(Vc:Value).ownBlock) u7 ck)∧au (Kd.R (Kd.int .i64) 2 w' w.heap.size (fun k_=>some k_≠(u7:Value).ownBlock) Vc jt)∧au (w'.heap[Va]? =some (.cells #[.int .i64 ah,(.slice aE ag.length aD)] 26 (0,0)))∧au (Below w.heap.size w w'))
          case atStart=>exact⟨(kC),(wrap64 (U9*cl)),bh,H',⟨agO _⟩,⟨Kd.bq bV.1 af⟩,⟨Kd.bq gQ.1 af⟩,⟨az U7.1 af⟩,⟨ai⟩⟩
          case round=>
           clear H';obtain⟨jt,U8,rfl,HA,jD,bV,gQ,U7,HB⟩:=hrel;cases gk with
           | zero=>exact absurd HA.1 (by simp[eD.l2])
           | succ k4=>
            have H:=HA.1;clear HA;simp only[eD.l2]at H
            by_cases pL:U8≤a1
            ·rw[ak pL]at H
             have VT:=aV pL;clear pL;obtain⟨yg,H⟩:=bJ H;have VZ:=aV yg;clear yg;obtain⟨qp,H⟩:=bJ H;have BH:=aV qp;clear qp;obtain⟨Vb,Vi⟩: ∃j_:Int,(wrap64 (U8 - (wrap64 (U9*cl))))=j_:=⟨_,rfl⟩;(try rw[Vi]);replace H:(if 0≤(Vb) then (if (Vb)<(ck.length:Int) then (eD.l2 k4 a1 ck cl oz (jt.set (U8:Int).toNat (wrap64 ((rd jt U8)+(wrap64 ((wrap64 (sG*(wrap64 (1 - (wrap64 (2*(agT U9 2)))))))*(rd ck (Vb))))))) U9 (wrap64 (sG*(wrap64 (1 - (wrap64 (2*(agT U9 2))))))) (wrap64 (U8+1)) ah ag) else (none)) else (none))=some (r1,r2):=by first|(rw[Vi]at H;exact H)|(simp only[Vi]at H ⊢;exact H)
             have VX:(IntKind.i64.wrap (U8 - (wrap64 (U9*cl))))=Vb:=(eV _).trans Vi;obtain⟨qq,H⟩:=bJ H;have HN:=aV qq;clear qq;obtain⟨qt,H⟩:=bJ H;have HP:=aV qt;clear qt;obtain⟨Vk,VV,H⟩: ∃Vk:List Int,au (Vk=(jt.set (U8:Int).toNat (wrap64 ((rd jt U8)+(wrap64 ((wrap64 (sG*(wrap64 (1 - (wrap64 (2*(agT U9 2)))))))*(rd ck (Vb))))))))∧(eD.l2 k4 a1 ck cl oz Vk U9 (wrap64 (sG*(wrap64 (1 - (wrap64 (2*(agT U9 2))))))) (wrap64 (U8+1)) ah ag)=some (r1,r2):=⟨_,⟨rfl⟩,H⟩;have H':=m_ H;clear H
             try go_wp2
             replace bV:=m_ (Kd.fM bV.1);replace gQ:=m_ (Kd.fM gQ.1);replace U7:=m_ (bM U7.1);replace HB:=m_ (iq HB.1);obtain⟨EE,EF,BI⟩:=Kd.eF gQ.1;subst BI;have Vs:0≤(U8:Int):=aT;have Vq:U8<(jt.length:Int):=aT;obtain⟨VY,VN,Vr⟩:=Kd.dP (Kd.dh gQ.1).2.2 U8 Vs Vq;cases VN;replace Vs:=aJ Vs;replace Vq:=aJ Vq;obtain⟨EG,EH,HQ⟩:=Kd.eF bV.1;subst HQ;have Vw:0≤((Vb):Int):=aT;have VA:(Vb)<(ck.length:Int):=aT;obtain⟨VR,VS,VE⟩:=Kd.dP (Kd.dh bV.1).2.2 (Vb) Vw VA;cases VS;replace Vw:=aJ Vw;replace VA:=aJ VA;have yh:0≤(U8:Int):=aT;have yj:(U8:Int)<((jt.length:Int):Int):=aT;obtain⟨tT,HT,tU,BJ,HU,aa9,BL⟩:=Kd.qV gQ.1 aa;(first|cases tU|(injection tU with di fZ gb;(first|subst di|(injection di with di;subst di));subst gb;clear fZ));have aba:=m_ BJ;have HV:=m_ BL;clear BJ HU BL;(first|simp only[add_plain]at Vr|skip);obtain⟨HW,HX⟩:=Kd.oA 0 gQ.1 (U8:Int) yh yj;replace yh:=aJ yh;replace yj:=aJ yj;have Vx:=Kd.NY gQ.1 (U8:Int) (wrap64 ((rd jt U8)+(wrap64 ((wrap64 (sG*(wrap64 (1 - (wrap64 (2*(agT U9 2)))))))*(rd ck (Vb))))));rw[← VV.1]at Vx;have VI:=m_ Vx;clear Vx;refine jl (n:=19) (S:=fun w'=>w'.cell? ⟨tT,(U8).toNat,none⟩=some (.int .i64 (rd jt U8))∧w'.cell? (VR.add ((Vb)).toNat)=some (.int .i64 (rd ck (Vb)))) (ds:=[18]) #[false,false,false,false,false,false,false,false,false,false,false,false,false,false,false,false,false,false,false] bI rfl rfl ⟨Vr,VE⟩ (fun hHeld=> ?_);refine jU eD.HH eD.HI (fun eA jV=> ?_);generalize wr.drew=BM at bV gQ U7 HB HV VI HX HW Vr VE hHeld ⊢;refine aX 0 19 64 1 ?_;refine aX 1 19 65 3 ?_;refine aX 2 19 66 7 ?_;refine aX 3 19 67 15 ?_;refine aX 4 19 68 31 ?_;refine aX 6 19 70 95 ?_;refine aX 7 19 71 223 ?_;refine aX 8 19 72 479 ?_;refine aX 9 19 73 991 ?_;refine aX 10 19 74 2015 ?_;refine aX 11 19 75 4063 ?_;refine aX 12 19 76 8159 ?_;refine aX 13 19 77 16351 ?_;refine cX 5 19 69 16383 hHeld ?_;refine cX 14 19 78 32767 hHeld ?_;refine aX 15 19 79 65535 ?_;refine aX 16 19 80 131071 ?_;refine aX 17 19 81 262143 ?_;refine rM (i:=18) (N:=none) #[true,true,true,true,true,true,true,true,true,true,true,true,true,true,true,true,true,true,true] rfl rfl (tV eA.1 bI) aG (fun K hK=> ?_);refine tW (w1:= ?_) (by rfl) rfl ?_ ?_
             rotate_left
             ·go_simp
              rfl
             refine hK.out _ _ ?_;clear hK K;refine ja (jC eA.1 bI) ?_
             try go_wp2
             first|go_roundg k4|((try subst Vi);(try subst kA);(try subst kA);go_roundg k4)
             case measure=>have:=bF.1;have:=cU.1;have:=Vf.1;have:=jD.1;omega
             case rel=>exact⟨(Vk),(wrap64 (U8+1)),bh,H',⟨by have:=bF.1;have:=cU.1;have:=Vf.1;have:=jD.1;omega⟩,⟨by(with_reducible repeat (first|apply Kd.gr|apply Kd.gu|apply Kd.fM));exact Kd.cL (Kd.lK (p:=⟨tT,(U8:Int).toNat,none⟩) (Kd.cL bV.1 (fun k_ hk=>(⟨hk,fun e_=>hk (by rw[e_];rfl)⟩:_∧k_≠tT))) (fun _ hk=>hk.2) (.int .i64 (wrap64 ((rd jt U8)+(wrap64 ((wrap64 (sG*(wrap64 (1 - (wrap64 (2*(agT U9 2)))))))*(rd ck (Vb)))))))) (fun _ hk=>hk.1)⟩,⟨by(with_reducible repeat (first|apply Kd.gr|apply Kd.gu|apply Kd.fM));exact VI.1⟩,⟨by(with_reducible repeat (first|refine bZ ?_ _ |refine bM ?_ |refine bS ?_ _));refine iO ?_ (by have h_:=Kd.kX gQ.1 U7.1 aG;intro e_;exact h_ (by rw[e_];rfl)) _;(with_reducible repeat (first|refine bZ ?_ _ |refine bM ?_ |refine bS ?_ _));exact U7.1⟩,⟨ai⟩⟩
            ·rw[aj pL]at H
             have VT:=cj pL;clear pL;have H':=m_ H;clear H;go_wp2
             first|go_roundg k4|((try subst kA);(try subst kA);go_roundg k4)
             case measure=>have:=bF.1;have:=cU.1;have:=Vf.1;have:=jD.1;omega
             case rel=>exact⟨(jt),(wrap64 (U9+1)),bh,H',⟨by have:=bF.1;have:=cU.1;have:=Vf.1;have:=jD.1;omega⟩,⟨Kd.bq bV.1 af⟩,⟨Kd.bq gQ.1 af⟩,⟨az U7.1 af⟩,⟨ai⟩⟩
         ·replace qX:=aix.mpr qX
          subst qX;rw[aj (show ¬(false=true) by decide)]at H;have H':=m_ H;clear H;go_wp2
          first|go_roundg Vg|((try subst kA);(try subst kA);go_roundg Vg)
          case measure=>have:=bF.1;have:=cU.1;have:=Vf.1;omega
          case rel=>exact⟨(kC),(wrap64 (cl+1)),bh,H',⟨by have:=bF.1;have:=cU.1;have:=Vf.1;omega⟩,⟨by(with_reducible repeat (first|apply Kd.gr|apply Kd.gu|apply Kd.fM));exact Kd.cL gQ.1 (fun _ hk=>trivial)⟩,⟨az U7.1 af⟩,⟨ai⟩⟩
    ·rw[aj c17]at H
     have vz:=cj c17;clear c17;simp only[aiv,aiw]at H;obtain⟨rfl,rfl⟩:=H;go_wp2
     go_ret2
     exact⟨_,by first|rfl|(simp[iG,iH]<;>rfl)|(simp only[← kA];first|rfl|(simp[iG,iH]<;>rfl))|(simp[*,iG,iH]<;>rfl),(Kd.bq bV.1 af),ai⟩
 ·rw[aj c4]at H
  obtain⟨dL,ij⟩:=dK c4;simp only[aiv,aiw]at H;obtain⟨rfl,rfl⟩:=H;go_enter Try.func32,Try.ntmps32;go_wp2_with (first|((with_reducible refine bO (N:=2) rfl ?_);refine cF (N:=2) (cs:= #[.int .i64 ah, .slice aE ag.length aD]) (t:=26) ?_;intro Va hg w41 aN hb;have U7:=m_ (aN);have VP:=m_ ((by rw[hg];exact(aM aU):w.heap.size≤Va));have VM:=m_ ((by rw[hg];exact(aM aU):w.heap.size≤Va));replace HB:=m_ (aI aU hb);clear hb aN hg;have abb:=aY U7.1;have abd:=aZ U7.1;have abe:=aA U7.1 0;have abf:=aA U7.1 1)|((with_reducible refine bp (f:=118) rfl ?_);refine bA (some 16) aiE #[.agg #[.int .i64 ah, .slice aE ag.length aD], .int .i64 a1, .int .i64 0] ?_;(with_reducible refine(kU.calls k ah _ _ ag a1 0 zH _ ?av ?ax A3.1).mono ?_);(case av=>exact Kd.aC (Kd.aC bL.1 HB.1) af);(case ax=>exact bU.1);rintro e w43 ⟨rfl,hb⟩;refine⟨_,rfl, ?_⟩;replace U7:=m_ (aQ U7.1 hb);replace HB:=m_ (aI ai hb);clear hb))
  go_ret2
  exact⟨_,cG,by first|exact Kd.nu _ _ _ _ _ |exact Kd.qQ _ _ _ _ _ |exact Kd.qR _ _ _ _ _ |exact Kd.qU _ _ _ _ _ |exact Kd.pJ _ _ _ _ _,ai⟩

def xB.f (k:Nat) (l0:List Int):Option (Int×(List (List Int))×Int):=(oS.f k l0).bind fun U7=>(some (U7.1,U7.2.1,U7.2.2))
theorem xB.calls (k:Nat) (A0:Option Addr) (c0:Nat) (l0:List Int) (r1:Int) (r2:List (List Int)) (r3:Int) (w:World) (hr0:Kd.C (Kd.int .u8) w A0 l0.length l0) (hc0:l0.length≤c0) (h:xB.f k l0=some (r1,r2,r3)):
  Calls aiu 33 #[.slice A0 l0.length c0] w fun e w'=>∃gx:Value,e= .returned (.tuple #[.agg #[.int .i64 r1,gx], .int .i64 r3])∧Kd.V (Kd.slice 2 (Kd.int .i64)) 29 w' w.heap.size (fun k_=>(w.heap.size≤k_)) gx r2∧Below w.heap.size w w':=by
 have fq:=aiy;have dY:=m_ hr0;have fJ:=m_ hc0;clear hr0 hc0;have HB:=m_ (ait w.heap.size w);have H:=h;unfold xB.f at H;clear h;obtain⟨⟨Va,Ve,Vg⟩,A2,H⟩:=bE H;dsimp only at H;simp only[aiv,aiw]at H;obtain⟨rfl,rfl,rfl⟩:=H;go_enter Try.func33,Try.ntmps33;go_wp2_with (first|((with_reducible refine bO (N:=2) rfl ?_);refine cF (N:=2) (cs:= #[.int .i64 0, .slice none 0 0]) (t:=26) ?_;intro U8 hg w3 aN hb;have U7:=m_ (aN);have Vh:=m_ ((by rw[hg];exact(aM aU):w.heap.size≤U8));have Vi:=m_ ((by rw[hg];exact(aM aU):w.heap.size≤U8));replace HB:=m_ (aI aU hb);clear hb aN hg)|((with_reducible refine bp (f:=114) rfl ?_);refine bA (some 8) Try.func114 #[.slice A0 l0.length c0] ?_;(with_reducible refine(oS.calls k _ _ l0 Va Ve Vg _ ?av ?ax A2.1).mono ?_);(case av=>exact Kd.aC (Kd.aC dY.1 HB.1) af);(case ax=>exact fJ.1);rintro e w4 ⟨Vl,rfl,aW,hb⟩;refine⟨_,rfl, ?_⟩;have Vc:=m_ (Kd.pM (Kd.cu (ok':=fun k_=>(w.heap.size≤k_)∧k_≠U8) aW (fun k_ bW=>⟨(ahO (aM ai) bW),(Kd.fu (g:=U8) (o:= .cells #[.int .i64 0, .slice none 0 0] 26 (0,0)) (az U7.1 af) k_ bW)⟩)) (aM ai));replace U7:=m_ (aQ U7.1 hb);replace HB:=m_ (aI ai hb);clear hb;(try clear aW))|((with_reducible refine bO (N:=4) rfl ?_);refine cF (N:=4) (cs:= #[.int .i64 0, .slice none 0 0]) (t:=26) ?_;intro U9 hg w5 aN hb;replace Vc:=m_ (Kd.bC (Kd.gR (Kd.bC Vc.1 af) U9 (aip hg.symm)) hb);have Vd:=m_ (aN);have Vk:=m_ ((by rw[hg];exact(aM ai):w.heap.size≤U9));have Vj:=m_ ((by rw[hg];exact(aM ai):w.heap.size≤U9));replace HB:=m_ (aI ai hb);have Vb:=m_ ((by rw[hg];exact air (ee (az U7.1 af)):U8≠U9));have Vf:=m_ Vb.1.symm;replace U7:=m_ (aQ U7.1 hb);clear hb aN hg;have BN:=Vf.1;have BO:=Vb.1;have rN:=aY Vd.1;have rO:=aZ Vd.1;have sI:=aA Vd.1 0;have rP:=aA Vd.1 1;obtain⟨jm,jn,nR⟩:=Kd.nC Vc.1;subst nR;have lE:=aY U7.1;have lF:=aZ U7.1;have lV:=aA U7.1 0;have lG:=aA U7.1 1));refine bodyPost_ret (rQ rfl _ _ U8 26 #[.int .i64 Va, .slice jm Ve.length jn] (0,0) _ rfl (by(with_reducible repeat (first|refine bZ ?_ _ |refine bM ?_ |refine bS ?_ _));refine dD (cs:= #[.int .i64 Va, .slice none 0 0]) ?_ 1 _ rfl;(with_reducible repeat (first|refine bZ ?_ _ |refine bM ?_ |refine bS ?_ _));refine dD (cs:= #[.int .i64 0, .slice none 0 0]) ?_ 0 _ rfl;(with_reducible repeat (first|refine bZ ?_ _ |refine bM ?_ |refine bS ?_ _));refine iO ?_ Vb.1 _;(with_reducible repeat (first|refine bZ ?_ _ |refine bM ?_ |refine bS ?_ _));refine iO ?_ Vb.1 _;(with_reducible repeat (first|refine bZ ?_ _ |refine bM ?_ |refine bS ?_ _));exact U7.1) aiy rfl bI) rfl ?_;exact⟨_,cG,by(with_reducible repeat (first|apply Kd.fc|apply Kd.fe|apply Kd.eY));exact Kd.cu (Kd.dB (p:=⟨U8,1,none⟩) (Kd.dB (p:=⟨U8,0,none⟩) (Kd.dB (p:=⟨U9,1,none⟩) (Kd.dB (p:=⟨U9,0,none⟩) (Kd.cu (Kd.cu Vc.1 (fun k_ hk=>(⟨hk,hk.2⟩:_∧k_≠U9))) (fun k_ hk=>(⟨hk,hk.1.1.2⟩:_∧k_≠U8))) (fun _ hk=>hk.1.2) (.int .i64 Va)) (fun _ hk=>hk.1.2) (.slice jm Ve.length jn)) (fun _ hk=>hk.2) (.int .i64 Va)) (fun _ hk=>hk.2) (.slice jm Ve.length jn)) (fun _ hk=>hk.1.1.1.1),ai⟩

def tJ.f (k:Nat) (ah:Int) (ag:List (List Int)) (a1:Int):Option ((List (List Int))×Int):=(kU.f k ah ag a1 1).bind fun yl=>(if yl=0 then ((cP.f k ah ag a1).bind fun U7=>(if U7.2=true then (some (U7.1,0)) else (some (([]:List (List Int)),3)))) else (some (([]:List (List Int)),yl)))
theorem tJ.calls (k:Nat) (ah:Int) (aE:Option Addr) (aD:Nat) (ag:List (List Int)) (a1:Int) (r1:List (List Int)) (r2:Int) (w:World) (cC:Kd.C (Kd.slice 2 (Kd.int .i64)) w aE ag.length ag) (cD:ag.length≤aD) (h:tJ.f k ah ag a1=some (r1,r2)):
  Calls aiu 34 #[.agg #[.int .i64 ah, .slice aE ag.length aD], .int .i64 a1] w fun e w'=>∃dR:Value,e= .returned (.tuple #[dR, .int .i64 r2])∧Kd.N (Kd.slice 2 (Kd.int .i64)) 29 w' w.heap.size (fun k_=>(w.heap.size≤k_)) dR r1∧Below w.heap.size w w':=by
 have fq:=aiy;have bL:=m_ cC;have bU:=m_ cD;clear cC cD;have HB:=m_ (ait w.heap.size w);have H:=h;unfold tJ.f at H;clear h;obtain⟨yl,A3,H⟩:=bE H
 by_cases c4:yl=0
 ·rw[ak c4]at H
  obtain⟨dL,ij⟩:=dJ c4;clear c4;obtain⟨⟨Vc,Vd⟩,A5,H⟩:=bE H;dsimp only at H
  by_cases c6:Vd=true
  ·subst c6
   rw[ak rfl]at H;simp only[aiv,aiw]at H;obtain⟨rfl,rfl⟩:=H;go_enter aiH,Try.ntmps34;go_wp2_with (first|((with_reducible refine bO (N:=2) rfl ?_);refine cF (N:=2) (cs:= #[.int .i64 ah, .slice aE ag.length aD]) (t:=26) ?_;intro U8 hg w7 aN hb;have U7:=m_ (aN);have Vb:=m_ ((by rw[hg];exact(aM aU):w.heap.size≤U8));have U9:=m_ ((by rw[hg];exact(aM aU):w.heap.size≤U8));replace HB:=m_ (aI aU hb);clear hb aN hg;have BP:=aY U7.1;have BQ:=aZ U7.1;have BR:=aA U7.1 0;have BS:=aA U7.1 1)|((with_reducible refine bp (f:=118) rfl ?_);refine bA (some 11) aiE #[.agg #[.int .i64 ah, .slice aE ag.length aD], .int .i64 a1, .int .i64 1] ?_;(with_reducible refine(kU.calls k ah _ _ ag a1 1 yl _ ?av ?ax A3.1).mono ?_);(case av=>exact Kd.aC (Kd.aC bL.1 HB.1) af);(case ax=>exact bU.1);rintro e w9 ⟨rfl,hb⟩;refine⟨_,rfl, ?_⟩;replace U7:=m_ (aQ U7.1 hb);replace HB:=m_ (aI ai hb);clear hb;have vB:=aY U7.1;have vC:=aZ U7.1;have vD:=aA U7.1 0;have vE:=aA U7.1 1)|((with_reducible refine bp (f:=119) rfl ?_);refine bA (some 18) Try.func119 #[.agg #[.int .i64 ah, .slice aE ag.length aD], .int .i64 a1] ?_;(with_reducible refine(cP.calls k ah _ _ ag a1 Vc true _ ?av ?ax A5.1).mono ?_);(case av=>exact Kd.aC (Kd.aC bL.1 HB.1) af);(case ax=>exact bU.1);rintro e lW ⟨Ve,rfl,aW,hb⟩;refine⟨_,rfl, ?_⟩;have Va:=m_ (Kd.o4 (Kd.eG (ok':=fun k_=>(w.heap.size≤k_)∧k_≠U8) aW (fun k_ bW=>⟨(ahO (aM ai) bW),(Kd.fu (g:=U8) (o:= .cells #[.int .i64 ah, .slice aE ag.length aD] 26 (0,0)) (az U7.1 af) k_ bW)⟩)) (aM ai));replace U7:=m_ (aQ U7.1 hb);replace HB:=m_ (aI ai hb);clear hb;(try clear aW)))
   go_ret2
   exact⟨_,cG,by(with_reducible repeat (first|apply Kd.iw|apply Kd.iy|apply Kd.gf));exact Kd.eG Va.1 (fun _ hk=>hk.1),ai⟩
  ·replace c6:=aix.mpr c6
   subst c6;rw[aj (show ¬(false=true) by decide)]at H;simp only[aiv,aiw]at H;obtain⟨rfl,rfl⟩:=H;go_enter aiH,Try.ntmps34;go_wp2_with (first|((with_reducible refine bO (N:=2) rfl ?_);refine cF (N:=2) (cs:= #[.int .i64 ah, .slice aE ag.length aD]) (t:=26) ?_;intro U8 hg kW aN hb;have U7:=m_ (aN);have Vb:=m_ ((by rw[hg];exact(aM aU):w.heap.size≤U8));have U9:=m_ ((by rw[hg];exact(aM aU):w.heap.size≤U8));replace HB:=m_ (aI aU hb);clear hb aN hg;have zE:=aY U7.1;have BB:=aZ U7.1;have zF:=aA U7.1 0;have BC:=aA U7.1 1)|((with_reducible refine bp (f:=118) rfl ?_);refine bA (some 11) aiE #[.agg #[.int .i64 ah, .slice aE ag.length aD], .int .i64 a1, .int .i64 1] ?_;(with_reducible refine(kU.calls k ah _ _ ag a1 1 yl _ ?av ?ax A3.1).mono ?_);(case av=>exact Kd.aC (Kd.aC bL.1 HB.1) af);(case ax=>exact bU.1);rintro e qm ⟨rfl,hb⟩;refine⟨_,rfl, ?_⟩;replace U7:=m_ (aQ U7.1 hb);replace HB:=m_ (aI ai hb);clear hb;have xY:=aY U7.1;have zO:=aZ U7.1;have xZ:=aA U7.1 0;have zP:=aA U7.1 1)|((with_reducible refine bp (f:=119) rfl ?_);refine bA (some 18) Try.func119 #[.agg #[.int .i64 ah, .slice aE ag.length aD], .int .i64 a1] ?_;(with_reducible refine(cP.calls k ah _ _ ag a1 Vc false _ ?av ?ax A5.1).mono ?_);(case av=>exact Kd.aC (Kd.aC bL.1 HB.1) af);(case ax=>exact bU.1);rintro e oB ⟨Ve,rfl,aW,hb⟩;refine⟨_,rfl, ?_⟩;have Va:=m_ (Kd.o4 (Kd.eG (ok':=fun k_=>(w.heap.size≤k_)∧k_≠U8) aW (fun k_ bW=>⟨(ahO (aM ai) bW),(Kd.fu (g:=U8) (o:= .cells #[.int .i64 ah, .slice aE ag.length aD] 26 (0,0)) (az U7.1 af) k_ bW)⟩)) (aM ai));replace U7:=m_ (aQ U7.1 hb);replace HB:=m_ (aI ai hb);clear hb;(try clear aW)))
   go_ret2
   exact⟨_,cG,by first|exact Kd.pJ _ _ _ _ _ |exact Kd.qQ _ _ _ _ _ |exact Kd.qR _ _ _ _ _ |exact Kd.qU _ _ _ _ _ |exact Kd.nu _ _ _ _ _,ai⟩
 ·rw[aj c4]at H
  obtain⟨dL,ij⟩:=dK c4;simp only[aiv,aiw]at H;obtain⟨rfl,rfl⟩:=H;go_enter aiH,Try.ntmps34;go_wp2_with (first|((with_reducible refine bO (N:=2) rfl ?_);refine cF (N:=2) (cs:= #[.int .i64 ah, .slice aE ag.length aD]) (t:=26) ?_;intro U8 hg pN aN hb;have U7:=m_ (aN);have Vb:=m_ ((by rw[hg];exact(aM aU):w.heap.size≤U8));have U9:=m_ ((by rw[hg];exact(aM aU):w.heap.size≤U8));replace HB:=m_ (aI aU hb);clear hb aN hg;have EI:=aY U7.1;have EJ:=aZ U7.1;have EK:=aA U7.1 0;have EL:=aA U7.1 1)|((with_reducible refine bp (f:=118) rfl ?_);refine bA (some 11) aiE #[.agg #[.int .i64 ah, .slice aE ag.length aD], .int .i64 a1, .int .i64 1] ?_;(with_reducible refine(kU.calls k ah _ _ ag a1 1 yl _ ?av ?ax A3.1).mono ?_);(case av=>exact Kd.aC (Kd.aC bL.1 HB.1) af);(case ax=>exact bU.1);rintro e zQ ⟨rfl,hb⟩;refine⟨_,rfl, ?_⟩;replace U7:=m_ (aQ U7.1 hb);replace HB:=m_ (aI ai hb);clear hb))
  go_ret2
  exact⟨_,cG,by first|exact Kd.pJ _ _ _ _ _ |exact Kd.qQ _ _ _ _ _ |exact Kd.qR _ _ _ _ _ |exact Kd.qU _ _ _ _ _ |exact Kd.nu _ _ _ _ _,ai⟩

def xC.f (k:Nat) (l0:List Int):Option (Int×(List (List Int))×Int):=(oS.f k l0).bind fun U7=>(some (U7.1,U7.2.1,U7.2.2))
theorem xC.calls (k:Nat) (A0:Option Addr) (c0:Nat) (l0:List Int) (r1:Int) (r2:List (List Int)) (r3:Int) (w:World) (hr0:Kd.C (Kd.int .u8) w A0 l0.length l0) (hc0:l0.length≤c0) (h:xC.f k l0=some (r1,r2,r3)):
  Calls aiu 35 #[.slice A0 l0.length c0] w fun e w'=>∃gx:Value,e= .returned (.tuple #[.agg #[.int .i64 r1,gx], .int .i64 r3])∧Kd.V (Kd.slice 2 (Kd.int .i64)) 29 w' w.heap.size (fun k_=>(w.heap.size≤k_)) gx r2∧Below w.heap.size w w':=by
 have fq:=aiy;have dY:=m_ hr0;have fJ:=m_ hc0;clear hr0 hc0;have HB:=m_ (ait w.heap.size w);have H:=h;unfold xC.f at H;clear h;obtain⟨⟨Va,Vb,Vg⟩,A2,H⟩:=bE H;dsimp only at H;simp only[aiv,aiw]at H;obtain⟨rfl,rfl,rfl⟩:=H;go_enter Try.func35,Try.ntmps35;go_wp2_with (first|((with_reducible refine bO (N:=2) rfl ?_);refine cF (N:=2) (cs:= #[.int .i64 0, .slice none 0 0]) (t:=26) ?_;intro U8 hg w3 aN hb;have U7:=m_ (aN);have Vl:=m_ ((by rw[hg];exact(aM aU):w.heap.size≤U8));have Vh:=m_ ((by rw[hg];exact(aM aU):w.heap.size≤U8));replace HB:=m_ (aI aU hb);clear hb aN hg)|((with_reducible refine bp (f:=114) rfl ?_);refine bA (some 8) Try.func114 #[.slice A0 l0.length c0] ?_;(with_reducible refine(oS.calls k _ _ l0 Va Vb Vg _ ?av ?ax A2.1).mono ?_);(case av=>exact Kd.aC (Kd.aC dY.1 HB.1) af);(case ax=>exact fJ.1);rintro e w4 ⟨Vi,rfl,aW,hb⟩;refine⟨_,rfl, ?_⟩;have Ve:=m_ (Kd.pM (Kd.cu (ok':=fun k_=>(w.heap.size≤k_)∧k_≠U8) aW (fun k_ bW=>⟨(ahO (aM ai) bW),(Kd.fu (g:=U8) (o:= .cells #[.int .i64 0, .slice none 0 0] 26 (0,0)) (az U7.1 af) k_ bW)⟩)) (aM ai));replace U7:=m_ (aQ U7.1 hb);replace HB:=m_ (aI ai hb);clear hb;(try clear aW))|((with_reducible refine bO (N:=4) rfl ?_);refine cF (N:=4) (cs:= #[.int .i64 0, .slice none 0 0]) (t:=26) ?_;intro U9 hg w5 aN hb;replace Ve:=m_ (Kd.bC (Kd.gR (Kd.bC Ve.1 af) U9 (aip hg.symm)) hb);have Vd:=m_ (aN);have Vk:=m_ ((by rw[hg];exact(aM ai):w.heap.size≤U9));have Vj:=m_ ((by rw[hg];exact(aM ai):w.heap.size≤U9));replace HB:=m_ (aI ai hb);have Vc:=m_ ((by rw[hg];exact air (ee (az U7.1 af)):U8≠U9));have Vf:=m_ Vc.1.symm;replace U7:=m_ (aQ U7.1 hb);clear hb aN hg;have BN:=Vf.1;have BO:=Vc.1;have rN:=aY Vd.1;have rO:=aZ Vd.1;have sI:=aA Vd.1 0;have rP:=aA Vd.1 1;obtain⟨jm,jn,nR⟩:=Kd.nC Ve.1;subst nR;have lE:=aY U7.1;have lF:=aZ U7.1;have lV:=aA U7.1 0;have lG:=aA U7.1 1));refine bodyPost_ret (rQ rfl _ _ U8 26 #[.int .i64 Va, .slice jm Vb.length jn] (0,0) _ rfl (by(with_reducible repeat (first|refine bZ ?_ _ |refine bM ?_ |refine bS ?_ _));refine dD (cs:= #[.int .i64 Va, .slice none 0 0]) ?_ 1 _ rfl;(with_reducible repeat (first|refine bZ ?_ _ |refine bM ?_ |refine bS ?_ _));refine dD (cs:= #[.int .i64 0, .slice none 0 0]) ?_ 0 _ rfl;(with_reducible repeat (first|refine bZ ?_ _ |refine bM ?_ |refine bS ?_ _));refine iO ?_ Vc.1 _;(with_reducible repeat (first|refine bZ ?_ _ |refine bM ?_ |refine bS ?_ _));refine iO ?_ Vc.1 _;(with_reducible repeat (first|refine bZ ?_ _ |refine bM ?_ |refine bS ?_ _));exact U7.1) aiy rfl bI) rfl ?_;exact⟨_,cG,by(with_reducible repeat (first|apply Kd.fc|apply Kd.fe|apply Kd.eY));exact Kd.cu (Kd.dB (p:=⟨U8,1,none⟩) (Kd.dB (p:=⟨U8,0,none⟩) (Kd.dB (p:=⟨U9,1,none⟩) (Kd.dB (p:=⟨U9,0,none⟩) (Kd.cu (Kd.cu Ve.1 (fun k_ hk=>(⟨hk,hk.2⟩:_∧k_≠U9))) (fun k_ hk=>(⟨hk,hk.1.1.2⟩:_∧k_≠U8))) (fun _ hk=>hk.1.2) (.int .i64 Va)) (fun _ hk=>hk.1.2) (.slice jm Vb.length jn)) (fun _ hk=>hk.2) (.int .i64 Va)) (fun _ hk=>hk.2) (.slice jm Vb.length jn)) (fun _ hk=>hk.1.1.1.1),ai⟩

def xg.f (k:Nat) (ah:Int) (ag:List (List Int)) (a1:Int):Option (Int×Int):=(kU.f k ah ag a1 1).bind fun zR=>(if zR=0 then ((jr.f k ah ag a1).bind fun HY=>(some (HY,0))) else (some (0,zR)))
theorem xg.calls (k:Nat) (ah:Int) (aE:Option Addr) (aD:Nat) (ag:List (List Int)) (a1:Int) (r1:Int) (r2:Int) (w:World) (cC:Kd.C (Kd.slice 2 (Kd.int .i64)) w aE ag.length ag) (cD:ag.length≤aD) (h:xg.f k ah ag a1=some (r1,r2)):
  Calls aiu 36 #[.agg #[.int .i64 ah, .slice aE ag.length aD], .int .i64 a1] w fun e w'=>e= .returned (.tuple #[.int .i64 r1, .int .i64 r2])∧Below w.heap.size w w':=by
 have fq:=aiy;have bL:=m_ cC;have bU:=m_ cD;clear cC cD;have HB:=m_ (ait w.heap.size w);have H:=h;unfold xg.f at H;clear h;obtain⟨zR,A3,H⟩:=bE H
 by_cases c4:zR=0
 ·rw[ak c4]at H
  obtain⟨dL,ij⟩:=dJ c4;clear c4;obtain⟨HY,A5,H⟩:=bE H;simp only[aiv,aiw]at H;obtain⟨rfl,rfl⟩:=H;go_enter Try.func36,Try.ntmps36;go_wp2_with (first|((with_reducible refine bO (N:=2) rfl ?_);refine cF (N:=2) (cs:= #[.int .i64 ah, .slice aE ag.length aD]) (t:=26) ?_;intro U8 hg w6 aN hb;have U7:=m_ (aN);have U9:=m_ ((by rw[hg];exact(aM aU):w.heap.size≤U8));have Va:=m_ ((by rw[hg];exact(aM aU):w.heap.size≤U8));replace HB:=m_ (aI aU hb);clear hb aN hg;have rN:=aY U7.1;have rO:=aZ U7.1;have sI:=aA U7.1 0;have rP:=aA U7.1 1)|((with_reducible refine bp (f:=118) rfl ?_);refine bA (some 9) aiE #[.agg #[.int .i64 ah, .slice aE ag.length aD], .int .i64 a1, .int .i64 1] ?_;(with_reducible refine(kU.calls k ah _ _ ag a1 1 zR _ ?av ?ax A3.1).mono ?_);(case av=>exact Kd.aC (Kd.aC bL.1 HB.1) af);(case ax=>exact bU.1);rintro e w8 ⟨rfl,hb⟩;refine⟨_,rfl, ?_⟩;replace U7:=m_ (aQ U7.1 hb);replace HB:=m_ (aI ai hb);clear hb;have lE:=aY U7.1;have lF:=aZ U7.1;have lV:=aA U7.1 0;have lG:=aA U7.1 1)|((with_reducible refine bp (f:=141) rfl ?_);refine bA (some 15) aiG #[.agg #[.int .i64 ah, .slice aE ag.length aD], .int .i64 a1] ?_;(with_reducible refine(jr.calls k ah _ _ ag a1 HY _ ?av ?ax A5.1).mono ?_);(case av=>exact Kd.aC (Kd.aC bL.1 HB.1) af);(case ax=>exact bU.1);rintro e jc ⟨rfl,hb⟩;refine⟨_,rfl, ?_⟩;replace U7:=m_ (aQ U7.1 hb);replace HB:=m_ (aI ai hb);clear hb))
  go_ret2
  exact⟨cG,ai⟩
 ·rw[aj c4]at H
  obtain⟨dL,ij⟩:=dK c4;simp only[aiv,aiw]at H;obtain⟨rfl,rfl⟩:=H;go_enter Try.func36,Try.ntmps36;go_wp2_with (first|((with_reducible refine bO (N:=2) rfl ?_);refine cF (N:=2) (cs:= #[.int .i64 ah, .slice aE ag.length aD]) (t:=26) ?_;intro U8 hg lW aN hb;have U7:=m_ (aN);have U9:=m_ ((by rw[hg];exact(aM aU):w.heap.size≤U8));have Va:=m_ ((by rw[hg];exact(aM aU):w.heap.size≤U8));replace HB:=m_ (aI aU hb);clear hb aN hg;have vF:=aY U7.1;have ym:=aZ U7.1;have vG:=aA U7.1 0;have yo:=aA U7.1 1)|((with_reducible refine bp (f:=118) rfl ?_);refine bA (some 9) aiE #[.agg #[.int .i64 ah, .slice aE ag.length aD], .int .i64 a1, .int .i64 1] ?_;(with_reducible refine(kU.calls k ah _ _ ag a1 1 zR _ ?av ?ax A3.1).mono ?_);(case av=>exact Kd.aC (Kd.aC bL.1 HB.1) af);(case ax=>exact bU.1);rintro e nA ⟨rfl,hb⟩;refine⟨_,rfl, ?_⟩;replace U7:=m_ (aQ U7.1 hb);replace HB:=m_ (aI ai hb);clear hb))
  go_ret2
  exact⟨cG,ai⟩

mutual
def cM.j0:Nat→List Int→Int→List (List Int)→Int→Bool→Int→List (List Int)→Option (Bool)
 | 0,_,_,_,_,_,_,_=>none
 | k+1,x0,x4,x5,x6,Va,qu,qv=>if Va=true then (some false) else (if x6=0 then ((lR.f k qu qv x4).bind fun U7=>((oX.f k qu qv x4).bind fun U9=>((qc.f k qu qv x4).bind fun U8=>(if U7.2=0 then (if U9.2=0 then (if U8.2=0 then (if U7.1=(x5.length:Int) then (cM.j1 k x0 x5 (U8.1 != (U9.1.length:Int)) qu qv) else (cM.j1 k x0 x5 true qu qv)) else (cM.j1 k x0 x5 true qu qv)) else (cM.j1 k x0 x5 true qu qv)) else (cM.j1 k x0 x5 true qu qv))))) else (cM.j3 k x0))
def cM.j3:Nat→List Int→Option (Bool)
 | 0,_=>none
 | k+1,x0=>(xD.f k x0).bind fun U7=>((qc.f k U7.1 U7.2.1 U7.2.2).bind fun U8=>((xk.f k U7.1 U7.2.1 U7.2.2).bind fun U9=>(if U8.2=U9.2 then (cM.j4 k x0 U7.2.2 U8.1 U8.2 (U8.1 != U9.1) U7.1 U7.2.1) else (cM.j4 k x0 U7.2.2 U8.1 U8.2 true U7.1 U7.2.1))))
def cM.j4:Nat→List Int→Int→Int→Int→Bool→Int→List (List Int)→Option (Bool)
 | 0,_,_,_,_,_,_,_=>none
 | k+1,x0,lM,x20,vq,U7,BU,BV=>if U7=true then (some false) else (if vq=0 then (cM.l1 k x0 lM x20 0 1 BU BV) else (cM.j6 k x0))
def cM.j6:Nat→List Int→Option (Bool)
 | 0,_=>none
 | k+1,x0=>(xz.f k x0).bind fun U7=>((om.f k U7.1 U7.2).bind fun U8=>((oh.f k U7.1 U7.2).bind fun U9=>(if U8.2=U9.2 then (cM.j7 k x0 U8.1 U8.2 (U8.1 != U9.1) U7.1 U7.2) else (cM.j7 k x0 U8.1 U8.2 true U7.1 U7.2))))
def cM.j7:Nat→List Int→Int→Int→Bool→Int→List (List Int)→Option (Bool)
 | 0,_,_,_,_,_,_=>none
 | k+1,x0,oD,x30,U8,BW,BX=>if U8=true then (some false) else (if x30=0 then ((qc.f k BW BX oD).bind fun U7=>(if U7.2=0 then (cM.j8 k x0 oD (decide (U7.1<1)) BW BX) else (cM.j8 k x0 oD true BW BX))) else (cM.j9 k x0))
def cM.j9:Nat→List Int→Option (Bool)
 | 0,_=>none
 | k+1,x0=>(xA.f k x0).bind fun U8=>((mW.f k U8.1 U8.2.1 U8.2.2).bind fun Ve=>((eD.f k U8.1 U8.2.1 U8.2.2).bind fun Vc=>((xB.f k x0).bind fun U9=>((oX.f k U9.1 U9.2.1 U9.2.2).bind fun Vd=>((tJ.f k U9.1 U9.2.1 U9.2.2).bind fun Vb=>((xC.f k x0).bind fun U7=>((lR.f k U7.1 U7.2.1 U7.2.2).bind fun Vf=>((xg.f k U7.1 U7.2.1 U7.2.2).bind fun Va=>(if Ve.2=Vc.2 then ((mq.f k Ve.1 Vc.1).bind fun H6=>(if H6=true then (if Vd.2=Vb.2 then ((m5.f k Vd.1 Vb.1).bind fun H7=>(if H7=true then (if Vf.2=Va.2 then (some (Vf.1 == Va.1)) else (some false)) else (some false))) else (some false)) else (some false))) else (some false))))))))))
def cM.j8:Nat→List Int→Int→Bool→Int→List (List Int)→Option (Bool)
 | 0,_,_,_,_,_=>none
 | k+1,x0,oD,U8,BW,BX=>if U8=true then (some false) else (if oD>1 then ((qc.f k BW BX (wrap64 (oD - 1))).bind fun U7=>(if U7.2=0 then (if U7.1=0 then (cM.j9 k x0) else (some false)) else (some false))) else (cM.j9 k x0))
def cM.l1:Nat→List Int→Int→Int→Int→Int→Int→List (List Int)→Option (Bool)
 | 0,_,_,_,_,_,_,_=>none
 | k+1,x0,lM,x20,nS,U7,BU,BV=>if U7≤lM then (if U7=0 then (none) else (if (agT lM U7)=0 then ((lR.f k BU BV U7).bind fun U8=>(if U8.2=0 then (cM.l1 k x0 lM x20 (wrap64 (nS+(wrap64 (U7*U8.1)))) (wrap64 (U7+1)) BU BV) else (some false))) else (cM.l1 k x0 lM x20 nS (wrap64 (U7+1)) BU BV))) else (if nS=x20 then (cM.j6 k x0) else (some false))
def cM.j1:Nat→List Int→List (List Int)→Bool→Int→List (List Int)→Option (Bool)
 | 0,_,_,_,_,_=>none
 | k+1,x0,x5,U7,qu,qv=>if U7=true then (some false) else (cM.l0 k x0 x5 0 qu qv)
def cM.l0:Nat→List Int→List (List Int)→Int→Int→List (List Int)→Option (Bool)
 | 0,_,_,_,_,_=>none
 | k+1,x0,x5,kH,qu,qv=>if kH<(x5.length:Int) then (if 0≤kH then ((xE.f k qu qv (aH x5 kH)).bind fun U7=>(if U7.2=0 then (if U7.1=true then (cM.l0 k x0 x5 (wrap64 (kH+1)) qu qv) else (some false)) else (some false))) else (none)) else (cM.j3 k x0)
end
def cM.f (k:Nat) (l0:List Int):Option (Bool):=(xG.f l0).bind fun H8=>(if H8=true then (some true) else ((xH.f k l0).bind fun U7=>((gB.f k U7.1 U7.2.1 U7.2.2).bind fun U8=>((iW.f k U7.1 U7.2.1 U7.2.2).bind fun U9=>(if U8.2=U9.2 then ((m5.f k U8.1 U9.1).bind fun EM=>(cM.j0 k l0 U7.2.2 U8.1 U8.2 (!EM) U7.1 U7.2.1)) else (cM.j0 k l0 U7.2.2 U8.1 U8.2 true U7.1 U7.2.1))))))
def cM.BD:Bool×List (List Nat×List Nat):=(true,[([],[]),([],[]),([],[]),([1,2],[1,2]),([3],[3]),([0,4],[0,4]),([5],[5]),([6],[6]),([6],[6]),([7,5,0,1,2,3,4,5,6,7],[7]),([8,9,0,1,2,3,4,5,6,7,8,9],[8])])
def cM.HG:List Nat:=[0,0,0,6,14,31,63,127,127,255,1023]
theorem cM.HH:gC .any (opsOf Try.f4 17)=cM.BD:=by kernel_rfl
theorem cM.HI:kY cM.BD.2 cM.HG=true:=by kernel_rfl
theorem cM.aeV {k:Nat} {a0:List Int} {a1:Int} {a2:List (List Int)} {a3:Int} {a5:Int} {a6:List (List Int)}: ¬cM.j0 k a0 a1 a2 a3 true a5 a6=some true:=by cases k<;>simp[cM.j0]
theorem cM.abg {k:Nat} {a0:List Int} {a1:Int} {a2:Int} {a3:Int} {a5:Int} {a6:List (List Int)}: ¬cM.j4 k a0 a1 a2 a3 true a5 a6=some true:=by cases k<;>simp[cM.j4]
theorem cM.abh {k:Nat} {a0:List Int} {a1:Int} {a2:Int} {a4:Int} {a5:List (List Int)}: ¬cM.j7 k a0 a1 a2 true a4 a5=some true:=by cases k<;>simp[cM.j7]
theorem cM.abj {k:Nat} {a0:List Int} {a1:Int} {a3:Int} {a4:List (List Int)}: ¬cM.j8 k a0 a1 true a3 a4=some true:=by cases k<;>simp[cM.j8]
theorem cM.EN {k:Nat} {a0:List Int} {a1:List (List Int)} {a3:Int} {a4:List (List Int)}: ¬cM.j1 k a0 a1 true a3 a4=some true:=by cases k<;>simp[cM.j1]
theorem cM.calls (k:Nat) (A0:Option Addr) (c0:Nat) (l0:List Int) (w:World) (hr0:Kd.C (Kd.int .u8) w A0 l0.length l0) (hc0:l0.length≤c0) (h:cM.f k l0=some true):
  Calls aiu 4 #[.slice A0 l0.length c0] w fun e w'=>e= .returned (.bool true)∧Below w.heap.size w w':=by
 have fq:=aiy;have dY:=m_ hr0;have fJ:=m_ hc0;clear hr0 hc0;have HB:=m_ (ait w.heap.size w);have H:=h;unfold cM.f at H;clear h;obtain⟨H8,A2,H⟩:=bE H
 by_cases c3:H8=true
 ·subst c3
  rw[ak rfl]at H;have H:=aiq H;go_enter Try.func4,Try.ntmps4;go_wp2_with (first|((with_reducible refine bp (f:=9) rfl ?_);refine bA (some 56) Try.func9 #[.slice A0 l0.length c0] ?_;(with_reducible refine(xG.calls _ _ l0 true _ ?av ?ax A2.1).mono ?_);(case av=>exact Kd.aC dY.1 af);(case ax=>exact fJ.1);rintro e w' ⟨rfl,⟨nd,rfl⟩⟩;refine⟨_,rfl, ?_⟩));go_ret;exact⟨cG,aU⟩
 ·replace c3:=aix.mpr c3
  subst c3;rw[aj (show ¬(false=true) by decide)]at H;obtain⟨⟨Vi,Vb,VR⟩,A4,H⟩:=bE H;dsimp only at H;obtain⟨⟨VG,WK⟩,A5,H⟩:=bE H;dsimp only at H;obtain⟨⟨XS,XL⟩,A6,H⟩:=bE H;dsimp only at H;have W0:=m_ H;clear H;go_enter Try.func4,Try.ntmps4;go_upto_region 6 with (first|((with_reducible refine bp (f:=9) rfl ?_);refine bA (some 56) Try.func9 #[.slice A0 l0.length c0] ?_;(with_reducible refine(xG.calls _ _ l0 false _ ?av ?ax A2.1).mono ?_);(case av=>exact Kd.aC dY.1 af);(case ax=>exact fJ.1);rintro e w' ⟨rfl,⟨nd,rfl⟩⟩;refine⟨_,rfl, ?_⟩)|((with_reducible refine bp (f:=17) rfl ?_);refine bA (some 59) Try.func17 #[.slice A0 l0.length c0] ?_;(with_reducible refine(xH.calls k _ _ l0 Vi Vb VR _ ?av ?ax A4.1).mono ?_);(case av=>exact Kd.aC dY.1 af);(case ax=>exact fJ.1);rintro e w8 ⟨af4,rfl,aW,hb⟩;refine⟨_,rfl, ?_⟩;have VO:=m_ (Kd.pM (Kd.cu (ok':=fun k_=>True) aW (fun k_ bW=>trivial)) (aM aU));replace HB:=m_ (aI aU hb);clear hb;(try clear aW))|((with_reducible refine bO (N:=3) rfl ?_);(try (refine lN (by rfl) ?_;dsimp only));refine cF (N:=3) (cs:= #[.int .i64 0, .slice none 0 0]) (t:=26) ?_;intro U9 hg w9 aN hb;replace VO:=m_ (Kd.bC (Kd.gR (Kd.bC VO.1 af) U9 (aip hg.symm)) hb);have U7:=m_ (aN);have agm:=m_ ((by rw[hg];exact(aM aU):w.heap.size≤U9));have afS:=m_ ((by rw[hg];exact(aM aU):w.heap.size≤U9));replace HB:=m_ (aI aU hb);clear hb aN hg;have vB:=aY U7.1;have vC:=aZ U7.1;have vD:=aA U7.1 0;have vE:=aA U7.1 1;obtain⟨fA,fj,rR⟩:=Kd.nC VO.1;subst rR)|((with_reducible refine bp (f:=18) rfl ?_);refine bA (some 65) Try.func18 #[.agg #[.int .i64 Vi, .slice fA Vb.length fj], .int .i64 VR] ?_;(with_reducible refine(gB.calls k Vi _ _ Vb VR VG WK _ ?av ?ax A5.1).mono ?_);(case av=>refine(Kd.eT (e:=29) (base:=w.heap.size) (ok:=fun k_=>(True∧k_≠U9)) (n:=Vb.length) (c:=fj) ?_).2.2;exact(by(with_reducible repeat (first|apply Kd.fc|apply Kd.fe|apply Kd.eY));exact(Kd.cu (Kd.dB (p:=⟨U9,1,none⟩) (Kd.dB (p:=⟨U9,0,none⟩) (Kd.cu VO.1 (fun k_ hk=>(⟨hk,hk.2⟩:_∧k_≠U9))) (fun _ hk=>hk.2) (.int .i64 Vi)) (fun _ hk=>hk.2) (.slice fA Vb.length fj)) (fun _ h_=>h_.1))));(case ax=>exact(Kd.eT VO.1).2.1);rintro e kW ⟨V0,rfl,aW,hb⟩;refine⟨_,rfl, ?_⟩;replace aW:=Kd.EO (Kd.qY aW);replace VO:=m_ (Kd.gU (by(with_reducible repeat (first|apply Kd.fc|apply Kd.fe|apply Kd.eY));exact(Kd.cu (Kd.dB (p:=⟨U9,1,none⟩) (Kd.dB (p:=⟨U9,0,none⟩) (Kd.cu VO.1 (fun k_ hk=>(⟨hk,hk.2⟩:_∧k_≠U9))) (fun _ hk=>hk.2) (.int .i64 Vi)) (fun _ hk=>hk.2) (.slice fA Vb.length fj)) (fun _ h_=>h_.1))) (Kd.jL aW) hb);have V1:=m_ (Kd.o4 (Kd.eG (ok':=fun k_=>k_≠U9) aW (fun k_ bW=>(Kd.fu (g:=U9) (o:= .cells #[.int .i64 Vi, .slice fA Vb.length fj] 26 (0,0)) (by(with_reducible repeat (first|refine bZ ?_ _ |refine bM ?_ |refine bS ?_ _));refine dD (cs:= #[.int .i64 Vi, .slice none 0 0]) ?_ 1 _ rfl;(with_reducible repeat (first|refine bZ ?_ _ |refine bM ?_ |refine bS ?_ _));refine dD (cs:= #[.int .i64 0, .slice none 0 0]) ?_ 0 _ rfl;(with_reducible repeat (first|refine bZ ?_ _ |refine bM ?_ |refine bS ?_ _));exact U7.1) k_ bW.2.1))) (aM ai));replace U7:=m_ (az (g:=U9) (o:= .cells #[.int .i64 Vi, .slice fA Vb.length fj] 26 (0,0)) (by(with_reducible repeat (first|refine bZ ?_ _ |refine bM ?_ |refine bS ?_ _));refine dD (cs:= #[.int .i64 Vi, .slice none 0 0]) ?_ 1 _ rfl;(with_reducible repeat (first|refine bZ ?_ _ |refine bM ?_ |refine bS ?_ _));refine dD (cs:= #[.int .i64 0, .slice none 0 0]) ?_ 0 _ rfl;(with_reducible repeat (first|refine bZ ?_ _ |refine bM ?_ |refine bS ?_ _));exact U7.1) hb);replace HB:=m_ (aI ai hb);clear hb;(try clear aW);have zE:=aY U7.1;have BB:=aZ U7.1;have zF:=aA U7.1 0;have BC:=aA U7.1 1)|((with_reducible refine bp (f:=19) rfl ?_);refine bA (some 71) Try.func19 #[.agg #[.int .i64 Vi, .slice fA Vb.length fj], .int .i64 VR] ?_;(with_reducible refine(iW.calls k Vi _ _ Vb VR XS XL _ ?av ?ax A6.1).mono ?_);(case av=>exact Kd.aC (Kd.eT VO.1).2.2 af);(case ax=>exact(Kd.eT VO.1).2.1);rintro e qm ⟨ZA,rfl,aW,hb⟩;refine⟨_,rfl, ?_⟩;replace VO:=m_ (Kd.gU (Kd.bC VO.1 af) (Kd.jL aW) hb);have WX:=m_ (Kd.o4 (Kd.eG (ok':=fun k_=>some k_≠(V0:Value).ownBlock∧k_≠U9) aW (fun k_ bW=>⟨(Kd.fresh' (Kd.kD (Kd.cv V1.1 af)) k_ bW),(Kd.fu (g:=U9) (o:= .cells #[.int .i64 Vi, .slice fA Vb.length fj] 26 (0,0)) (az U7.1 af) k_ bW)⟩)) (aM ai));replace V1:=m_ (Kd.kN (Kd.cv V1.1 af) (Kd.jL aW) hb);replace U7:=m_ (aQ U7.1 hb);replace HB:=m_ (aI ai hb);clear hb;(try clear aW)))
  (try simp only[aiA,aiB,aiC,aiD]);go_cut [82] (fun Yv wc=>∃(kq:Nat) (Wp:Bool),Yv= .bool Wp∧au (cM.j0 kq l0 VR VG WK Wp Vi Vb=some true)∧au (kq≤k)∧au (Kd.N (Kd.slice 2 (Kd.int .i64)) 29 wc w.heap.size (fun k_=>k_≠U9) V0 VG)∧au (Kd.V (Kd.slice 2 (Kd.int .i64)) 29 wc w.heap.size (fun k_=>some k_≠(V0:Value).ownBlock∧k_≠U9) (.slice fA Vb.length fj) Vb)∧au (wc.heap[U9]? =some (.cells #[.int .i64 Vi,(.slice fA Vb.length fj)] 26 (0,0)))∧au (Below w.heap.size w wc))
  case first=>as_aux_lemma=>
   have H:=W0.1;clear W0
   by_cases c15:WK=XL
   ·rw[ak c15]at H
    obtain⟨lX,BZ⟩:=dJ c15;clear c15;(first|rw[lX]|(simp only[eV,gK];rw[lX])|skip);obtain⟨EM,oE,H⟩:=bE H;have H':=m_ H;clear H;obtain⟨NZ,N0,H9⟩:=Kd.mH V1.1;subst H9;obtain⟨N7,Ia,zS⟩:=Kd.mH WX.1;subst zS;go_wp2_with (first|(go_at_call 20;(with_reducible refine(m5.calls k _ _ VG _ _ XS EM _ ?av ?ax ?cK ?cY oE.1).mono ?_);(case av=>exact Kd.aC (Kd.fS V1.1).2.2 af);(case ax=>exact(Kd.fS V1.1).2.1);(case cK=>exact Kd.aC (Kd.fS WX.1).2.2 af);(case cY=>exact(Kd.fS WX.1).2.1);rintro e w' ⟨rfl,⟨nd,rfl⟩⟩));go_meet
    case rel=>exact⟨_,(!EM),bh,H',⟨by first|omega|exact agO _⟩,⟨by(with_reducible repeat (first|apply Kd.iw|apply Kd.iy|apply Kd.gf));exact Kd.eG V1.1 (fun _ hk=>hk.1)⟩,⟨by(with_reducible repeat (first|apply Kd.fc|apply Kd.fe|apply Kd.eY));exact Kd.cu VO.1 (fun _ hk=>⟨hk.1.2,hk.1.1.2⟩)⟩,⟨az U7.1 af⟩,⟨ai⟩⟩
   ·rw[aj c15]at H
    obtain⟨lX,BZ⟩:=dK c15;(first|rw[lX]|(simp only[eV,gK];rw[lX])|skip);have H':=m_ H;clear H;go_wp2;go_meet
    case rel=>exact⟨_,(true),bh,H',⟨by first|omega|exact agO _⟩,⟨by(with_reducible repeat (first|apply Kd.iw|apply Kd.iy|apply Kd.gf));exact Kd.eG V1.1 (fun _ hk=>hk.1)⟩,⟨by(with_reducible repeat (first|apply Kd.fc|apply Kd.fe|apply Kd.eY));exact Kd.cu VO.1 (fun _ hk=>⟨hk.1.2,hk.1.1.2⟩)⟩,⟨az U7.1 af⟩,⟨ai⟩⟩
  case rest=>as_aux_lemma=>
   clear W0;obtain⟨kq,Wp,rfl,HA,VF,dm,U8,U7,HB⟩:=hcut;cases kq with
   | zero=>exact absurd HA.1 (by simp[cM.j0])
   | succ We=>
    have H:=HA.1;clear HA;simp only[cM.j0]at H
    by_cases c19:Wp=true
    ·subst c19
     rw[ak rfl]at H;exact absurd (aiq H) ais
    ·replace c19:=aix.mpr c19
     subst c19;rw[aj (show ¬(false=true) by decide)]at H;have Xa:=m_ H;clear H
     go_upto_if 84 with (fail)
     go_cut [] (fun wc=>∃(kq:Nat),au (cM.j3 kq l0=some true)∧au (kq≤We)∧au (Kd.V (Kd.slice 2 (Kd.int .i64)) 29 wc w.heap.size (fun k_=>k_≠U9) (.slice fA Vb.length fj) Vb)∧au (wc.heap[U9]? =some (.cells #[.int .i64 Vi,(.slice fA Vb.length fj)] 26 (0,0)))∧au (Below w.heap.size w wc))
     case first=>as_aux_lemma=>
      have H:=Xa.1;clear Xa
      by_cases mI:WK=0
      ·rw[ak mI]at H
       obtain⟨yp,Ib⟩:=dJ mI;clear mI;(first|rw[yp]|(simp only[eV,gK];rw[yp])|skip);obtain⟨⟨Xo,Xh⟩,zT,H⟩:=bE H;dsimp only at H;obtain⟨⟨X3,XF⟩,sJ,H⟩:=bE H;dsimp only at H;obtain⟨⟨Xp,XE⟩,iP,H⟩:=bE H;dsimp only at H;have Xd:=m_ H;clear H;have Ic:=aY U7.1;have Ie:=aZ U7.1;have Ig:=aA U7.1 0;have Ih:=aA U7.1 1;go_upto_region 12 with (first|((with_reducible refine bp (f:=21) rfl ?_);refine bA (some 88) Try.func21 #[.agg #[.int .i64 Vi, .slice fA Vb.length fj], .int .i64 VR] ?_;(with_reducible refine(lR.calls We Vi _ _ Vb VR Xo Xh _ ?av ?ax zT.1).mono ?_);(case av=>exact Kd.aC (Kd.eT U8.1).2.2 af);(case ax=>exact(Kd.eT U8.1).2.1);rintro e zU ⟨rfl,hb⟩;refine⟨_,rfl, ?_⟩;replace dm:=m_ (Kd.cv (Kd.cv dm.1 af) hb);replace U8:=m_ (Kd.bC (Kd.bC U8.1 af) hb);replace U7:=m_ (aQ U7.1 hb);replace HB:=m_ (aI ai hb);clear hb;have abk:=aY U7.1;have abl:=aZ U7.1;have abm:=aA U7.1 0;have abn:=aA U7.1 1)|((with_reducible refine bp (f:=22) rfl ?_);refine bA (some 94) Try.func22 #[.agg #[.int .i64 Vi, .slice fA Vb.length fj], .int .i64 VR] ?_;(with_reducible refine(oX.calls We Vi _ _ Vb VR X3 XF _ ?av ?ax sJ.1).mono ?_);(case av=>exact Kd.aC (Kd.eT U8.1).2.2 af);(case ax=>exact(Kd.eT U8.1).2.1);rintro e Ii ⟨afO,rfl,aW,hb⟩;refine⟨_,rfl, ?_⟩;replace aW:=Kd.EO (Kd.qY aW);replace U8:=m_ (Kd.gU (Kd.bC U8.1 af) (Kd.jL aW) hb);have WZ:=m_ (Kd.o4 (Kd.eG (ok':=fun k_=>some k_≠(V0:Value).ownBlock∧k_≠U9) aW (fun k_ bW=>⟨(Kd.fresh' (Kd.kD (Kd.cv dm.1 af)) k_ bW.2.1),(Kd.fu (g:=U9) (o:= .cells #[.int .i64 Vi, .slice fA Vb.length fj] 26 (0,0)) (az U7.1 af) k_ bW.2.1)⟩)) (aM ai));replace dm:=m_ (Kd.kN (Kd.cv dm.1 af) (Kd.jL aW) hb);replace U7:=m_ (aQ U7.1 hb);replace HB:=m_ (aI ai hb);clear hb;(try clear aW);have N8:=aY U7.1;have N9:=aZ U7.1;have Oa:=aA U7.1 0;have Ob:=aA U7.1 1)|((with_reducible refine bp (f:=23) rfl ?_);refine bA (some 100) aiI #[.agg #[.int .i64 Vi, .slice fA Vb.length fj], .int .i64 VR] ?_;(with_reducible refine(qc.calls We Vi _ _ Vb VR Xp XE _ ?av ?ax iP.1).mono ?_);(case av=>exact Kd.aC (Kd.eT U8.1).2.2 af);(case ax=>exact(Kd.eT U8.1).2.1);rintro e Ij ⟨rfl,hb⟩;refine⟨_,rfl, ?_⟩;replace dm:=m_ (Kd.cv (Kd.cv dm.1 af) hb);replace U8:=m_ (Kd.bC (Kd.bC U8.1 af) hb);replace WZ:=m_ (Kd.cv (Kd.cv WZ.1 af) hb);replace U7:=m_ (aQ U7.1 hb);replace HB:=m_ (aI ai hb);clear hb))
       (try simp only[aiA,aiB,aiC,aiD]);go_cut [124] (fun Oc wc=>∃(kq:Nat) (Wn:Bool),Oc= .bool Wn∧au (cM.j1 kq l0 VG Wn Vi Vb=some true)∧au (kq≤We)∧au (Kd.N (Kd.slice 2 (Kd.int .i64)) 29 wc w.heap.size (fun k_=>k_≠U9) V0 VG)∧au (Kd.V (Kd.slice 2 (Kd.int .i64)) 29 wc w.heap.size (fun k_=>some k_≠(V0:Value).ownBlock∧k_≠U9) (.slice fA Vb.length fj) Vb)∧au (wc.heap[U9]? =some (.cells #[.int .i64 Vi,(.slice fA Vb.length fj)] 26 (0,0)))∧au (Below w.heap.size w wc))
       case first=>as_aux_lemma=>
        have H:=Xd.1;clear Xd
        by_cases qp:Xh=0
        ·rw[ak qp]at H
         obtain⟨BH,ZT⟩:=dJ qp;clear qp;(first|rw[BH]|(simp only[eV,gK];rw[BH])|skip)
         by_cases sK:XF=0
         ·rw[ak sK]at H
          obtain⟨Od,agv⟩:=dJ sK;clear sK
          by_cases qq:XE=0
          ·rw[ak qq]at H
           obtain⟨HN,ZF⟩:=dJ qq;clear qq
           by_cases qt:Xo=(VG.length:Int)
           ·rw[ak qt]at H
            obtain⟨HP,agk⟩:=dJ qt;clear qt;have H':=m_ H;clear H;obtain⟨abo,HT,tU⟩:=Kd.mH dm.1;subst tU;obtain⟨agp,ZQ,YD⟩:=Kd.mH WZ.1;subst YD;go_wp2;go_meet
            case rel=>exact⟨_,((Xp != (X3.length:Int))),bh,H',⟨by have:=VF.1;first|omega|exact agO _⟩,⟨by(with_reducible repeat (first|apply Kd.iw|apply Kd.iy|apply Kd.gf));exact Kd.eG dm.1 (fun _ hk=>hk.1)⟩,⟨by(with_reducible repeat (first|apply Kd.fc|apply Kd.fe|apply Kd.eY));exact Kd.cu U8.1 (fun _ hk=>⟨hk.1.1,hk.1.2⟩)⟩,⟨az U7.1 af⟩,⟨ai⟩⟩
           ·rw[aj qt]at H
            exact absurd H cM.EN
          ·rw[aj qq]at H
           exact absurd H cM.EN
         ·rw[aj sK]at H
          exact absurd H cM.EN
        ·rw[aj qp]at H
         exact absurd H cM.EN
       case rest=>as_aux_lemma=>
        clear Xd;obtain⟨kq,Wn,rfl,HA,W7,dm,U8,U7,HB⟩:=hcut;cases kq with
        | zero=>exact absurd HA.1 (by simp[cM.j1])
        | succ X2=>
         have H:=HA.1;clear HA;simp only[cM.j1]at H
         by_cases sL:Wn=true
         ·subst sL
          rw[ak rfl]at H;exact absurd (aiq H) ais
         ·replace sL:=aix.mpr sL
          subst sL;rw[aj (show ¬(false=true) by decide)]at H;have H':=m_ H;clear H;go_wp2;go_loopg [15] X2 (fun kq rS w'=>∃(VL:Int),rS= .int .i64 VL∧au (cM.l0 kq l0 VG VL Vi Vb=some true)∧au (kq≤X2)∧au (Kd.N (Kd.slice 2 (Kd.int .i64)) 29 w' w.heap.size (fun k_=>k_≠U9) V0 VG)∧au (Kd.V (Kd.slice 2 (Kd.int .i64)) 29 w' w.heap.size (fun k_=>some k_≠(V0:Value).ownBlock∧k_≠U9) (.slice fA Vb.length fj) Vb)∧au (w'.heap[U9]? =some (.cells #[.int .i64 Vi,(.slice fA Vb.length fj)] 26 (0,0)))∧au (Below w.heap.size w w'))
          case atStart=>exact⟨(0),bh,H',⟨agO _⟩,⟨Kd.cv dm.1 af⟩,⟨Kd.bC U8.1 af⟩,⟨az U7.1 af⟩,⟨ai⟩⟩
          case round=>as_aux_lemma=>
           clear H';obtain⟨VL,rfl,HA,gh,dm,U8,U7,HB⟩:=hrel;cases gk with
           | zero=>exact absurd HA.1 (by simp[cM.l0])
           | succ k3=>
            have H:=HA.1;clear HA;simp only[cM.l0]at H
            by_cases V7:VL<(VG.length:Int)
            ·rw[ak V7]at H
             have YU:=aV V7;clear V7;obtain⟨qZ,H⟩:=bJ H;have Oe:=aV qZ;clear qZ;obtain⟨⟨Yt,XX⟩,Ik,H⟩:=bE H;dsimp only at H
             by_cases sM:XX=0
             ·rw[ak sM]at H
              obtain⟨abp,Zl⟩:=dJ sM;clear sM
              by_cases yq:Yt=true
              ·subst yq
               rw[ak rfl]at H;have H':=m_ H;clear H;obtain⟨Zp,afW,Yy⟩:=Kd.mH dm.1;subst Yy
               try go_wp2
               replace dm:=m_ (Kd.gf dm.1);replace U8:=m_ (Kd.eY U8.1);replace U7:=m_ (bM U7.1);replace HB:=m_ (iq HB.1);have WO:0≤(VL:Int):=aT;have WM:VL<(VG.length:Int):=aT;obtain⟨Yp,X0,XU,YL,WU,Xg,XZ⟩:=fK (Kd.fS dm.1).2.2 VL WO WM;cases YL;obtain⟨Zw,YS,Yi,X1⟩:=Kd.nD dm.1 [] VL WO (by first|exact WM|exact aT|(have e_:=(Kd.fS dm.1).1;omega));obtain⟨afk,ZG,rfl,W6,W9⟩:=Kd.nE Yi;have WE:=X1 0 _ rfl;rw[Nat.add_zero,show((Kd.slice 2 (Kd.int .i64))).sz=1 from rfl,Nat.mul_one]at WE;replace WE:=aiq (WE.symm.trans WU)
               injection WE with fE iI fF
               rw[fE]at W9;rw[fF]at W6;have W8:=m_ (show Kd.V (Kd.int .i64) 2 _ w.heap.size _ _ (aH VG VL) from Kd.mJ W6 W9);clear fE iI fF W9 W6;clear X1 YS;have V5:=m_ XZ;have YV:=m_ Xg;clear XZ Xg;replace WO:=aJ WO;replace WM:=aJ WM;refine jl (n:=11) (S:=fun w'=>w'.cell? ⟨U9,0,none⟩=some (.int .i64 Vi)∧w'.cell? ⟨U9,1,none⟩=some (.slice fA Vb.length fj)∧w'.cell? (Yp.add (VL).toNat)=some (.slice X0 (aH VG VL).length XU)) (ds:=[]) #[false,false,false,false,false,false,false,false,false,false,false] bI rfl rfl ⟨aY U7.1,aZ U7.1,WU⟩ (fun hHeld=> ?_);refine jU cM.HH cM.HI (fun eA jV=> ?_);generalize wr.drew=Og at dm U8 U7 HB W8 V5 WU hHeld ⊢;refine aX 1 11 133 2 ?_;refine aX 2 11 134 6 ?_;refine aX 3 11 135 14 ?_;refine cX 0 11 132 15 hHeld ?_;refine cX 4 11 136 31 hHeld ?_;refine gi 5 11 (some 137) 63 (fun K hK=> ?_);refine gI Try.func24 bI rfl #[.agg #[.int .i64 Vi, .slice fA Vb.length fj], .slice X0 (aH VG VL).length XU] (by rfl) rfl rfl iM ?_
               with_reducible refine(xE.calls k3 Vi _ _ Vb _ _ (aH VG VL) true XX _ ?av ?ax ?cK ?cY Ik.1).mono ?_
               (case av=>exact Kd.aC (Kd.eT U8.1).2.2 af);(case ax=>exact(Kd.eT U8.1).2.1);(case cK=>repeat (first|exact(by repeat (first|(with_reducible exact V5.1)|(with_reducible refine Kd.eN ?_ _)|(with_reducible refine Kd.eO ?_ _)|(with_reducible refine Kd.eP ?_)|exact V5.1))|(with_reducible refine Kd.eN ?_ _)|(with_reducible refine Kd.eO ?_ _)|(with_reducible refine Kd.eP ?_)));(case cY=>exact YV.1);rintro e w47 ⟨rfl,hb⟩;have oF:=(hb.cell (World.block_lt_of_cell? _ _ (hHeld.2.2))).trans (hHeld.2.2);refine⟨_,rfl, ?_⟩;replace dm:=m_ (Kd.cv (Kd.cv dm.1 af) hb);replace U8:=m_ (Kd.bC (Kd.bC U8.1 af) hb);replace W8:=m_ (Kd.bC (by(with_reducible repeat (first|apply Kd.fc|apply Kd.fe|apply Kd.eY));exact W8.1) hb);replace U7:=m_ (aQ U7.1 hb);replace V5:=m_ (Kd.aC (by repeat (first|(with_reducible exact V5.1)|(with_reducible refine Kd.eN ?_ _)|(with_reducible refine Kd.eO ?_ _)|(with_reducible refine Kd.eP ?_)|exact V5.1)) hb);replace HB:=m_ (aI ai hb);refine hK.out _ _ ⟨aY U7.1,aZ U7.1,oF⟩ (fun hHeld=> ?_);clear hK K;refine eH ?_;refine aX 6 11 131 127 ?_;refine aX 7 11 138 255 ?_;refine aX 8 11 139 511 ?_;refine aX 9 11 16 1023 ?_;refine aX 10 11 17 2047 ?_;refine ja (jC eA.1 bI) ?_
               try go_wp2
               go_roundg k3
               case measure=>have:=VF.1;have:=W7.1;have:=gh.1;omega
               case rel=>exact⟨(wrap64 (VL+1)),bh,H',⟨by have:=VF.1;have:=W7.1;have:=gh.1;omega⟩,⟨Kd.cv dm.1 af⟩,⟨Kd.bC U8.1 af⟩,⟨az U7.1 af⟩,⟨ai⟩⟩
              ·replace yq:=aix.mpr yq
               subst yq;rw[aj (show ¬(false=true) by decide)]at H;exact absurd (aiq H) ais
             ·rw[aj sM]at H
              exact absurd (aiq H) ais
            ·rw[aj V7]at H
             have YU:=cj V7;clear V7;have H':=m_ H;clear H;obtain⟨agx,afe,YT⟩:=Kd.mH dm.1;subst YT;go_wp2;go_meet
             case rel=>exact⟨_,H',⟨by have:=VF.1;have:=W7.1;have:=gh.1;first|omega|exact agO _⟩,⟨by(with_reducible repeat (first|apply Kd.fc|apply Kd.fe|apply Kd.eY));exact Kd.cu U8.1 (fun _ hk=>hk.2)⟩,⟨az U7.1 af⟩,⟨ai⟩⟩
      ·rw[aj mI]at H
       obtain⟨yp,Ib⟩:=dK mI;(first|rw[yp]|(simp only[eV,gK];rw[yp])|skip);have H':=m_ H;clear H;go_wp2;go_meet
       case rel=>exact⟨_,H',⟨by have:=VF.1;first|omega|exact agO _⟩,⟨by(with_reducible repeat (first|apply Kd.fc|apply Kd.fe|apply Kd.eY));exact Kd.cu U8.1 (fun _ hk=>hk.2)⟩,⟨az U7.1 af⟩,⟨ai⟩⟩
     case rest=>as_aux_lemma=>
      clear Xa;obtain⟨kq,HA,VP,U8,U7,HB⟩:=hcut;cases kq with
      | zero=>exact absurd HA.1 (by simp[cM.j3])
      | succ WN=>
       have H:=HA.1;clear HA;simp only[cM.j3]at H;obtain⟨⟨Vo,Vj,VY⟩,Yl,H⟩:=bE H;dsimp only at H;obtain⟨⟨V8,Wu⟩,Ym,H⟩:=bE H;dsimp only at H;obtain⟨⟨Xi,XP⟩,YA,H⟩:=bE H;dsimp only at H;have Xf:=m_ H;clear H;go_upto_region 23 with (first|((with_reducible refine bp (f:=25) rfl ?_);refine bA (some 148) Try.func25 #[.slice A0 l0.length c0] ?_;(with_reducible refine(xD.calls WN _ _ l0 Vo Vj VY _ ?av ?ax Yl.1).mono ?_);(case av=>exact Kd.aC (Kd.aC dY.1 HB.1) af);(case ax=>exact fJ.1);rintro e tX ⟨afn,rfl,aW,hb⟩;refine⟨_,rfl, ?_⟩;replace U8:=m_ (Kd.bC (Kd.bC U8.1 af) hb);have VS:=m_ (Kd.pM (Kd.cu (ok':=fun k_=>k_≠U9) aW (fun k_ bW=>(Kd.fu (g:=U9) (o:= .cells #[.int .i64 Vi, .slice fA Vb.length fj] 26 (0,0)) (az U7.1 af) k_ bW))) (aM ai));replace U7:=m_ (aQ U7.1 hb);replace HB:=m_ (aI ai hb);clear hb;(try clear aW))|((with_reducible refine bO (N:=18) rfl ?_);(try (refine lN (by rfl) ?_;dsimp only));refine cF (N:=18) (cs:= #[.int .i64 0, .slice none 0 0]) (t:=26) ?_;intro Vc hg w60 aN hb;replace U8:=m_ (Kd.bC (Kd.gR (Kd.bC U8.1 af) Vc (aip hg.symm)) hb);replace VS:=m_ (Kd.bC (Kd.gR (Kd.bC VS.1 af) Vc (aip hg.symm)) hb);have Va:=m_ (aN);have af6:=m_ ((by rw[hg];exact(aM ai):w.heap.size≤Vc));have Zq:=m_ ((by rw[hg];exact(aM ai):w.heap.size≤Vc));replace HB:=m_ (aI ai hb);have WT:=m_ ((by rw[hg];exact air (ee (az U7.1 af)):U9≠Vc));have XY:=m_ WT.1.symm;replace U7:=m_ (aQ U7.1 hb);clear hb aN hg;have Z7:=XY.1;have Zb:=WT.1;have Z4:=aY Va.1;have af8:=aZ Va.1;have afE:=aA Va.1 0;have agd:=aA Va.1 1;obtain⟨iJ,iz,B0⟩:=Kd.nC VS.1;subst B0)|((with_reducible refine bp (f:=23) rfl ?_);refine bA (some 154) aiI #[.agg #[.int .i64 Vo, .slice iJ Vj.length iz], .int .i64 VY] ?_;(with_reducible refine(qc.calls WN Vo _ _ Vj VY V8 Wu _ ?av ?ax Ym.1).mono ?_);(case av=>refine(Kd.eT (e:=29) (base:=w.heap.size) (ok:=fun k_=>(k_≠U9∧k_≠Vc)) (n:=Vj.length) (c:=iz) ?_).2.2;exact(by(with_reducible repeat (first|apply Kd.fc|apply Kd.fe|apply Kd.eY));exact(Kd.cu (Kd.dB (p:=⟨Vc,1,none⟩) (Kd.dB (p:=⟨Vc,0,none⟩) (Kd.cu VS.1 (fun k_ hk=>(⟨hk,hk.2⟩:_∧k_≠Vc))) (fun _ hk=>hk.2) (.int .i64 Vo)) (fun _ hk=>hk.2) (.slice iJ Vj.length iz)) (fun _ h_=>h_.1))));(case ax=>exact(Kd.eT VS.1).2.1);rintro e ZE ⟨rfl,hb⟩;refine⟨_,rfl, ?_⟩;replace U8:=m_ (Kd.bC (by(with_reducible repeat (first|apply Kd.fc|apply Kd.fe|apply Kd.eY));exact(Kd.cu (Kd.dB (p:=⟨Vc,1,none⟩) (Kd.dB (p:=⟨Vc,0,none⟩) (Kd.cu U8.1 (fun k_ hk=>(⟨hk,hk.2⟩:_∧k_≠Vc))) (fun _ hk=>hk.2) (.int .i64 Vo)) (fun _ hk=>hk.2) (.slice iJ Vj.length iz)) (fun _ h_=>h_.1))) hb);replace VS:=m_ (Kd.bC (by(with_reducible repeat (first|apply Kd.fc|apply Kd.fe|apply Kd.eY));exact(Kd.cu (Kd.dB (p:=⟨Vc,1,none⟩) (Kd.dB (p:=⟨Vc,0,none⟩) (Kd.cu VS.1 (fun k_ hk=>(⟨hk,hk.2⟩:_∧k_≠Vc))) (fun _ hk=>hk.2) (.int .i64 Vo)) (fun _ hk=>hk.2) (.slice iJ Vj.length iz)) (fun _ h_=>h_.1))) hb);replace U7:=m_ (az (g:=U9) (o:= .cells #[.int .i64 Vi, .slice fA Vb.length fj] 26 (0,0)) hO hb);replace Va:=m_ (az (g:=Vc) (o:= .cells #[.int .i64 Vo, .slice iJ Vj.length iz] 26 (0,0)) (by(with_reducible repeat (first|refine bZ ?_ _ |refine bM ?_ |refine bS ?_ _));refine dD (cs:= #[.int .i64 Vo, .slice none 0 0]) ?_ 1 _ rfl;(with_reducible repeat (first|refine bZ ?_ _ |refine bM ?_ |refine bS ?_ _));refine dD (cs:= #[.int .i64 0, .slice none 0 0]) ?_ 0 _ rfl;(with_reducible repeat (first|refine bZ ?_ _ |refine bM ?_ |refine bS ?_ _));exact Va.1) hb);replace HB:=m_ (aI ai hb);clear hb;have afD:=aY Va.1;have ZJ:=aZ Va.1;have afN:=aA Va.1 0;have af7:=aA Va.1 1)|((with_reducible refine bp (f:=26) rfl ?_);refine bA (some 160) Try.func26 #[.agg #[.int .i64 Vo, .slice iJ Vj.length iz], .int .i64 VY] ?_;(with_reducible refine(xk.calls WN Vo _ _ Vj VY Xi XP _ ?av ?ax YA.1).mono ?_);(case av=>exact Kd.aC (Kd.eT VS.1).2.2 af);(case ax=>exact(Kd.eT VS.1).2.1);rintro e w66 ⟨rfl,hb⟩;refine⟨_,rfl, ?_⟩;replace U8:=m_ (Kd.bC (Kd.bC U8.1 af) hb);replace VS:=m_ (Kd.bC (Kd.bC VS.1 af) hb);replace U7:=m_ (aQ U7.1 hb);replace Va:=m_ (aQ Va.1 hb);replace HB:=m_ (aI ai hb);clear hb))
       (try simp only[aiA,aiB,aiC,aiD]);go_cut [170] (fun Oh wc=>∃(kq:Nat) (WH:Bool),Oh= .bool WH∧au (cM.j4 kq l0 VY V8 Wu WH Vo Vj=some true)∧au (kq≤WN)∧au (Kd.V (Kd.slice 2 (Kd.int .i64)) 29 wc w.heap.size (fun k_=>k_≠U9∧k_≠Vc) (.slice fA Vb.length fj) Vb)∧au (Kd.V (Kd.slice 2 (Kd.int .i64)) 29 wc w.heap.size (fun k_=>k_≠U9∧k_≠Vc) (.slice iJ Vj.length iz) Vj)∧au (wc.heap[U9]? =some (.cells #[.int .i64 Vi,(.slice fA Vb.length fj)] 26 (0,0)))∧au (wc.heap[Vc]? =some (.cells #[.int .i64 Vo,(.slice iJ Vj.length iz)] 26 (0,0)))∧au (Below w.heap.size w wc))
       case first=>as_aux_lemma=>
        have H:=Xf.1;clear Xf
        by_cases WQ:Wu=XP
        ·rw[ak WQ]at H
         obtain⟨XN,Z1⟩:=dJ WQ;clear WQ;(first|rw[XN]|(simp only[eV,gK];rw[XN])|skip);have H':=m_ H;clear H;go_wp2;go_meet
         case rel=>exact⟨_,((V8 != Xi)),bh,H',⟨by have:=VF.1;have:=VP.1;first|omega|exact agO _⟩,⟨Kd.bC U8.1 af⟩,⟨Kd.bC VS.1 af⟩,⟨az U7.1 af⟩,⟨az Va.1 af⟩,⟨ai⟩⟩
        ·rw[aj WQ]at H
         exact absurd H cM.abg
       case rest=>as_aux_lemma=>
        clear Xf;obtain⟨kq,WH,rfl,HA,VU,U8,Ve,U7,Va,HB⟩:=hcut;cases kq with
        | zero=>exact absurd HA.1 (by simp[cM.j4])
        | succ Xc=>
         have H:=HA.1;clear HA;simp only[cM.j4]at H
         by_cases Wq:WH=true
         ·subst Wq
          rw[ak rfl]at H;exact absurd (aiq H) ais
         ·replace Wq:=aix.mpr Wq
          subst Wq;rw[aj (show ¬(false=true) by decide)]at H;have Xb:=m_ H;clear H
          go_upto_if 172 with (fail)
          go_cut [] (fun wc=>∃(kq:Nat),au (cM.j6 kq l0=some true)∧au (kq≤Xc)∧au (Kd.V (Kd.slice 2 (Kd.int .i64)) 29 wc w.heap.size (fun k_=>k_≠U9∧k_≠Vc) (.slice fA Vb.length fj) Vb)∧au (Kd.V (Kd.slice 2 (Kd.int .i64)) 29 wc w.heap.size (fun k_=>k_≠U9∧k_≠Vc) (.slice iJ Vj.length iz) Vj)∧au (wc.heap[U9]? =some (.cells #[.int .i64 Vi,(.slice fA Vb.length fj)] 26 (0,0)))∧au (wc.heap[Vc]? =some (.cells #[.int .i64 Vo,(.slice iJ Vj.length iz)] 26 (0,0)))∧au (Below w.heap.size w wc))
          case first=>as_aux_lemma=>
           have H:=Xb.1;clear Xb
           by_cases Wf:Wu=0
           ·rw[ak Wf]at H
            obtain⟨Wj,Ya⟩:=dJ Wf;clear Wf;(first|rw[Wj]|(simp only[eV,gK];rw[Wj])|skip);have H':=m_ H;clear H;go_wp2;go_loopg [24,25] Xc (fun kq kO YQ w'=>∃(V4:Int) (VX:Int),kO= .int .i64 V4∧YQ= .int .i64 VX∧au (cM.l1 kq l0 VY V8 V4 VX Vo Vj=some true)∧au (kq≤Xc)∧au (Kd.V (Kd.slice 2 (Kd.int .i64)) 29 w' w.heap.size (fun k_=>k_≠U9∧k_≠Vc) (.slice fA Vb.length fj) Vb)∧au (Kd.V (Kd.slice 2 (Kd.int .i64)) 29 w' w.heap.size (fun k_=>k_≠U9∧k_≠Vc) (.slice iJ Vj.length iz) Vj)∧au (w'.heap[U9]? =some (.cells #[.int .i64 Vi,(.slice fA Vb.length fj)] 26 (0,0)))∧au (w'.heap[Vc]? =some (.cells #[.int .i64 Vo,(.slice iJ Vj.length iz)] 26 (0,0)))∧au (Below w.heap.size w w'))
            case atStart=>exact⟨(0),(1),bh,bh,H',⟨agO _⟩,⟨Kd.bC U8.1 af⟩,⟨Kd.bC Ve.1 af⟩,⟨az U7.1 af⟩,⟨az Va.1 af⟩,⟨ai⟩⟩
            case round=>as_aux_lemma=>
             clear H';obtain⟨V4,VX,rfl,rfl,HA,jD,U8,Ve,U7,Va,HB⟩:=hrel;cases gk with
             | zero=>exact absurd HA.1 (by simp[cM.l1])
             | succ k4=>
              have H:=HA.1;clear HA;simp only[cM.l1]at H
              by_cases qw:VX≤VY
              ·rw[ak qw]at H
               have Il:=aV qw;clear qw
               by_cases zV:VX=0
               ·rw[ak zV]at H
                exact absurd H bQ
               ·rw[aj zV]at H
                obtain⟨abq,af0⟩:=dK zV
                by_cases vH:(agT VY VX)=0
                ·rw[ak vH]at H
                 obtain⟨Oi,YC⟩:=dJ vH;clear vH;obtain⟨⟨Xz,Xl⟩,YR,H⟩:=bE H;dsimp only at H
                 by_cases Wy:Xl=0
                 ·rw[ak Wy]at H
                  obtain⟨afv,afh⟩:=dJ Wy;clear Wy;have H':=m_ H;clear H;have abr:=XY.1;have abt:=WT.1;have abu:=aY Va.1;have abv:=aZ Va.1;have abw:=aA Va.1 0;have abx:=aA Va.1 1;go_wp2_with (first|((with_reducible refine bp (f:=21) rfl ?_);refine bA (some 185) Try.func21 #[.agg #[.int .i64 Vo, .slice iJ Vj.length iz], .int .i64 VX] ?_;(with_reducible refine(lR.calls k4 Vo _ _ Vj VX Xz Xl _ ?av ?ax YR.1).mono ?_);(case av=>exact Kd.aC (Kd.eT Ve.1).2.2 af);(case ax=>exact(Kd.eT Ve.1).2.1);rintro e w78 ⟨rfl,hb⟩;refine⟨_,rfl, ?_⟩;replace U8:=m_ (Kd.bC (Kd.bC U8.1 af) hb);replace Ve:=m_ (Kd.bC (Kd.bC Ve.1 af) hb);replace U7:=m_ (aQ U7.1 hb);replace Va:=m_ (aQ Va.1 hb);replace HB:=m_ (aI ai hb);clear hb));go_roundg k4
                  case measure=>have:=VF.1;have:=VP.1;have:=VU.1;have:=jD.1;omega
                  case rel=>exact⟨(wrap64 (V4+(wrap64 (VX*Xz)))),(wrap64 (VX+1)),bh,bh,H',⟨by have:=VF.1;have:=VP.1;have:=VU.1;have:=jD.1;omega⟩,⟨Kd.bC U8.1 af⟩,⟨Kd.bC Ve.1 af⟩,⟨az U7.1 af⟩,⟨az Va.1 af⟩,⟨ai⟩⟩
                 ·rw[aj Wy]at H
                  exact absurd (aiq H) ais
                ·rw[aj vH]at H
                 obtain⟨Oi,YC⟩:=dK vH;have H':=m_ H;clear H;go_wp2;go_roundg k4
                 case measure=>have:=VF.1;have:=VP.1;have:=VU.1;have:=jD.1;omega
                 case rel=>exact⟨(V4),(wrap64 (VX+1)),bh,bh,H',⟨by have:=VF.1;have:=VP.1;have:=VU.1;have:=jD.1;omega⟩,⟨Kd.bC U8.1 af⟩,⟨Kd.bC Ve.1 af⟩,⟨az U7.1 af⟩,⟨az Va.1 af⟩,⟨ai⟩⟩
              ·rw[aj qw]at H
               have Il:=cj qw;clear qw
               by_cases yt:V4=V8
               ·rw[ak yt]at H
                obtain⟨af9,Zm⟩:=dJ yt;clear yt;have H':=m_ H;clear H;go_wp2;go_meet
                case rel=>exact⟨_,H',⟨by have:=VF.1;have:=VP.1;have:=VU.1;have:=jD.1;first|omega|exact agO _⟩,⟨Kd.bC U8.1 af⟩,⟨Kd.bC Ve.1 af⟩,⟨az U7.1 af⟩,⟨az Va.1 af⟩,⟨ai⟩⟩
               ·rw[aj yt]at H
                exact absurd (aiq H) ais
           ·rw[aj Wf]at H
            obtain⟨Wj,Ya⟩:=dK Wf;(first|rw[Wj]|(simp only[eV,gK];rw[Wj])|skip);have H':=m_ H;clear H;go_wp2;go_meet
            case rel=>exact⟨_,H',⟨by have:=VF.1;have:=VP.1;have:=VU.1;first|omega|exact agO _⟩,⟨Kd.bC U8.1 af⟩,⟨Kd.bC Ve.1 af⟩,⟨az U7.1 af⟩,⟨az Va.1 af⟩,⟨ai⟩⟩
          case rest=>as_aux_lemma=>
           clear Xb;obtain⟨kq,HA,Wc,U8,Ve,U7,Va,HB⟩:=hcut;cases kq with
           | zero=>exact absurd HA.1 (by simp[cM.j6])
           | succ Wx=>
            have H:=HA.1;clear HA;simp only[cM.j6]at H;obtain⟨⟨Vp,Vm⟩,Y2,H⟩:=bE H;dsimp only at H;obtain⟨⟨VZ,WA⟩,YY,H⟩:=bE H;dsimp only at H;obtain⟨⟨Xj,XQ⟩,Y4,H⟩:=bE H;dsimp only at H;have WY:=m_ H;clear H;go_upto_region 40 with (first|((with_reducible refine bp (f:=27) rfl ?_);refine bA (some 199) Try.func27 #[.slice A0 l0.length c0] ?_;(with_reducible refine(xz.calls Wx _ _ l0 Vp Vm _ ?av ?ax Y2.1).mono ?_);(case av=>exact Kd.aC (Kd.aC dY.1 HB.1) af);(case ax=>exact fJ.1);rintro e Zh ⟨Zt,rfl,aW,hb⟩;refine⟨_,rfl, ?_⟩;replace U8:=m_ (Kd.bC (Kd.bC U8.1 af) hb);replace Ve:=m_ (Kd.bC (Kd.bC Ve.1 af) hb);have VQ:=m_ (Kd.pM (Kd.cu (ok':=fun k_=>k_≠U9∧k_≠Vc) aW (fun k_ bW=>⟨(Kd.fu (g:=U9) (o:= .cells #[.int .i64 Vi, .slice fA Vb.length fj] 26 (0,0)) (az U7.1 af) k_ bW),(Kd.fu (g:=Vc) (o:= .cells #[.int .i64 Vo, .slice iJ Vj.length iz] 26 (0,0)) (az Va.1 af) k_ bW)⟩)) (aM ai));replace U7:=m_ (aQ U7.1 hb);replace Va:=m_ (aQ Va.1 hb);replace HB:=m_ (aI ai hb);clear hb;(try clear aW))|((with_reducible refine bO (N:=28) rfl ?_);(try (refine lN (by rfl) ?_;dsimp only));refine cF (N:=28) (cs:= #[.int .i64 0, .slice none 0 0]) (t:=26) ?_;intro Vf hg w88 aN hb;replace U8:=m_ (Kd.bC (Kd.gR (Kd.bC U8.1 af) Vf (aip hg.symm)) hb);replace Ve:=m_ (Kd.bC (Kd.gR (Kd.bC Ve.1 af) Vf (aip hg.symm)) hb);replace VQ:=m_ (Kd.bC (Kd.gR (Kd.bC VQ.1 af) Vf (aip hg.symm)) hb);have Vd:=m_ (aN);have Zx:=m_ ((by rw[hg];exact(aM ai):w.heap.size≤Vf));have af1:=m_ ((by rw[hg];exact(aM ai):w.heap.size≤Vf));replace HB:=m_ (aI ai hb);have WJ:=m_ ((by rw[hg];exact air (ee (az U7.1 af)):U9≠Vf));have Xe:=m_ WJ.1.symm;replace U7:=m_ (aQ U7.1 hb);have Ws:=m_ ((by rw[hg];exact air (ee (az Va.1 af)):Vc≠Vf));have WV:=m_ Ws.1.symm;replace Va:=m_ (aQ Va.1 hb);clear hb aN hg;have ZR:=Xe.1;have afd:=WJ.1;have agy:=WV.1;have afQ:=Ws.1;have Y8:=aY Vd.1;have afj:=aZ Vd.1;have Y9:=aA Vd.1 0;have afX:=aA Vd.1 1;obtain⟨Vv,Vt,YJ⟩:=Kd.nC VQ.1;subst YJ)|((with_reducible refine bp (f:=28) rfl ?_);refine bA (some 202) Try.func28 #[.agg #[.int .i64 Vp, .slice Vv Vm.length Vt]] ?_;(with_reducible refine(om.calls Wx Vp _ _ Vm VZ WA _ ?av ?ax YY.1).mono ?_);(case av=>refine(Kd.eT (e:=29) (base:=w.heap.size) (ok:=fun k_=>((k_≠U9∧k_≠Vc)∧k_≠Vf)) (n:=Vm.length) (c:=Vt) ?_).2.2;exact(by(with_reducible repeat (first|apply Kd.fc|apply Kd.fe|apply Kd.eY));exact(Kd.cu (Kd.dB (p:=⟨Vf,1,none⟩) (Kd.dB (p:=⟨Vf,0,none⟩) (Kd.cu VQ.1 (fun k_ hk=>(⟨hk,hk.2⟩:_∧k_≠Vf))) (fun _ hk=>hk.2) (.int .i64 Vp)) (fun _ hk=>hk.2) (.slice Vv Vm.length Vt)) (fun _ h_=>h_.1))));(case ax=>exact(Kd.eT VQ.1).2.1);rintro e w93 ⟨rfl,hb⟩;refine⟨_,rfl, ?_⟩;replace U8:=m_ (Kd.bC (by(with_reducible repeat (first|apply Kd.fc|apply Kd.fe|apply Kd.eY));exact(Kd.cu (Kd.dB (p:=⟨Vf,1,none⟩) (Kd.dB (p:=⟨Vf,0,none⟩) (Kd.cu U8.1 (fun k_ hk=>(⟨hk,hk.2⟩:_∧k_≠Vf))) (fun _ hk=>hk.2) (.int .i64 Vp)) (fun _ hk=>hk.2) (.slice Vv Vm.length Vt)) (fun _ h_=>h_.1))) hb);replace Ve:=m_ (Kd.bC (by(with_reducible repeat (first|apply Kd.fc|apply Kd.fe|apply Kd.eY));exact(Kd.cu (Kd.dB (p:=⟨Vf,1,none⟩) (Kd.dB (p:=⟨Vf,0,none⟩) (Kd.cu Ve.1 (fun k_ hk=>(⟨hk,hk.2⟩:_∧k_≠Vf))) (fun _ hk=>hk.2) (.int .i64 Vp)) (fun _ hk=>hk.2) (.slice Vv Vm.length Vt)) (fun _ h_=>h_.1))) hb);replace VQ:=m_ (Kd.bC (by(with_reducible repeat (first|apply Kd.fc|apply Kd.fe|apply Kd.eY));exact(Kd.cu (Kd.dB (p:=⟨Vf,1,none⟩) (Kd.dB (p:=⟨Vf,0,none⟩) (Kd.cu VQ.1 (fun k_ hk=>(⟨hk,hk.2⟩:_∧k_≠Vf))) (fun _ hk=>hk.2) (.int .i64 Vp)) (fun _ hk=>hk.2) (.slice Vv Vm.length Vt)) (fun _ h_=>h_.1))) hb);replace U7:=m_ (az (g:=U9) (o:= .cells #[.int .i64 Vi, .slice fA Vb.length fj] 26 (0,0)) hO hb);replace Va:=m_ (az (g:=Vc) (o:= .cells #[.int .i64 Vo, .slice iJ Vj.length iz] 26 (0,0)) hO hb);replace Vd:=m_ (az (g:=Vf) (o:= .cells #[.int .i64 Vp, .slice Vv Vm.length Vt] 26 (0,0)) (by(with_reducible repeat (first|refine bZ ?_ _ |refine bM ?_ |refine bS ?_ _));refine dD (cs:= #[.int .i64 Vp, .slice none 0 0]) ?_ 1 _ rfl;(with_reducible repeat (first|refine bZ ?_ _ |refine bM ?_ |refine bS ?_ _));refine dD (cs:= #[.int .i64 0, .slice none 0 0]) ?_ 0 _ rfl;(with_reducible repeat (first|refine bZ ?_ _ |refine bM ?_ |refine bS ?_ _));exact Vd.1) hb);replace HB:=m_ (aI ai hb);clear hb;have afq:=aY Vd.1;have agr:=aZ Vd.1;have afB:=aA Vd.1 0;have afC:=aA Vd.1 1)|((with_reducible refine bp (f:=29) rfl ?_);refine bA (some 207) Try.func29 #[.agg #[.int .i64 Vp, .slice Vv Vm.length Vt]] ?_;(with_reducible refine(oh.calls Wx Vp _ _ Vm Xj XQ _ ?av ?ax Y4.1).mono ?_);(case av=>exact Kd.aC (Kd.eT VQ.1).2.2 af);(case ax=>exact(Kd.eT VQ.1).2.1);rintro e w95 ⟨rfl,hb⟩;refine⟨_,rfl, ?_⟩;replace U8:=m_ (Kd.bC (Kd.bC U8.1 af) hb);replace Ve:=m_ (Kd.bC (Kd.bC Ve.1 af) hb);replace VQ:=m_ (Kd.bC (Kd.bC VQ.1 af) hb);replace U7:=m_ (aQ U7.1 hb);replace Va:=m_ (aQ Va.1 hb);replace Vd:=m_ (aQ Vd.1 hb);replace HB:=m_ (aI ai hb);clear hb))
            (try simp only[aiA,aiB,aiC,aiD]);go_cut [217] (fun Oj wc=>∃(kq:Nat) (WD:Bool),Oj= .bool WD∧au (cM.j7 kq l0 VZ WA WD Vp Vm=some true)∧au (kq≤Wx)∧au (Kd.V (Kd.slice 2 (Kd.int .i64)) 29 wc w.heap.size (fun k_=>k_≠U9∧k_≠Vc∧k_≠Vf) (.slice fA Vb.length fj) Vb)∧au (Kd.V (Kd.slice 2 (Kd.int .i64)) 29 wc w.heap.size (fun k_=>k_≠U9∧k_≠Vc∧k_≠Vf) (.slice iJ Vj.length iz) Vj)∧au (Kd.V (Kd.slice 2 (Kd.int .i64)) 29 wc w.heap.size (fun k_=>k_≠U9∧k_≠Vc∧k_≠Vf) (.slice Vv Vm.length Vt) Vm)∧au (wc.heap[U9]? =some (.cells #[.int .i64 Vi,(.slice fA Vb.length fj)] 26 (0,0)))∧au (wc.heap[Vc]? =some (.cells #[.int .i64 Vo,(.slice iJ Vj.length iz)] 26 (0,0)))∧au (wc.heap[Vf]? =some (.cells #[.int .i64 Vp,(.slice Vv Vm.length Vt)] 26 (0,0)))∧au (Below w.heap.size w wc))
            case first=>as_aux_lemma=>
             have H:=WY.1;clear WY
             by_cases WI:WA=XQ
             ·rw[ak WI]at H
              obtain⟨Xm,agb⟩:=dJ WI;clear WI;(first|rw[Xm]|(simp only[eV,gK];rw[Xm])|skip);have H':=m_ H;clear H;go_wp2;go_meet
              case rel=>exact⟨_,((VZ != Xj)),bh,H',⟨by have:=VF.1;have:=VP.1;have:=VU.1;have:=Wc.1;first|omega|exact agO _⟩,⟨by(with_reducible repeat (first|apply Kd.fc|apply Kd.fe|apply Kd.eY));exact Kd.cu U8.1 (fun _ hk=>⟨hk.1.1,⟨hk.1.2,hk.2⟩⟩)⟩,⟨by(with_reducible repeat (first|apply Kd.fc|apply Kd.fe|apply Kd.eY));exact Kd.cu Ve.1 (fun _ hk=>⟨hk.1.1,⟨hk.1.2,hk.2⟩⟩)⟩,⟨by(with_reducible repeat (first|apply Kd.fc|apply Kd.fe|apply Kd.eY));exact Kd.cu VQ.1 (fun _ hk=>⟨hk.1.1,⟨hk.1.2,hk.2⟩⟩)⟩,⟨az U7.1 af⟩,⟨az Va.1 af⟩,⟨az Vd.1 af⟩,⟨ai⟩⟩
             ·rw[aj WI]at H
              exact absurd H cM.abh
            case rest=>as_aux_lemma=>
             clear WY;obtain⟨kq,WD,rfl,HA,WS,U8,Ve,Vl,U7,Va,Vd,HB⟩:=hcut;cases kq with
             | zero=>exact absurd HA.1 (by simp[cM.j7])
             | succ W3=>
              have H:=HA.1;clear HA;simp only[cM.j7]at H
              by_cases WC:WD=true
              ·subst WC
               rw[ak rfl]at H;exact absurd (aiq H) ais
              ·replace WC:=aix.mpr WC
               subst WC;rw[aj (show ¬(false=true) by decide)]at H;have WW:=m_ H;clear H
               go_upto_if 219 with (fail)
               go_cut [] (fun wc=>∃(kq:Nat),au (cM.j9 kq l0=some true)∧au (kq≤W3)∧au (Kd.V (Kd.slice 2 (Kd.int .i64)) 29 wc w.heap.size (fun k_=>k_≠U9∧k_≠Vc∧k_≠Vf) (.slice fA Vb.length fj) Vb)∧au (Kd.V (Kd.slice 2 (Kd.int .i64)) 29 wc w.heap.size (fun k_=>k_≠U9∧k_≠Vc∧k_≠Vf) (.slice iJ Vj.length iz) Vj)∧au (Kd.V (Kd.slice 2 (Kd.int .i64)) 29 wc w.heap.size (fun k_=>k_≠U9∧k_≠Vc∧k_≠Vf) (.slice Vv Vm.length Vt) Vm)∧au (wc.heap[U9]? =some (.cells #[.int .i64 Vi,(.slice fA Vb.length fj)] 26 (0,0)))∧au (wc.heap[Vc]? =some (.cells #[.int .i64 Vo,(.slice iJ Vj.length iz)] 26 (0,0)))∧au (wc.heap[Vf]? =some (.cells #[.int .i64 Vp,(.slice Vv Vm.length Vt)] 26 (0,0)))∧au (Below w.heap.size w wc))
               case first=>as_aux_lemma=>
                have H:=WW.1;clear WW
                by_cases Wa:WA=0
                ·rw[ak Wa]at H
                 obtain⟨Wi,Ye⟩:=dJ Wa;clear Wa;(first|rw[Wi]|(simp only[eV,gK];rw[Wi])|skip);obtain⟨⟨XD,XK⟩,YN,H⟩:=bE H;dsimp only at H;have W4:=m_ H;clear H;have Ok:=Xe.1;have Ol:=WJ.1;have aby:=WV.1;have abz:=Ws.1;have abA:=aY Vd.1;have abB:=aZ Vd.1;have abC:=aA Vd.1 0;have abD:=aA Vd.1 1;go_upto_region 44 with (first|((with_reducible refine bp (f:=23) rfl ?_);refine bA (some 223) aiI #[.agg #[.int .i64 Vp, .slice Vv Vm.length Vt], .int .i64 VZ] ?_;(with_reducible refine(qc.calls W3 Vp _ _ Vm VZ XD XK _ ?av ?ax YN.1).mono ?_);(case av=>exact Kd.aC (Kd.eT Vl.1).2.2 af);(case ax=>exact(Kd.eT Vl.1).2.1);rintro e Zi ⟨rfl,hb⟩;refine⟨_,rfl, ?_⟩;replace U8:=m_ (Kd.bC (Kd.bC U8.1 af) hb);replace Ve:=m_ (Kd.bC (Kd.bC Ve.1 af) hb);replace Vl:=m_ (Kd.bC (Kd.bC Vl.1 af) hb);replace U7:=m_ (aQ U7.1 hb);replace Va:=m_ (aQ Va.1 hb);replace Vd:=m_ (aQ Vd.1 hb);replace HB:=m_ (aI ai hb);clear hb))
                 (try simp only[aiA,aiB,aiC,aiD]);go_cut [231] (fun YG wc=>∃(kq:Nat) (WG:Bool),YG= .bool WG∧au (cM.j8 kq l0 VZ WG Vp Vm=some true)∧au (kq≤W3)∧au (Kd.V (Kd.slice 2 (Kd.int .i64)) 29 wc w.heap.size (fun k_=>k_≠U9∧k_≠Vc∧k_≠Vf) (.slice fA Vb.length fj) Vb)∧au (Kd.V (Kd.slice 2 (Kd.int .i64)) 29 wc w.heap.size (fun k_=>k_≠U9∧k_≠Vc∧k_≠Vf) (.slice iJ Vj.length iz) Vj)∧au (Kd.V (Kd.slice 2 (Kd.int .i64)) 29 wc w.heap.size (fun k_=>k_≠U9∧k_≠Vc∧k_≠Vf) (.slice Vv Vm.length Vt) Vm)∧au (wc.heap[U9]? =some (.cells #[.int .i64 Vi,(.slice fA Vb.length fj)] 26 (0,0)))∧au (wc.heap[Vc]? =some (.cells #[.int .i64 Vo,(.slice iJ Vj.length iz)] 26 (0,0)))∧au (wc.heap[Vf]? =some (.cells #[.int .i64 Vp,(.slice Vv Vm.length Vt)] 26 (0,0)))∧au (Below w.heap.size w wc))
                 case first=>as_aux_lemma=>
                  have H:=W4.1;clear W4
                  by_cases Wm:XK=0
                  ·rw[ak Wm]at H
                   obtain⟨Xk,afR⟩:=dJ Wm;clear Wm;(first|rw[Xk]|(simp only[eV,gK];rw[Xk])|skip);have H':=m_ H;clear H;go_wp2;go_meet
                   case rel=>exact⟨_,(decide (XD<1)),bh,H',⟨by have:=VF.1;have:=VP.1;have:=VU.1;have:=Wc.1;have:=WS.1;first|omega|exact agO _⟩,⟨Kd.bC U8.1 af⟩,⟨Kd.bC Ve.1 af⟩,⟨Kd.bC Vl.1 af⟩,⟨az U7.1 af⟩,⟨az Va.1 af⟩,⟨az Vd.1 af⟩,⟨ai⟩⟩
                  ·rw[aj Wm]at H
                   exact absurd H cM.abj
                 case rest=>as_aux_lemma=>
                  clear W4;obtain⟨kq,WG,rfl,HA,X7,U8,Ve,Vl,U7,Va,Vd,HB⟩:=hcut;cases kq with
                  | zero=>exact absurd HA.1 (by simp[cM.j8])
                  | succ YE=>
                   have H:=HA.1;clear HA;simp only[cM.j8]at H
                   by_cases WB:WG=true
                   ·subst WB
                    rw[ak rfl]at H;exact absurd (aiq H) ais
                   ·replace WB:=aix.mpr WB
                    subst WB;rw[aj (show ¬(false=true) by decide)]at H
                    by_cases V2:VZ>1
                    ·rw[ak V2]at H
                     have Yz:=aV V2;clear V2;obtain⟨⟨XG,Xy⟩,Yg,H⟩:=bE H;dsimp only at H
                     by_cases Ww:Xy=0
                     ·rw[ak Ww]at H
                      obtain⟨afu,afr⟩:=dJ Ww;clear Ww
                      by_cases WR:XG=0
                      ·rw[ak WR]at H
                       obtain⟨afV,afU⟩:=dJ WR;clear WR;have H':=m_ H;clear H;have Zs:=Xe.1;have ags:=WJ.1;have abE:=WV.1;have abF:=Ws.1;have abG:=aY Vd.1;have abH:=aZ Vd.1;have abI:=aA Vd.1 0;have abJ:=aA Vd.1 1;go_wp2_with (first|((with_reducible refine bp (f:=23) rfl ?_);refine bA (some 238) aiI #[.agg #[.int .i64 Vp, .slice Vv Vm.length Vt], .int .i64 (wrap64 (VZ - 1))] ?_;(with_reducible refine(qc.calls YE Vp _ _ Vm (wrap64 (VZ - 1)) XG Xy _ ?av ?ax Yg.1).mono ?_);(case av=>exact Kd.aC (Kd.eT Vl.1).2.2 af);(case ax=>exact(Kd.eT Vl.1).2.1);rintro e afT ⟨rfl,hb⟩;refine⟨_,rfl, ?_⟩;replace U8:=m_ (Kd.bC (Kd.bC U8.1 af) hb);replace Ve:=m_ (Kd.bC (Kd.bC Ve.1 af) hb);replace Vl:=m_ (Kd.bC (Kd.bC Vl.1 af) hb);replace U7:=m_ (aQ U7.1 hb);replace Va:=m_ (aQ Va.1 hb);replace Vd:=m_ (aQ Vd.1 hb);replace HB:=m_ (aI ai hb);clear hb));go_meet
                       case rel=>exact⟨_,H',⟨by have:=VF.1;have:=VP.1;have:=VU.1;have:=Wc.1;have:=WS.1;have:=X7.1;first|omega|exact agO _⟩,⟨Kd.bC U8.1 af⟩,⟨Kd.bC Ve.1 af⟩,⟨Kd.bC Vl.1 af⟩,⟨az U7.1 af⟩,⟨az Va.1 af⟩,⟨az Vd.1 af⟩,⟨ai⟩⟩
                      ·rw[aj WR]at H
                       exact absurd (aiq H) ais
                     ·rw[aj Ww]at H
                      exact absurd (aiq H) ais
                    ·rw[aj V2]at H
                     have Yz:=cj V2;clear V2;have H':=m_ H;clear H;go_wp2;go_meet
                     case rel=>exact⟨_,H',⟨by have:=VF.1;have:=VP.1;have:=VU.1;have:=Wc.1;have:=WS.1;have:=X7.1;first|omega|exact agO _⟩,⟨Kd.bC U8.1 af⟩,⟨Kd.bC Ve.1 af⟩,⟨Kd.bC Vl.1 af⟩,⟨az U7.1 af⟩,⟨az Va.1 af⟩,⟨az Vd.1 af⟩,⟨ai⟩⟩
                ·rw[aj Wa]at H
                 obtain⟨Wi,Ye⟩:=dK Wa;(first|rw[Wi]|(simp only[eV,gK];rw[Wi])|skip);have H':=m_ H;clear H;go_wp2;go_meet
                 case rel=>exact⟨_,H',⟨by have:=VF.1;have:=VP.1;have:=VU.1;have:=Wc.1;have:=WS.1;first|omega|exact agO _⟩,⟨Kd.bC U8.1 af⟩,⟨Kd.bC Ve.1 af⟩,⟨Kd.bC Vl.1 af⟩,⟨az U7.1 af⟩,⟨az Va.1 af⟩,⟨az Vd.1 af⟩,⟨ai⟩⟩
               case rest=>as_aux_lemma=>
                clear WW;obtain⟨kq,HA,ZK,U8,Ve,Vl,U7,Va,Vd,HB⟩:=hcut;cases kq with
                | zero=>exact absurd HA.1 (by simp[cM.j9])
                | succ VW=>
                 have H:=HA.1;clear HA;simp only[cM.j9]at H;obtain⟨⟨VD,VA,Wg⟩,YP,H⟩:=bE H;dsimp only at H;obtain⟨⟨XT,XA⟩,Yj,H⟩:=bE H;dsimp only at H;obtain⟨⟨XR,XV⟩,Yw,H⟩:=bE H;dsimp only at H;obtain⟨⟨Vw,Vx,Wh⟩,Yu,H⟩:=bE H;dsimp only at H;obtain⟨⟨Xr,XW⟩,YW,H⟩:=bE H;dsimp only at H;obtain⟨⟨XI,XC⟩,Yx,H⟩:=bE H;dsimp only at H;obtain⟨⟨VB,VC,V9⟩,Yk,H⟩:=bE H;dsimp only at H;obtain⟨⟨YZ,Xq⟩,Y1,H⟩:=bE H;dsimp only at H;obtain⟨⟨Yq,Xv⟩,YX,H⟩:=bE H;dsimp only at H
                 by_cases WL:XA=XV
                 ·rw[ak WL]at H
                  obtain⟨afK,afL⟩:=dJ WL;clear WL;obtain⟨H6,Yb,H⟩:=bE H
                  by_cases Wl:H6=true
                  ·subst Wl
                   rw[ak rfl]at H
                   by_cases Wz:XW=XC
                   ·rw[ak Wz]at H
                    obtain⟨agc,afY⟩:=dJ Wz;clear Wz;obtain⟨H7,Y6,H⟩:=bE H
                    by_cases Wv:H7=true
                    ·subst Wv
                     rw[ak rfl]at H
                     by_cases Wt:Xq=Xv
                     ·rw[ak Wt]at H
                      obtain⟨ZH,afH⟩:=dJ Wt;clear Wt;have H:=aiq H;go_wp2_with (first|((with_reducible refine bp (f:=30) rfl ?_);refine bA (some 249) Try.func30 #[.slice A0 l0.length c0] ?_;(with_reducible refine(xA.calls VW _ _ l0 VD VA Wg _ ?av ?ax YP.1).mono ?_);(case av=>exact Kd.aC (Kd.aC dY.1 HB.1) af);(case ax=>exact fJ.1);rintro e afm ⟨Zc,rfl,aW,hb⟩;refine⟨_,rfl, ?_⟩;replace U8:=m_ (Kd.bC (Kd.bC U8.1 af) hb);replace Ve:=m_ (Kd.bC (Kd.bC Ve.1 af) hb);replace Vl:=m_ (Kd.bC (Kd.bC Vl.1 af) hb);have Vr:=m_ (Kd.pM (Kd.cu (ok':=fun k_=>k_≠U9∧k_≠Vc∧k_≠Vf) aW (fun k_ bW=>⟨(Kd.fu (g:=U9) (o:= .cells #[.int .i64 Vi, .slice fA Vb.length fj] 26 (0,0)) (az U7.1 af) k_ bW),(Kd.fu (g:=Vc) (o:= .cells #[.int .i64 Vo, .slice iJ Vj.length iz] 26 (0,0)) (az Va.1 af) k_ bW),(Kd.fu (g:=Vf) (o:= .cells #[.int .i64 Vp, .slice Vv Vm.length Vt] 26 (0,0)) (az Vd.1 af) k_ bW)⟩)) (aM ai));replace U7:=m_ (aQ U7.1 hb);replace Va:=m_ (aQ Va.1 hb);replace Vd:=m_ (aQ Vd.1 hb);replace HB:=m_ (aI ai hb);clear hb;(try clear aW))|((with_reducible refine bO (N:=37) rfl ?_);(try (refine lN (by rfl) ?_;dsimp only));refine cF (N:=37) (cs:= #[.int .i64 0, .slice none 0 0]) (t:=26) ?_;intro Vk hg ZP aN hb;replace U8:=m_ (Kd.bC (Kd.gR (Kd.bC U8.1 af) Vk (aip hg.symm)) hb);replace Ve:=m_ (Kd.bC (Kd.gR (Kd.bC Ve.1 af) Vk (aip hg.symm)) hb);replace Vl:=m_ (Kd.bC (Kd.gR (Kd.bC Vl.1 af) Vk (aip hg.symm)) hb);replace Vr:=m_ (Kd.bC (Kd.gR (Kd.bC Vr.1 af) Vk (aip hg.symm)) hb);have Vn:=m_ (aN);have afo:=m_ ((by rw[hg];exact(aM ai):w.heap.size≤Vk));have ZI:=m_ ((by rw[hg];exact(aM ai):w.heap.size≤Vk));replace HB:=m_ (aI ai hb);have XO:=m_ ((by rw[hg];exact air (ee (az U7.1 af)):U9≠Vk));have X9:=m_ XO.1.symm;replace U7:=m_ (aQ U7.1 hb);have XH:=m_ ((by rw[hg];exact air (ee (az Va.1 af)):Vc≠Vk));have YI:=m_ XH.1.symm;replace Va:=m_ (aQ Va.1 hb);have XM:=m_ ((by rw[hg];exact air (ee (az Vd.1 af)):Vf≠Vk));have YK:=m_ XM.1.symm;replace Vd:=m_ (aQ Vd.1 hb);clear hb aN hg;have afJ:=X9.1;have af3:=XO.1;have agf:=YI.1;have Zu:=XH.1;have Z8:=YK.1;have agj:=XM.1;have afy:=aY Vn.1;have age:=aZ Vn.1;have Zk:=aA Vn.1 0;have Zj:=aA Vn.1 1;obtain⟨VK,VI,Yf⟩:=Kd.nC Vr.1;subst Yf)|((with_reducible refine bp (f:=31) rfl ?_);refine bA (some 255) Try.func31 #[.agg #[.int .i64 VD, .slice VK VA.length VI], .int .i64 Wg] ?_;(with_reducible refine(mW.calls VW VD _ _ VA Wg XT XA _ ?av ?ax Yj.1).mono ?_);(case av=>refine(Kd.eT (e:=29) (base:=w.heap.size) (ok:=fun k_=>((k_≠U9∧(k_≠Vc∧k_≠Vf))∧k_≠Vk)) (n:=VA.length) (c:=VI) ?_).2.2;exact(by(with_reducible repeat (first|apply Kd.fc|apply Kd.fe|apply Kd.eY));exact(Kd.cu (Kd.dB (p:=⟨Vk,1,none⟩) (Kd.dB (p:=⟨Vk,0,none⟩) (Kd.cu Vr.1 (fun k_ hk=>(⟨hk,hk.2⟩:_∧k_≠Vk))) (fun _ hk=>hk.2) (.int .i64 VD)) (fun _ hk=>hk.2) (.slice VK VA.length VI)) (fun _ h_=>h_.1))));(case ax=>exact(Kd.eT Vr.1).2.1);rintro e Z5 ⟨V3,rfl,aW,hb⟩;refine⟨_,rfl, ?_⟩;replace U8:=m_ (Kd.gU (by(with_reducible repeat (first|apply Kd.fc|apply Kd.fe|apply Kd.eY));exact(Kd.cu (Kd.dB (p:=⟨Vk,1,none⟩) (Kd.dB (p:=⟨Vk,0,none⟩) (Kd.cu U8.1 (fun k_ hk=>(⟨hk,hk.2⟩:_∧k_≠Vk))) (fun _ hk=>hk.2) (.int .i64 VD)) (fun _ hk=>hk.2) (.slice VK VA.length VI)) (fun _ h_=>h_.1))) (Kd.dW aW) hb);replace Ve:=m_ (Kd.gU (by(with_reducible repeat (first|apply Kd.fc|apply Kd.fe|apply Kd.eY));exact(Kd.cu (Kd.dB (p:=⟨Vk,1,none⟩) (Kd.dB (p:=⟨Vk,0,none⟩) (Kd.cu Ve.1 (fun k_ hk=>(⟨hk,hk.2⟩:_∧k_≠Vk))) (fun _ hk=>hk.2) (.int .i64 VD)) (fun _ hk=>hk.2) (.slice VK VA.length VI)) (fun _ h_=>h_.1))) (Kd.dW aW) hb);replace Vl:=m_ (Kd.gU (by(with_reducible repeat (first|apply Kd.fc|apply Kd.fe|apply Kd.eY));exact(Kd.cu (Kd.dB (p:=⟨Vk,1,none⟩) (Kd.dB (p:=⟨Vk,0,none⟩) (Kd.cu Vl.1 (fun k_ hk=>(⟨hk,hk.2⟩:_∧k_≠Vk))) (fun _ hk=>hk.2) (.int .i64 VD)) (fun _ hk=>hk.2) (.slice VK VA.length VI)) (fun _ h_=>h_.1))) (Kd.dW aW) hb);replace Vr:=m_ (Kd.gU (by(with_reducible repeat (first|apply Kd.fc|apply Kd.fe|apply Kd.eY));exact(Kd.cu (Kd.dB (p:=⟨Vk,1,none⟩) (Kd.dB (p:=⟨Vk,0,none⟩) (Kd.cu Vr.1 (fun k_ hk=>(⟨hk,hk.2⟩:_∧k_≠Vk))) (fun _ hk=>hk.2) (.int .i64 VD)) (fun _ hk=>hk.2) (.slice VK VA.length VI)) (fun _ h_=>h_.1))) (Kd.dW aW) hb);have Vs:=m_ (Kd.eu aW (aM ai));replace U7:=m_ (az (g:=U9) (o:= .cells #[.int .i64 Vi, .slice fA Vb.length fj] 26 (0,0)) hO hb);replace Va:=m_ (az (g:=Vc) (o:= .cells #[.int .i64 Vo, .slice iJ Vj.length iz] 26 (0,0)) hO hb);replace Vd:=m_ (az (g:=Vf) (o:= .cells #[.int .i64 Vp, .slice Vv Vm.length Vt] 26 (0,0)) hO hb);replace Vn:=m_ (az (g:=Vk) (o:= .cells #[.int .i64 VD, .slice VK VA.length VI] 26 (0,0)) (by(with_reducible repeat (first|refine bZ ?_ _ |refine bM ?_ |refine bS ?_ _));refine dD (cs:= #[.int .i64 VD, .slice none 0 0]) ?_ 1 _ rfl;(with_reducible repeat (first|refine bZ ?_ _ |refine bM ?_ |refine bS ?_ _));refine dD (cs:= #[.int .i64 0, .slice none 0 0]) ?_ 0 _ rfl;(with_reducible repeat (first|refine bZ ?_ _ |refine bM ?_ |refine bS ?_ _));exact Vn.1) hb);replace HB:=m_ (aI ai hb);clear hb;(try clear aW);have ZB:=aY Vn.1;have Z2:=aZ Vn.1;have afI:=aA Vn.1 0;have ZU:=aA Vn.1 1)|((with_reducible refine bp (f:=32) rfl ?_);refine bA (some 261) Try.func32 #[.agg #[.int .i64 VD, .slice VK VA.length VI], .int .i64 Wg] ?_;(with_reducible refine(eD.calls VW VD _ _ VA Wg XR XV _ ?av ?ax Yw.1).mono ?_);(case av=>exact Kd.aC (Kd.eT Vr.1).2.2 af);(case ax=>exact(Kd.eT Vr.1).2.1);rintro e ZN ⟨V6,rfl,aW,hb⟩;refine⟨_,rfl, ?_⟩;replace U8:=m_ (Kd.gU (Kd.bC U8.1 af) (Kd.dW aW) hb);replace Ve:=m_ (Kd.gU (Kd.bC Ve.1 af) (Kd.dW aW) hb);replace Vl:=m_ (Kd.gU (Kd.bC Vl.1 af) (Kd.dW aW) hb);replace Vr:=m_ (Kd.gU (Kd.bC Vr.1 af) (Kd.dW aW) hb);have Vu:=m_ (Kd.eu (Kd.nr aW (Kd.gq (Kd.bq Vs.1 af))) (aM ai));replace Vs:=m_ (Kd.ko (Kd.bq Vs.1 af) (Kd.dW aW) hb);replace U7:=m_ (aQ U7.1 hb);replace Va:=m_ (aQ Va.1 hb);replace Vd:=m_ (aQ Vd.1 hb);replace Vn:=m_ (aQ Vn.1 hb);replace HB:=m_ (aI ai hb);clear hb;(try clear aW))|((with_reducible refine bp (f:=33) rfl ?_);refine bA (some 266) Try.func33 #[.slice A0 l0.length c0] ?_;(with_reducible refine(xB.calls VW _ _ l0 Vw Vx Wh _ ?av ?ax Yu.1).mono ?_);(case av=>exact Kd.aC (Kd.aC dY.1 HB.1) af);(case ax=>exact fJ.1);rintro e ZW ⟨afM,rfl,aW,hb⟩;refine⟨_,rfl, ?_⟩;replace U8:=m_ (Kd.bC (Kd.bC U8.1 af) hb);replace Ve:=m_ (Kd.bC (Kd.bC Ve.1 af) hb);replace Vl:=m_ (Kd.bC (Kd.bC Vl.1 af) hb);replace Vr:=m_ (Kd.bC (Kd.bC Vr.1 af) hb);have Vy:=m_ (Kd.pM (Kd.cu (ok':=fun k_=>some k_≠(V3:Value).ownBlock∧some k_≠(V6:Value).ownBlock∧k_≠U9∧k_≠Vc∧k_≠Vf∧k_≠Vk) aW (fun k_ bW=>⟨(Kd.fresh' (Kd.gq (Kd.bq Vs.1 af)) k_ bW),(Kd.fresh' (Kd.gq (Kd.bq Vu.1 af)) k_ bW),(Kd.fu (g:=U9) (o:= .cells #[.int .i64 Vi, .slice fA Vb.length fj] 26 (0,0)) (az U7.1 af) k_ bW),(Kd.fu (g:=Vc) (o:= .cells #[.int .i64 Vo, .slice iJ Vj.length iz] 26 (0,0)) (az Va.1 af) k_ bW),(Kd.fu (g:=Vf) (o:= .cells #[.int .i64 Vp, .slice Vv Vm.length Vt] 26 (0,0)) (az Vd.1 af) k_ bW),(Kd.fu (g:=Vk) (o:= .cells #[.int .i64 VD, .slice VK VA.length VI] 26 (0,0)) (az Vn.1 af) k_ bW)⟩)) (aM ai));replace Vs:=m_ (Kd.bq (Kd.bq Vs.1 af) hb);replace Vu:=m_ (Kd.bq (Kd.bq Vu.1 af) hb);replace U7:=m_ (aQ U7.1 hb);replace Va:=m_ (aQ Va.1 hb);replace Vd:=m_ (aQ Vd.1 hb);replace Vn:=m_ (aQ Vn.1 hb);replace HB:=m_ (aI ai hb);clear hb;(try clear aW))|((with_reducible refine bO (N:=43) rfl ?_);(try (refine lN (by rfl) ?_;dsimp only));refine cF (N:=43) (cs:= #[.int .i64 0, .slice none 0 0]) (t:=26) ?_;intro Vh hg afb aN hb;replace U8:=m_ (Kd.bC (Kd.gR (Kd.bC U8.1 af) Vh (aip hg.symm)) hb);replace Ve:=m_ (Kd.bC (Kd.gR (Kd.bC Ve.1 af) Vh (aip hg.symm)) hb);replace Vl:=m_ (Kd.bC (Kd.gR (Kd.bC Vl.1 af) Vh (aip hg.symm)) hb);replace Vr:=m_ (Kd.bC (Kd.gR (Kd.bC Vr.1 af) Vh (aip hg.symm)) hb);replace Vs:=m_ (Kd.bq (Kd.bq Vs.1 af) hb);replace Vu:=m_ (Kd.bq (Kd.bq Vu.1 af) hb);replace Vy:=m_ (Kd.bC (Kd.gR (Kd.bC Vy.1 af) Vh (aip hg.symm)) hb);have Vq:=m_ (aN);have Zr:=m_ ((by rw[hg];exact(aM ai):w.heap.size≤Vh));have Zg:=m_ ((by rw[hg];exact(aM ai):w.heap.size≤Vh));replace HB:=m_ (aI ai hb);have X4:=m_ ((by rw[hg];exact air (ee (az U7.1 af)):U9≠Vh));have Y5:=m_ X4.1.symm;replace U7:=m_ (aQ U7.1 hb);have Xu:=m_ ((by rw[hg];exact air (ee (az Va.1 af)):Vc≠Vh));have YB:=m_ Xu.1.symm;replace Va:=m_ (aQ Va.1 hb);have XJ:=m_ ((by rw[hg];exact air (ee (az Vd.1 af)):Vf≠Vh));have YH:=m_ XJ.1.symm;replace Vd:=m_ (aQ Vd.1 hb);have Xt:=m_ ((by rw[hg];exact air (ee (az Vn.1 af)):Vk≠Vh));have YF:=m_ Xt.1.symm;replace Vn:=m_ (aQ Vn.1 hb);clear hb aN hg;have afg:=Y5.1;have afl:=X4.1;have Zy:=YB.1;have agl:=Xu.1;have ZL:=YH.1;have agw:=XJ.1;have afw:=YF.1;have agq:=Xt.1;have afs:=aY Vq.1;have aga:=aZ Vq.1;have ZM:=aA Vq.1 0;have afp:=aA Vq.1 1;obtain⟨VE,Vz,Yd⟩:=Kd.nC Vy.1;subst Yd)|((with_reducible refine bp (f:=22) rfl ?_);refine bA (some 272) Try.func22 #[.agg #[.int .i64 Vw, .slice VE Vx.length Vz], .int .i64 Wh] ?_;(with_reducible refine(oX.calls VW Vw _ _ Vx Wh Xr XW _ ?av ?ax YW.1).mono ?_);(case av=>refine(Kd.eT (e:=29) (base:=w.heap.size) (ok:=fun k_=>((some k_≠(V3:Value).ownBlock∧(some k_≠(V6:Value).ownBlock∧(k_≠U9∧(k_≠Vc∧(k_≠Vf∧k_≠Vk)))))∧k_≠Vh)) (n:=Vx.length) (c:=Vz) ?_).2.2;exact(by(with_reducible repeat (first|apply Kd.fc|apply Kd.fe|apply Kd.eY));exact(Kd.cu (Kd.dB (p:=⟨Vh,1,none⟩) (Kd.dB (p:=⟨Vh,0,none⟩) (Kd.cu Vy.1 (fun k_ hk=>(⟨hk,hk.2⟩:_∧k_≠Vh))) (fun _ hk=>hk.2) (.int .i64 Vw)) (fun _ hk=>hk.2) (.slice VE Vx.length Vz)) (fun _ h_=>h_.1))));(case ax=>exact(Kd.eT Vy.1).2.1);rintro e afP ⟨W5,rfl,aW,hb⟩;refine⟨_,rfl, ?_⟩;replace aW:=Kd.EO (Kd.qY aW);replace U8:=m_ (Kd.gU (by(with_reducible repeat (first|apply Kd.fc|apply Kd.fe|apply Kd.eY));exact(Kd.cu (Kd.dB (p:=⟨Vh,1,none⟩) (Kd.dB (p:=⟨Vh,0,none⟩) (Kd.cu U8.1 (fun k_ hk=>(⟨hk,hk.2⟩:_∧k_≠Vh))) (fun _ hk=>hk.2) (.int .i64 Vw)) (fun _ hk=>hk.2) (.slice VE Vx.length Vz)) (fun _ h_=>h_.1))) (Kd.jL aW) hb);replace Ve:=m_ (Kd.gU (by(with_reducible repeat (first|apply Kd.fc|apply Kd.fe|apply Kd.eY));exact(Kd.cu (Kd.dB (p:=⟨Vh,1,none⟩) (Kd.dB (p:=⟨Vh,0,none⟩) (Kd.cu Ve.1 (fun k_ hk=>(⟨hk,hk.2⟩:_∧k_≠Vh))) (fun _ hk=>hk.2) (.int .i64 Vw)) (fun _ hk=>hk.2) (.slice VE Vx.length Vz)) (fun _ h_=>h_.1))) (Kd.jL aW) hb);replace Vl:=m_ (Kd.gU (by(with_reducible repeat (first|apply Kd.fc|apply Kd.fe|apply Kd.eY));exact(Kd.cu (Kd.dB (p:=⟨Vh,1,none⟩) (Kd.dB (p:=⟨Vh,0,none⟩) (Kd.cu Vl.1 (fun k_ hk=>(⟨hk,hk.2⟩:_∧k_≠Vh))) (fun _ hk=>hk.2) (.int .i64 Vw)) (fun _ hk=>hk.2) (.slice VE Vx.length Vz)) (fun _ h_=>h_.1))) (Kd.jL aW) hb);replace Vr:=m_ (Kd.gU (by(with_reducible repeat (first|apply Kd.fc|apply Kd.fe|apply Kd.eY));exact(Kd.cu (Kd.dB (p:=⟨Vh,1,none⟩) (Kd.dB (p:=⟨Vh,0,none⟩) (Kd.cu Vr.1 (fun k_ hk=>(⟨hk,hk.2⟩:_∧k_≠Vh))) (fun _ hk=>hk.2) (.int .i64 Vw)) (fun _ hk=>hk.2) (.slice VE Vx.length Vz)) (fun _ h_=>h_.1))) (Kd.jL aW) hb);replace Vy:=m_ (Kd.gU (by(with_reducible repeat (first|apply Kd.fc|apply Kd.fe|apply Kd.eY));exact(Kd.cu (Kd.dB (p:=⟨Vh,1,none⟩) (Kd.dB (p:=⟨Vh,0,none⟩) (Kd.cu Vy.1 (fun k_ hk=>(⟨hk,hk.2⟩:_∧k_≠Vh))) (fun _ hk=>hk.2) (.int .i64 Vw)) (fun _ hk=>hk.2) (.slice VE Vx.length Vz)) (fun _ h_=>h_.1))) (Kd.jL aW) hb);have VJ:=m_ (Kd.o4 (Kd.eG (ok':=fun k_=>some k_≠(V3:Value).ownBlock∧some k_≠(V6:Value).ownBlock∧k_≠U9∧k_≠Vc∧k_≠Vf∧k_≠Vk∧k_≠Vh) aW (fun k_ bW=>⟨(Kd.fresh' (Kd.gq (by(with_reducible repeat (first|apply Kd.gr|apply Kd.gu|apply Kd.fM));exact(Kd.cL (Kd.lK (p:=⟨Vh,1,none⟩) (Kd.lK (p:=⟨Vh,0,none⟩) (Kd.nT Vs.1 Vq.1 aG) (fun _ hk=>hk.2) (.int .i64 Vw)) (fun _ hk=>hk.2) (.slice VE Vx.length Vz)) (fun _ h_=>h_.1)))) k_ bW.2.1),(Kd.fresh' (Kd.gq (by(with_reducible repeat (first|apply Kd.gr|apply Kd.gu|apply Kd.fM));exact(Kd.cL (Kd.lK (p:=⟨Vh,1,none⟩) (Kd.lK (p:=⟨Vh,0,none⟩) (Kd.nT Vu.1 Vq.1 aG) (fun _ hk=>hk.2) (.int .i64 Vw)) (fun _ hk=>hk.2) (.slice VE Vx.length Vz)) (fun _ h_=>h_.1)))) k_ bW.2.1),(Kd.fu (g:=U9) (o:= .cells #[.int .i64 Vi, .slice fA Vb.length fj] 26 (0,0)) hO k_ bW.2.1),(Kd.fu (g:=Vc) (o:= .cells #[.int .i64 Vo, .slice iJ Vj.length iz] 26 (0,0)) hO k_ bW.2.1),(Kd.fu (g:=Vf) (o:= .cells #[.int .i64 Vp, .slice Vv Vm.length Vt] 26 (0,0)) hO k_ bW.2.1),(Kd.fu (g:=Vk) (o:= .cells #[.int .i64 VD, .slice VK VA.length VI] 26 (0,0)) hO k_ bW.2.1),(Kd.fu (g:=Vh) (o:= .cells #[.int .i64 Vw, .slice VE Vx.length Vz] 26 (0,0)) (by(with_reducible repeat (first|refine bZ ?_ _ |refine bM ?_ |refine bS ?_ _));refine dD (cs:= #[.int .i64 Vw, .slice none 0 0]) ?_ 1 _ rfl;(with_reducible repeat (first|refine bZ ?_ _ |refine bM ?_ |refine bS ?_ _));refine dD (cs:= #[.int .i64 0, .slice none 0 0]) ?_ 0 _ rfl;(with_reducible repeat (first|refine bZ ?_ _ |refine bM ?_ |refine bS ?_ _));exact Vq.1) k_ bW.2.1)⟩)) (aM ai));replace Vs:=m_ (Kd.bq (by(with_reducible repeat (first|apply Kd.gr|apply Kd.gu|apply Kd.fM));exact(Kd.cL (Kd.lK (p:=⟨Vh,1,none⟩) (Kd.lK (p:=⟨Vh,0,none⟩) (Kd.nT Vs.1 Vq.1 aG) (fun _ hk=>hk.2) (.int .i64 Vw)) (fun _ hk=>hk.2) (.slice VE Vx.length Vz)) (fun _ h_=>h_.1))) hb);replace Vu:=m_ (Kd.bq (by(with_reducible repeat (first|apply Kd.gr|apply Kd.gu|apply Kd.fM));exact(Kd.cL (Kd.lK (p:=⟨Vh,1,none⟩) (Kd.lK (p:=⟨Vh,0,none⟩) (Kd.nT Vu.1 Vq.1 aG) (fun _ hk=>hk.2) (.int .i64 Vw)) (fun _ hk=>hk.2) (.slice VE Vx.length Vz)) (fun _ h_=>h_.1))) hb);replace U7:=m_ (az (g:=U9) (o:= .cells #[.int .i64 Vi, .slice fA Vb.length fj] 26 (0,0)) hO hb);replace Va:=m_ (az (g:=Vc) (o:= .cells #[.int .i64 Vo, .slice iJ Vj.length iz] 26 (0,0)) hO hb);replace Vd:=m_ (az (g:=Vf) (o:= .cells #[.int .i64 Vp, .slice Vv Vm.length Vt] 26 (0,0)) hO hb);replace Vn:=m_ (az (g:=Vk) (o:= .cells #[.int .i64 VD, .slice VK VA.length VI] 26 (0,0)) hO hb);replace Vq:=m_ (az (g:=Vh) (o:= .cells #[.int .i64 Vw, .slice VE Vx.length Vz] 26 (0,0)) (by(with_reducible repeat (first|refine bZ ?_ _ |refine bM ?_ |refine bS ?_ _));refine dD (cs:= #[.int .i64 Vw, .slice none 0 0]) ?_ 1 _ rfl;(with_reducible repeat (first|refine bZ ?_ _ |refine bM ?_ |refine bS ?_ _));refine dD (cs:= #[.int .i64 0, .slice none 0 0]) ?_ 0 _ rfl;(with_reducible repeat (first|refine bZ ?_ _ |refine bM ?_ |refine bS ?_ _));exact Vq.1) hb);replace HB:=m_ (aI ai hb);clear hb;(try clear aW);have ZZ:=aY Vq.1;have ZV:=aZ Vq.1;have Za:=aA Vq.1 0;have Y7:=aA Vq.1 1)|((with_reducible refine bp (f:=34) rfl ?_);refine bA (some 278) aiH #[.agg #[.int .i64 Vw, .slice VE Vx.length Vz], .int .i64 Wh] ?_;(with_reducible refine(tJ.calls VW Vw _ _ Vx Wh XI XC _ ?av ?ax Yx.1).mono ?_);(case av=>exact Kd.aC (Kd.eT Vy.1).2.2 af);(case ax=>exact(Kd.eT Vy.1).2.1);rintro e afz ⟨Xw,rfl,aW,hb⟩;refine⟨_,rfl, ?_⟩;replace U8:=m_ (Kd.gU (Kd.bC U8.1 af) (Kd.jL aW) hb);replace Ve:=m_ (Kd.gU (Kd.bC Ve.1 af) (Kd.jL aW) hb);replace Vl:=m_ (Kd.gU (Kd.bC Vl.1 af) (Kd.jL aW) hb);replace Vr:=m_ (Kd.gU (Kd.bC Vr.1 af) (Kd.jL aW) hb);replace Vy:=m_ (Kd.gU (Kd.bC Vy.1 af) (Kd.jL aW) hb);have VT:=m_ (Kd.o4 (Kd.eG (ok':=fun k_=>some k_≠(V3:Value).ownBlock∧some k_≠(V6:Value).ownBlock∧some k_≠(W5:Value).ownBlock∧k_≠U9∧k_≠Vc∧k_≠Vf∧k_≠Vk∧k_≠Vh) aW (fun k_ bW=>⟨(Kd.fresh' (Kd.gq (Kd.bq Vs.1 af)) k_ bW),(Kd.fresh' (Kd.gq (Kd.bq Vu.1 af)) k_ bW),(Kd.fresh' (Kd.kD (Kd.cv VJ.1 af)) k_ bW),(Kd.fu (g:=U9) (o:= .cells #[.int .i64 Vi, .slice fA Vb.length fj] 26 (0,0)) (az U7.1 af) k_ bW),(Kd.fu (g:=Vc) (o:= .cells #[.int .i64 Vo, .slice iJ Vj.length iz] 26 (0,0)) (az Va.1 af) k_ bW),(Kd.fu (g:=Vf) (o:= .cells #[.int .i64 Vp, .slice Vv Vm.length Vt] 26 (0,0)) (az Vd.1 af) k_ bW),(Kd.fu (g:=Vk) (o:= .cells #[.int .i64 VD, .slice VK VA.length VI] 26 (0,0)) (az Vn.1 af) k_ bW),(Kd.fu (g:=Vh) (o:= .cells #[.int .i64 Vw, .slice VE Vx.length Vz] 26 (0,0)) (az Vq.1 af) k_ bW)⟩)) (aM ai));replace Vs:=m_ (Kd.bq (Kd.bq Vs.1 af) hb);replace Vu:=m_ (Kd.bq (Kd.bq Vu.1 af) hb);replace VJ:=m_ (Kd.kN (Kd.cv VJ.1 af) (Kd.jL aW) hb);replace U7:=m_ (aQ U7.1 hb);replace Va:=m_ (aQ Va.1 hb);replace Vd:=m_ (aQ Vd.1 hb);replace Vn:=m_ (aQ Vn.1 hb);replace Vq:=m_ (aQ Vq.1 hb);replace HB:=m_ (aI ai hb);clear hb;(try clear aW))|((with_reducible refine bp (f:=35) rfl ?_);refine bA (some 283) Try.func35 #[.slice A0 l0.length c0] ?_;(with_reducible refine(xC.calls VW _ _ l0 VB VC V9 _ ?av ?ax Yk.1).mono ?_);(case av=>exact Kd.aC (Kd.aC dY.1 HB.1) af);(case ax=>exact fJ.1);rintro e afc ⟨agt,rfl,aW,hb⟩;refine⟨_,rfl, ?_⟩;replace U8:=m_ (Kd.bC (Kd.bC U8.1 af) hb);replace Ve:=m_ (Kd.bC (Kd.bC Ve.1 af) hb);replace Vl:=m_ (Kd.bC (Kd.bC Vl.1 af) hb);replace Vr:=m_ (Kd.bC (Kd.bC Vr.1 af) hb);replace Vy:=m_ (Kd.bC (Kd.bC Vy.1 af) hb);have VV:=m_ (Kd.pM (Kd.cu (ok':=fun k_=>some k_≠(V3:Value).ownBlock∧some k_≠(V6:Value).ownBlock∧some k_≠(W5:Value).ownBlock∧some k_≠(Xw:Value).ownBlock∧k_≠U9∧k_≠Vc∧k_≠Vf∧k_≠Vk∧k_≠Vh) aW (fun k_ bW=>⟨(Kd.fresh' (Kd.gq (Kd.bq Vs.1 af)) k_ bW),(Kd.fresh' (Kd.gq (Kd.bq Vu.1 af)) k_ bW),(Kd.fresh' (Kd.kD (Kd.cv VJ.1 af)) k_ bW),(Kd.fresh' (Kd.kD (Kd.cv VT.1 af)) k_ bW),(Kd.fu (g:=U9) (o:= .cells #[.int .i64 Vi, .slice fA Vb.length fj] 26 (0,0)) (az U7.1 af) k_ bW),(Kd.fu (g:=Vc) (o:= .cells #[.int .i64 Vo, .slice iJ Vj.length iz] 26 (0,0)) (az Va.1 af) k_ bW),(Kd.fu (g:=Vf) (o:= .cells #[.int .i64 Vp, .slice Vv Vm.length Vt] 26 (0,0)) (az Vd.1 af) k_ bW),(Kd.fu (g:=Vk) (o:= .cells #[.int .i64 VD, .slice VK VA.length VI] 26 (0,0)) (az Vn.1 af) k_ bW),(Kd.fu (g:=Vh) (o:= .cells #[.int .i64 Vw, .slice VE Vx.length Vz] 26 (0,0)) (az Vq.1 af) k_ bW)⟩)) (aM ai));replace Vs:=m_ (Kd.bq (Kd.bq Vs.1 af) hb);replace Vu:=m_ (Kd.bq (Kd.bq Vu.1 af) hb);replace VJ:=m_ (Kd.cv (Kd.cv VJ.1 af) hb);replace VT:=m_ (Kd.cv (Kd.cv VT.1 af) hb);replace U7:=m_ (aQ U7.1 hb);replace Va:=m_ (aQ Va.1 hb);replace Vd:=m_ (aQ Vd.1 hb);replace Vn:=m_ (aQ Vn.1 hb);replace Vq:=m_ (aQ Vq.1 hb);replace HB:=m_ (aI ai hb);clear hb;(try clear aW))|((with_reducible refine bO (N:=49) rfl ?_);(try (refine lN (by rfl) ?_;dsimp only));refine cF (N:=49) (cs:= #[.int .i64 0, .slice none 0 0]) (t:=26) ?_;intro Vg hg ZC aN hb;replace U8:=m_ (Kd.bC (Kd.gR (Kd.bC U8.1 af) Vg (aip hg.symm)) hb);replace Ve:=m_ (Kd.bC (Kd.gR (Kd.bC Ve.1 af) Vg (aip hg.symm)) hb);replace Vl:=m_ (Kd.bC (Kd.gR (Kd.bC Vl.1 af) Vg (aip hg.symm)) hb);replace Vr:=m_ (Kd.bC (Kd.gR (Kd.bC Vr.1 af) Vg (aip hg.symm)) hb);replace Vs:=m_ (Kd.bq (Kd.bq Vs.1 af) hb);replace Vu:=m_ (Kd.bq (Kd.bq Vu.1 af) hb);replace Vy:=m_ (Kd.bC (Kd.gR (Kd.bC Vy.1 af) Vg (aip hg.symm)) hb);replace VJ:=m_ (Kd.cv (Kd.Om (Kd.cv VJ.1 af) Vg (aip hg.symm)) hb);replace VT:=m_ (Kd.cv (Kd.Om (Kd.cv VT.1 af) Vg (aip hg.symm)) hb);replace VV:=m_ (Kd.bC (Kd.gR (Kd.bC VV.1 af) Vg (aip hg.symm)) hb);have VM:=m_ (aN);have Z9:=m_ ((by rw[hg];exact(aM ai):w.heap.size≤Vg));have afi:=m_ ((by rw[hg];exact(aM ai):w.heap.size≤Vg));replace HB:=m_ (aI ai hb);have XB:=m_ ((by rw[hg];exact air (ee (az U7.1 af)):U9≠Vg));have Yh:=m_ XB.1.symm;replace U7:=m_ (aQ U7.1 hb);have X5:=m_ ((by rw[hg];exact air (ee (az Va.1 af)):Vc≠Vg));have Yo:=m_ X5.1.symm;replace Va:=m_ (aQ Va.1 hb);have Xx:=m_ ((by rw[hg];exact air (ee (az Vd.1 af)):Vf≠Vg));have Yc:=m_ Xx.1.symm;replace Vd:=m_ (aQ Vd.1 hb);have Xn:=m_ ((by rw[hg];exact air (ee (az Vn.1 af)):Vk≠Vg));have YO:=m_ Xn.1.symm;replace Vn:=m_ (aQ Vn.1 hb);have X6:=m_ ((by rw[hg];exact air (ee (az Vq.1 af)):Vh≠Vg));have Yr:=m_ X6.1.symm;replace Vq:=m_ (aQ Vq.1 hb);clear hb aN hg;have aff:=Yh.1;have ZS:=XB.1;have agu:=Yo.1;have Zo:=X5.1;have afZ:=Yc.1;have Zv:=Xx.1;have Zz:=YO.1;have Ze:=Xn.1;have ZY:=Yr.1;have afG:=X6.1;have afa:=aY VM.1;have ZX:=aZ VM.1;have afF:=aA VM.1 0;have Z3:=aA VM.1 1;obtain⟨VN,VH,YM⟩:=Kd.nC VV.1;subst YM)|((with_reducible refine bp (f:=21) rfl ?_);refine bA (some 289) Try.func21 #[.agg #[.int .i64 VB, .slice VN VC.length VH], .int .i64 V9] ?_;(with_reducible refine(lR.calls VW VB _ _ VC V9 YZ Xq _ ?av ?ax Y1.1).mono ?_);(case av=>refine(Kd.eT (e:=29) (base:=w.heap.size) (ok:=fun k_=>((some k_≠(V3:Value).ownBlock∧(some k_≠(V6:Value).ownBlock∧(some k_≠(W5:Value).ownBlock∧(some k_≠(Xw:Value).ownBlock∧(k_≠U9∧(k_≠Vc∧(k_≠Vf∧(k_≠Vk∧k_≠Vh))))))))∧k_≠Vg)) (n:=VC.length) (c:=VH) ?_).2.2;exact(by(with_reducible repeat (first|apply Kd.fc|apply Kd.fe|apply Kd.eY));exact(Kd.cu (Kd.dB (p:=⟨Vg,1,none⟩) (Kd.dB (p:=⟨Vg,0,none⟩) (Kd.cu VV.1 (fun k_ hk=>(⟨hk,hk.2⟩:_∧k_≠Vg))) (fun _ hk=>hk.2) (.int .i64 VB)) (fun _ hk=>hk.2) (.slice VN VC.length VH)) (fun _ h_=>h_.1))));(case ax=>exact(Kd.eT VV.1).2.1);rintro e Zf ⟨rfl,hb⟩;refine⟨_,rfl, ?_⟩;replace U8:=m_ (Kd.bC (by(with_reducible repeat (first|apply Kd.fc|apply Kd.fe|apply Kd.eY));exact(Kd.cu (Kd.dB (p:=⟨Vg,1,none⟩) (Kd.dB (p:=⟨Vg,0,none⟩) (Kd.cu U8.1 (fun k_ hk=>(⟨hk,hk.2⟩:_∧k_≠Vg))) (fun _ hk=>hk.2) (.int .i64 VB)) (fun _ hk=>hk.2) (.slice VN VC.length VH)) (fun _ h_=>h_.1))) hb);replace Ve:=m_ (Kd.bC (by(with_reducible repeat (first|apply Kd.fc|apply Kd.fe|apply Kd.eY));exact(Kd.cu (Kd.dB (p:=⟨Vg,1,none⟩) (Kd.dB (p:=⟨Vg,0,none⟩) (Kd.cu Ve.1 (fun k_ hk=>(⟨hk,hk.2⟩:_∧k_≠Vg))) (fun _ hk=>hk.2) (.int .i64 VB)) (fun _ hk=>hk.2) (.slice VN VC.length VH)) (fun _ h_=>h_.1))) hb);replace Vl:=m_ (Kd.bC (by(with_reducible repeat (first|apply Kd.fc|apply Kd.fe|apply Kd.eY));exact(Kd.cu (Kd.dB (p:=⟨Vg,1,none⟩) (Kd.dB (p:=⟨Vg,0,none⟩) (Kd.cu Vl.1 (fun k_ hk=>(⟨hk,hk.2⟩:_∧k_≠Vg))) (fun _ hk=>hk.2) (.int .i64 VB)) (fun _ hk=>hk.2) (.slice VN VC.length VH)) (fun _ h_=>h_.1))) hb);replace Vr:=m_ (Kd.bC (by(with_reducible repeat (first|apply Kd.fc|apply Kd.fe|apply Kd.eY));exact(Kd.cu (Kd.dB (p:=⟨Vg,1,none⟩) (Kd.dB (p:=⟨Vg,0,none⟩) (Kd.cu Vr.1 (fun k_ hk=>(⟨hk,hk.2⟩:_∧k_≠Vg))) (fun _ hk=>hk.2) (.int .i64 VB)) (fun _ hk=>hk.2) (.slice VN VC.length VH)) (fun _ h_=>h_.1))) hb);replace Vs:=m_ (Kd.bq (by(with_reducible repeat (first|apply Kd.gr|apply Kd.gu|apply Kd.fM));exact(Kd.cL (Kd.lK (p:=⟨Vg,1,none⟩) (Kd.lK (p:=⟨Vg,0,none⟩) (Kd.nT Vs.1 VM.1 aG) (fun _ hk=>hk.2) (.int .i64 VB)) (fun _ hk=>hk.2) (.slice VN VC.length VH)) (fun _ h_=>h_.1))) hb);replace Vu:=m_ (Kd.bq (by(with_reducible repeat (first|apply Kd.gr|apply Kd.gu|apply Kd.fM));exact(Kd.cL (Kd.lK (p:=⟨Vg,1,none⟩) (Kd.lK (p:=⟨Vg,0,none⟩) (Kd.nT Vu.1 VM.1 aG) (fun _ hk=>hk.2) (.int .i64 VB)) (fun _ hk=>hk.2) (.slice VN VC.length VH)) (fun _ h_=>h_.1))) hb);replace Vy:=m_ (Kd.bC (by(with_reducible repeat (first|apply Kd.fc|apply Kd.fe|apply Kd.eY));exact(Kd.cu (Kd.dB (p:=⟨Vg,1,none⟩) (Kd.dB (p:=⟨Vg,0,none⟩) (Kd.cu Vy.1 (fun k_ hk=>(⟨hk,hk.2⟩:_∧k_≠Vg))) (fun _ hk=>hk.2) (.int .i64 VB)) (fun _ hk=>hk.2) (.slice VN VC.length VH)) (fun _ h_=>h_.1))) hb);replace VJ:=m_ (Kd.cv (by(with_reducible repeat (first|apply Kd.iw|apply Kd.iy|apply Kd.gf));exact(Kd.eG (Kd.EP (p:=⟨Vg,1,none⟩) (Kd.EP (p:=⟨Vg,0,none⟩) (Kd.eG VJ.1 (fun k_ hk=>(⟨hk,hk.2⟩:_∧k_≠Vg))) (fun _ hk=>hk.2) (.int .i64 VB)) (fun _ hk=>hk.2) (.slice VN VC.length VH)) (fun _ h_=>h_.1))) hb);replace VT:=m_ (Kd.cv (by(with_reducible repeat (first|apply Kd.iw|apply Kd.iy|apply Kd.gf));exact(Kd.eG (Kd.EP (p:=⟨Vg,1,none⟩) (Kd.EP (p:=⟨Vg,0,none⟩) (Kd.eG VT.1 (fun k_ hk=>(⟨hk,hk.2⟩:_∧k_≠Vg))) (fun _ hk=>hk.2) (.int .i64 VB)) (fun _ hk=>hk.2) (.slice VN VC.length VH)) (fun _ h_=>h_.1))) hb);replace VV:=m_ (Kd.bC (by(with_reducible repeat (first|apply Kd.fc|apply Kd.fe|apply Kd.eY));exact(Kd.cu (Kd.dB (p:=⟨Vg,1,none⟩) (Kd.dB (p:=⟨Vg,0,none⟩) (Kd.cu VV.1 (fun k_ hk=>(⟨hk,hk.2⟩:_∧k_≠Vg))) (fun _ hk=>hk.2) (.int .i64 VB)) (fun _ hk=>hk.2) (.slice VN VC.length VH)) (fun _ h_=>h_.1))) hb);replace U7:=m_ (az (g:=U9) (o:= .cells #[.int .i64 Vi, .slice fA Vb.length fj] 26 (0,0)) hO hb);replace Va:=m_ (az (g:=Vc) (o:= .cells #[.int .i64 Vo, .slice iJ Vj.length iz] 26 (0,0)) hO hb);replace Vd:=m_ (az (g:=Vf) (o:= .cells #[.int .i64 Vp, .slice Vv Vm.length Vt] 26 (0,0)) hO hb);replace Vn:=m_ (az (g:=Vk) (o:= .cells #[.int .i64 VD, .slice VK VA.length VI] 26 (0,0)) hO hb);replace Vq:=m_ (az (g:=Vh) (o:= .cells #[.int .i64 Vw, .slice VE Vx.length Vz] 26 (0,0)) hO hb);replace VM:=m_ (az (g:=Vg) (o:= .cells #[.int .i64 VB, .slice VN VC.length VH] 26 (0,0)) (by(with_reducible repeat (first|refine bZ ?_ _ |refine bM ?_ |refine bS ?_ _));refine dD (cs:= #[.int .i64 VB, .slice none 0 0]) ?_ 1 _ rfl;(with_reducible repeat (first|refine bZ ?_ _ |refine bM ?_ |refine bS ?_ _));refine dD (cs:= #[.int .i64 0, .slice none 0 0]) ?_ 0 _ rfl;(with_reducible repeat (first|refine bZ ?_ _ |refine bM ?_ |refine bS ?_ _));exact VM.1) hb);replace HB:=m_ (aI ai hb);clear hb;have ZO:=aY VM.1;have agi:=aZ VM.1;have agz:=aA VM.1 0;have af5:=aA VM.1 1)|((with_reducible refine bp (f:=36) rfl ?_);refine bA (some 295) Try.func36 #[.agg #[.int .i64 VB, .slice VN VC.length VH], .int .i64 V9] ?_;(with_reducible refine(xg.calls VW VB _ _ VC V9 Yq Xv _ ?av ?ax YX.1).mono ?_);(case av=>exact Kd.aC (Kd.eT VV.1).2.2 af);(case ax=>exact(Kd.eT VV.1).2.1);rintro e Zn ⟨rfl,hb⟩;refine⟨_,rfl, ?_⟩;replace U8:=m_ (Kd.bC (Kd.bC U8.1 af) hb);replace Ve:=m_ (Kd.bC (Kd.bC Ve.1 af) hb);replace Vl:=m_ (Kd.bC (Kd.bC Vl.1 af) hb);replace Vr:=m_ (Kd.bC (Kd.bC Vr.1 af) hb);replace Vs:=m_ (Kd.bq (Kd.bq Vs.1 af) hb);replace Vu:=m_ (Kd.bq (Kd.bq Vu.1 af) hb);replace Vy:=m_ (Kd.bC (Kd.bC Vy.1 af) hb);replace VJ:=m_ (Kd.cv (Kd.cv VJ.1 af) hb);replace VT:=m_ (Kd.cv (Kd.cv VT.1 af) hb);replace VV:=m_ (Kd.bC (Kd.bC VV.1 af) hb);replace U7:=m_ (aQ U7.1 hb);replace Va:=m_ (aQ Va.1 hb);replace Vd:=m_ (aQ Vd.1 hb);replace Vn:=m_ (aQ Vn.1 hb);replace Vq:=m_ (aQ Vq.1 hb);replace VM:=m_ (aQ VM.1 hb);replace HB:=m_ (aI ai hb);clear hb;obtain⟨agh,Z0,X8⟩:=Kd.eF Vs.1;subst X8;obtain⟨agn,afx,Y0⟩:=Kd.eF Vu.1;subst Y0)|(go_at_call 13;(with_reducible refine(mq.calls VW _ _ XT _ _ XR true _ ?av ?ax ?cK ?cY Yb.1).mono ?_);(case av=>exact Kd.aC (Kd.dh Vs.1).2.2 af);(case ax=>exact(Kd.dh Vs.1).2.1);(case cK=>exact Kd.aC (Kd.dh Vu.1).2.2 af);(case cY=>exact(Kd.dh Vu.1).2.1);rintro e w' ⟨rfl,⟨nd,rfl⟩⟩;obtain⟨Zd,aft,Y3⟩:=Kd.mH VJ.1;subst Y3;obtain⟨afA,af2,Yn⟩:=Kd.mH VT.1;subst Yn)|(go_at_call 20;(with_reducible refine(m5.calls VW _ _ Xr _ _ XI true _ ?av ?ax ?cK ?cY Y6.1).mono ?_);(case av=>exact Kd.aC (Kd.fS VJ.1).2.2 af);(case ax=>exact(Kd.fS VJ.1).2.1);(case cK=>exact Kd.aC (Kd.fS VT.1).2.2 af);(case cY=>exact(Kd.fS VT.1).2.1);rintro e w' ⟨rfl,⟨nd,rfl⟩⟩));go_ret;exact⟨cG,ai⟩
                     ·rw[aj Wt]at H
                      exact absurd (aiq H) ais
                    ·replace Wv:=aix.mpr Wv
                     subst Wv;rw[aj (show ¬(false=true) by decide)]at H;exact absurd (aiq H) ais
                   ·rw[aj Wz]at H
                    exact absurd (aiq H) ais
                  ·replace Wl:=aix.mpr Wl
                   subst Wl;rw[aj (show ¬(false=true) by decide)]at H;exact absurd (aiq H) ais
                 ·rw[aj WL]at H
                  exact absurd (aiq H) ais

def cM.Pure:Prop:=∀(l0:List Int),l0.length≤maxLen→(∀y∈l0,(Lit.int .u8 y).wf=true)→∃k,cM.f k l0=some true
theorem cM.walk (P:cM.Pure) (A0:Option Addr) (c0:Nat) (l0:List Int) (w:World) (hm0:l0.length≤maxLen) (hw0:(∀y∈l0,(Lit.int .u8 y).wf=true)) (hr0:Kd.C (Kd.int .u8) w A0 l0.length l0) (hc0:l0.length≤c0):
  Calls aiu 4 #[.slice A0 l0.length c0] w fun e w'=>e= .returned (.bool true)∧Below w.heap.size w w':=by
 obtain⟨k,h⟩:=P l0 hm0 hw0;refine(cM.calls k _ _ l0 w hr0 hc0 h).mono ?_;rintro e w' ⟨rfl,hd⟩;exact⟨rfl,hd⟩

end Go.Proofs.Ytkadhadceongiaa.G
