/- The printed functions that this law reaches, and their contracts: part 0. -/

import Derived.Test.YtkadhadceongiaaG0
namespace Go.Proofs.Ytkadhadceongiaa.G
open Go.RowKit Go.Proofs.YtkadhadceongiaaW.PrintWords Go.Proofs.YtkadhadceongiaaW.PrintLast Go.Proofs.YtkadhadceongiaaW.PrintMore
open Option.some renaming inj → aii, injEq → ain
open Go.World renaming block_lt_of_cell? → air, drewN_drewN → ajo, drewN → ajq
open Go.Proofs.Try renaming prog → aip, underlying26 → ail, func108 → ai7, underlying29 → aiN, func106 → ajs, func116 → ajt, func136 → ai2, func223 → aju, func123 → aiZ, func171 → aiR
open Go.IntKind renaming u64 → agY, i64 → aiS
open Go.RowKit.Below renaming refl → aim
open Int renaming tmod → agZ, tdiv → aiU
open Nat renaming le_refl → ahp, ne_of_lt → ais, add_assoc → ajr
open Bool renaming eq_false_iff → aiq
open List renaming map_toArray → aiD, map_cons → ahb, map_nil → aiE, length_drop → ahL, length_take → ahw, append_toArray → aiX, cons_append → aiY, nil_append → ag9, setIfInBounds_toArray → aiu
open Prod.mk renaming injEq → aio
open Eq renaming trans → ajp
open Go.Act renaming put → aiP
open Go.Addr renaming add_zero' → aje
attribute [local go_sem] vD vE vF vG vH vI vJ vK
set_option maxHeartbeats 8000000
set_option maxRecDepth 100000
set_option linter.unusedVariables false
set_option linter.unusedSimpArgs false

theorem mQ:(∀(l:List Value) (i:Nat) (a:Value),l.toArray.setIfInBounds i a=(l.set i a).toArray)∧(∀(x:Value) (l:List Value) (a:Value),(x :: l).set 0 a=a :: l)∧(∀(x:Value) (l:List Value) (n:Nat) (a:Value),(x :: l).set (n+1) a=x :: l.set n a)∧(∀n:Int,aiS.wrap n=wrap64 n)∧(∀n:Int,IntKind.i32.wrap n=wrap32 n):=
 ⟨fun l i a=>aiu l i a,fun _ _ _=>rfl,fun _ _ _ _=>rfl,ez,fT⟩

def xC.f (l0:List Int):Option (Bool):=some (decide ((l0.length:Int)>4096))
theorem xC.calls (A0:Option Addr) (c0:Nat) (l0:List Int) (r:Bool) (w:World) (hr0:Kd.C (Kd.int .u8) w A0 l0.length l0) (hc0:l0.length≤c0) (h:xC.f l0=some r):
  Calls aip 9 #[.slice A0 l0.length c0] w fun e w'=>e= .returned (.bool r)∧cl w w':=by
 have dX:=m_ hr0;have fD:=m_ hc0;clear hr0 hc0;have H:=h;unfold xC.f at H;clear h;obtain rfl:=aii H;go_enter Try.func9,Try.ntmps9;go_wp2;go_ret;exact⟨bA,by repeat (first|exact cl.refl _ |apply cl.step)⟩

def ko.l0:Nat→List Int→List Int→Int→Option (Bool)
 | 0,_,_,_=>none
 | k+1,x0,x1,x5=>if x5<(x0.length:Int) then (if 0≤x5 then (if x5<(x1.length:Int) then (if (rd x0 x5)=(rd x1 x5) then (ko.l0 k x0 x1 (wrap64 (x5+1))) else (some false)) else (none)) else (none)) else (some true)
def ko.f (k:Nat) (l0:List Int) (l1:List Int):Option (Bool):=if (l0.length:Int)=(l1.length:Int) then (ko.l0 k l0 l1 0) else (some false)
theorem ko.calls (k:Nat) (A0:Option Addr) (c0:Nat) (l0:List Int) (A1:Option Addr) (c1:Nat) (l1:List Int) (r:Bool) (w:World) (hr0:Kd.C (Kd.int .i64) w A0 l0.length l0) (hc0:l0.length≤c0) (hr1:Kd.C (Kd.int .i64) w A1 l1.length l1) (hc1:l1.length≤c1) (h:ko.f k l0 l1=some r):
  Calls aip 13 #[.slice A0 l0.length c0, .slice A1 l1.length c1] w fun e w'=>e= .returned (.bool r)∧cl w w':=by
 have dX:=m_ hr0;have fD:=m_ hc0;clear hr0 hc0;have cQ:=m_ hr1;have dS:=m_ hc1;clear hr1 hc1;have H:=h;unfold ko.f at H;clear h
 by_cases c3:(l0.length:Int)=(l1.length:Int)
 ·rw[aC c3]at H
  obtain⟨jd,qc⟩:=dz c3;have Ee:(l0.length == l1.length)=true:=by first|simpa using c3|(simp at c3 ⊢;omega)
  clear c3;have H':=m_ H;clear H;go_enter Try.func13,Try.ntmps13;go_wp2;go_loopg [5] k (fun kq v5 w'=>∃(cJ:Int),v5= .int .i64 cJ∧ak (ko.l0 kq l0 l1 cJ=some r)∧ak (kq≤k)∧cl w w')
  case atStart=>exact⟨(0),bA,H',⟨ahp _⟩,by repeat (first|exact cl.refl _ |apply cl.step)⟩
  case round=>
   clear H';obtain⟨cJ,rfl,HA,bP,⟨m1,rfl⟩⟩:=hrel;cases gk with
   | zero=>exact absurd HA.1 (by simp[ko.l0])
   | succ k1=>
    have H:=HA.1;clear HA;simp only[ko.l0]at H
    by_cases c4:cJ<(l0.length:Int)
    ·rw[aC c4]at H
     have dW:=aV c4;clear c4;obtain⟨c5,H⟩:=bN H;have gZ:=aV c5;clear c5;obtain⟨c6,H⟩:=bN H;have iO:=aV c6;clear c6
     by_cases c7:(rd l0 cJ)=(rd l1 cJ)
     ·rw[aC c7]at H
      obtain⟨iT,sw⟩:=dz c7;clear c7;have H':=m_ H;clear H;have U7:0≤(cJ:Int):=aD;have U9:cJ<(l0.length:Int):=aD;obtain⟨Ve,Vc,Vg⟩:=Kd.dA dX.1 cJ U7 U9;cases Vc;replace U7:=aH U7;replace U9:=aH U9;have U8:0≤(cJ:Int):=aD;have Va:cJ<(l1.length:Int):=aD;obtain⟨Vd,Vb,Vf⟩:=Kd.dA cQ.1 cJ U8 Va;cases Vb;replace U8:=aH U8;replace Va:=aH Va;go_wp2
      repeat (go_quiet (fail);try go_wp2)
      go_roundg k1
      case measure=>have:=bP.1;omega
      case rel=>exact⟨(wrap64 (cJ+1)),bA,H',⟨by have:=bP.1;omega⟩,by repeat (first|exact cl.refl _ |apply cl.step)⟩
     ·rw[aA c7]at H
      obtain⟨iT,sw⟩:=dL c7;obtain rfl:=aii H;have U7:0≤(cJ:Int):=aD;have U9:cJ<(l0.length:Int):=aD;obtain⟨Ve,Vc,Vg⟩:=Kd.dA dX.1 cJ U7 U9;cases Vc;replace U7:=aH U7;replace U9:=aH U9;have U8:0≤(cJ:Int):=aD;have Va:cJ<(l1.length:Int):=aD;obtain⟨Vd,Vb,Vf⟩:=Kd.dA cQ.1 cJ U8 Va;cases Vb;replace U8:=aH U8;replace Va:=aH Va;go_wp2
      repeat (go_quiet (fail);try go_wp2)
      go_ret;exact⟨bA,by repeat (first|exact cl.refl _ |apply cl.step)⟩
    ·rw[aA c4]at H
     have dW:=cz c4;clear c4;obtain rfl:=aii H;go_wp2;go_ret;exact⟨bA,by repeat (first|exact cl.refl _ |apply cl.step)⟩
 ·rw[aA c3]at H
  obtain⟨jd,qc⟩:=dL c3;have Ee:(l0.length == l1.length)=false:=by first|simpa using c3|(simp at c3 ⊢;omega)
  obtain rfl:=aii H;go_enter Try.func13,Try.ntmps13;go_wp2;go_ret;exact⟨bA,by repeat (first|exact cl.refl _ |apply cl.step)⟩

def oR.l0:Nat→List Int→Int→Int→Option (Int)
 | 0,_,_,_=>none
 | k+1,x0,x3,x4=>if x4<(x0.length:Int) then (if 0≤x4 then (oR.l0 k x0 (wrap64 (x3+(rd x0 x4))) (wrap64 (x4+1))) else (none)) else (some x3)
def oR.f (k:Nat) (l0:List Int):Option (Int):=oR.l0 k l0 0 0
theorem oR.calls (k:Nat) (A0:Option Addr) (c0:Nat) (l0:List Int) (r:Int) (w:World) (hr0:Kd.C (Kd.int .i64) w A0 l0.length l0) (hc0:l0.length≤c0) (h:oR.f k l0=some r):
  Calls aip 16 #[.slice A0 l0.length c0] w fun e w'=>e= .returned (.int .i64 r)∧cl w w':=by
 have dX:=m_ hr0;have fD:=m_ hc0;clear hr0 hc0;have H:=h;unfold oR.f at H;clear h;have H':=m_ H;clear H;go_enter Try.func16,Try.ntmps16;go_wp2;go_loopg [3,4] k (fun kq v3 v4 w'=>∃(e9:Int) (fS:Int),v3= .int .i64 e9∧v4= .int .i64 fS∧ak (oR.l0 kq l0 e9 fS=some r)∧ak (kq≤k)∧cl w w')
 case atStart=>exact⟨(0),(0),bA,bA,H',⟨ahp _⟩,by repeat (first|exact cl.refl _ |apply cl.step)⟩
 case round=>
  clear H';obtain⟨e9,fS,rfl,rfl,HA,bP,⟨m1,rfl⟩⟩:=hrel;cases gk with
  | zero=>exact absurd HA.1 (by simp[oR.l0])
  | succ k1=>
   have H:=HA.1;clear HA;simp only[oR.l0]at H
   by_cases c2:fS<(l0.length:Int)
   ·rw[aC c2]at H
    have Kk:=aV c2;clear c2;obtain⟨c3,H⟩:=bN H;have jd:=aV c3;clear c3;have H':=m_ H;clear H;have U7:0≤(fS:Int):=aD;have U8:fS<(l0.length:Int):=aD;obtain⟨Va,U9,Vb⟩:=Kd.dA dX.1 fS U7 U8;cases U9;replace U7:=aH U7;replace U8:=aH U8;go_wp2;go_roundg k1
    case measure=>have:=bP.1;omega
    case rel=>exact⟨(wrap64 (e9+(rd l0 fS))),(wrap64 (fS+1)),bA,bA,H',⟨by have:=bP.1;omega⟩,by repeat (first|exact cl.refl _ |apply cl.step)⟩
   ·rw[aA c2]at H
    have Kk:=cz c2;clear c2;obtain rfl:=aii H;go_wp2;go_ret;exact⟨bA,by repeat (first|exact cl.refl _ |apply cl.step)⟩

def mY.l0:Nat→List (List Int)→List (List Int)→Int→Option (Bool)
 | 0,_,_,_=>none
 | k+1,x0,x1,x5=>if x5<(x0.length:Int) then (if 0≤x5 then (if x5<(x1.length:Int) then ((ko.f k (aM x0 x5) (aM x1 x5)).bind fun t106=>(if t106=true then (mY.l0 k x0 x1 (wrap64 (x5+1))) else (some false))) else (none)) else (none)) else (some true)
def mY.f (k:Nat) (l0:List (List Int)) (l1:List (List Int)):Option (Bool):=if (l0.length:Int)=(l1.length:Int) then (mY.l0 k l0 l1 0) else (some false)
theorem mY.calls (k:Nat) (A0:Option Addr) (c0:Nat) (l0:List (List Int)) (A1:Option Addr) (c1:Nat) (l1:List (List Int)) (r:Bool) (w:World) (hr0:Kd.C (Kd.slice 2 (Kd.int .i64)) w A0 l0.length l0) (hc0:l0.length≤c0) (hr1:Kd.C (Kd.slice 2 (Kd.int .i64)) w A1 l1.length l1) (hc1:l1.length≤c1) (h:mY.f k l0 l1=some r):
  Calls aip 20 #[.slice A0 l0.length c0, .slice A1 l1.length c1] w fun e w'=>e= .returned (.bool r)∧cl w w':=by
 have dX:=m_ hr0;have fD:=m_ hc0;clear hr0 hc0;have cQ:=m_ hr1;have dS:=m_ hc1;clear hr1 hc1;have H:=h;unfold mY.f at H;clear h
 by_cases c3:(l0.length:Int)=(l1.length:Int)
 ·rw[aC c3]at H
  obtain⟨jd,qc⟩:=dz c3;have Ee:(l0.length == l1.length)=true:=by first|simpa using c3|(simp at c3 ⊢;omega)
  clear c3;have H':=m_ H;clear H;go_enter Try.func20,Try.ntmps20;go_wp2;go_loopg [5] k (fun kq v5 w'=>∃(cJ:Int),v5= .int .i64 cJ∧ak (mY.l0 kq l0 l1 cJ=some r)∧ak (kq≤k)∧cl w w')
  case atStart=>exact⟨(0),bA,H',⟨ahp _⟩,by repeat (first|exact cl.refl _ |apply cl.step)⟩
  case round=>
   clear H';obtain⟨cJ,rfl,HA,bP,⟨m1,rfl⟩⟩:=hrel;cases gk with
   | zero=>exact absurd HA.1 (by simp[mY.l0])
   | succ k1=>
    have H:=HA.1;clear HA;simp only[mY.l0]at H
    by_cases c4:cJ<(l0.length:Int)
    ·rw[aC c4]at H
     have dW:=aV c4;clear c4;obtain⟨c5,H⟩:=bN H;have gZ:=aV c5;clear c5;obtain⟨c6,H⟩:=bN H;have iO:=aV c6;clear c6;obtain⟨t106,A7,H⟩:=bE H
     by_cases c8:t106=true
     ·subst c8
      rw[aC rfl]at H;have H':=m_ H;clear H;have sD:0≤(cJ:Int):=aD;have sE:cJ<(l0.length:Int):=aD;obtain⟨Ef,Vk,Vl,Eh,Bi,Vb,Va⟩:=fH dX.1 cJ sD sE;cases Eh;have Vf:=m_ Va;have Ve:=m_ Vb;clear Va Vb;replace sD:=aH sD;replace sE:=aH sE;have U8:0≤(cJ:Int):=aD;have U7:cJ<(l1.length:Int):=aD;obtain⟨Vj,Vi,Vm,Vh,Vn,U9,Vc⟩:=fH cQ.1 cJ U8 U7;cases Vh;have Vg:=m_ Vc;have Vd:=m_ U9;clear Vc U9;replace U8:=aH U8;replace U7:=aH U7;go_wp2
      repeat (go_quiet (first|(go_at_call 13;(with_reducible refine(ko.calls k1 _ _ (aM l0 cJ) _ _ (aM l1 cJ) true _ ?aq ?au ?bL ?bS A7.1).mono ?_);(case aq=>exact Kd.ay Vf.1 af);(case au=>exact Ve.1);(case bL=>exact Kd.ay Vg.1 af);(case bS=>exact Vd.1);rintro e w' ⟨rfl,⟨nd,rfl⟩⟩;(try first|exact⟨rfl,_,ajo _ _ _⟩|exact⟨rfl,_,ajp (ajo _ _ _) (congrArg (ajq _) (ajr _ _ _))⟩)));try go_wp2)
      go_roundg k1
      case measure=>have:=bP.1;omega
      case rel=>exact⟨(wrap64 (cJ+1)),bA,H',⟨by have:=bP.1;omega⟩,by repeat (first|exact cl.refl _ |apply cl.step)⟩
     ·replace c8:=aiq.mpr c8
      subst c8;rw[aA (show ¬(false=true) by decide)]at H;obtain rfl:=aii H;have sD:0≤(cJ:Int):=aD;have sE:cJ<(l0.length:Int):=aD;obtain⟨Ef,Vk,Vl,Eh,Bi,Vb,Va⟩:=fH dX.1 cJ sD sE;cases Eh;have Vf:=m_ Va;have Ve:=m_ Vb;clear Va Vb;replace sD:=aH sD;replace sE:=aH sE;have U8:0≤(cJ:Int):=aD;have U7:cJ<(l1.length:Int):=aD;obtain⟨Vj,Vi,Vm,Vh,Vn,U9,Vc⟩:=fH cQ.1 cJ U8 U7;cases Vh;have Vg:=m_ Vc;have Vd:=m_ U9;clear Vc U9;replace U8:=aH U8;replace U7:=aH U7;go_wp2
      repeat (go_quiet (first|(go_at_call 13;(with_reducible refine(ko.calls k1 _ _ (aM l0 cJ) _ _ (aM l1 cJ) false _ ?aq ?au ?bL ?bS A7.1).mono ?_);(case aq=>exact Kd.ay Vf.1 af);(case au=>exact Ve.1);(case bL=>exact Kd.ay Vg.1 af);(case bS=>exact Vd.1);rintro e w' ⟨rfl,⟨nd,rfl⟩⟩;(try first|exact⟨rfl,_,ajo _ _ _⟩|exact⟨rfl,_,ajp (ajo _ _ _) (congrArg (ajq _) (ajr _ _ _))⟩)));try go_wp2)
      go_ret;exact⟨bA,by repeat (first|exact cl.refl _ |apply cl.step)⟩
    ·rw[aA c4]at H
     have dW:=cz c4;clear c4;obtain rfl:=aii H;go_wp2;go_ret;exact⟨bA,by repeat (first|exact cl.refl _ |apply cl.step)⟩
 ·rw[aA c3]at H
  obtain⟨jd,qc⟩:=dL c3;have Ee:(l0.length == l1.length)=false:=by first|simpa using c3|(simp at c3 ⊢;omega)
  obtain rfl:=aii H;go_enter Try.func20,Try.ntmps20;go_wp2;go_ret;exact⟨bA,by repeat (first|exact cl.refl _ |apply cl.step)⟩

def nC.l0:Nat→List Int→List Int→Int→Int→Option (Bool)
 | 0,_,_,_,_=>none
 | k+1,x0,x1,fR,ny=>if ny<fR then (if 0≤ny then (if ny<(x0.length:Int) then (if ny<(x1.length:Int) then (if (rd x0 ny)=(rd x1 ny) then (nC.l0 k x0 x1 fR (wrap64 (ny+1))) else (some false)) else (none)) else (none)) else (none)) else (some true)
def nC.f (k:Nat) (l0:List Int) (l1:List Int):Option (Bool):=if (l0.length:Int)=(l1.length:Int) then (nC.l0 k l0 l1 (l0.length:Int) 0) else (some false)
theorem nC.calls (k:Nat) (A0:Option Addr) (c0:Nat) (l0:List Int) (A1:Option Addr) (c1:Nat) (l1:List Int) (r:Bool) (w:World) (hr0:Kd.C (Kd.int .i64) w A0 l0.length l0) (hc0:l0.length≤c0) (hr1:Kd.C (Kd.int .i64) w A1 l1.length l1) (hc1:l1.length≤c1) (h:nC.f k l0 l1=some r):
  Calls aip 116 #[.slice A0 l0.length c0, .slice A1 l1.length c1] w fun e w'=>e= .returned (.bool r)∧cl w w':=by
 have dX:=m_ hr0;have fD:=m_ hc0;clear hr0 hc0;have cQ:=m_ hr1;have dS:=m_ hc1;clear hr1 hc1;have H:=h;unfold nC.f at H;clear h
 by_cases c3:(l0.length:Int)=(l1.length:Int)
 ·rw[aC c3]at H
  obtain⟨jd,qc⟩:=dz c3;have Ee:(l0.length == l1.length)=true:=by first|simpa using c3|(simp at c3 ⊢;omega)
  clear c3;have H':=m_ H;clear H;go_enter ajt,Try.ntmps116;go_wp2;go_loopg [13] k (fun kq yJ w'=>∃(kP:Int),yJ= .int .i64 kP∧ak (nC.l0 kq l0 l1 (l0.length:Int) kP=some r)∧ak (kq≤k)∧cl w w')
  case atStart=>exact⟨(0),bA,H',⟨ahp _⟩,by repeat (first|exact cl.refl _ |apply cl.step)⟩
  case round=>
   clear H';obtain⟨kP,rfl,HA,bP,⟨m1,rfl⟩⟩:=hrel;cases gk with
   | zero=>exact absurd HA.1 (by simp[nC.l0])
   | succ k1=>
    have H:=HA.1;clear HA;simp only[nC.l0]at H
    by_cases c4:kP<(l0.length:Int)
    ·rw[aC c4]at H
     have dW:=aV c4;clear c4;obtain⟨c5,H⟩:=bN H;have gZ:=aV c5;clear c5;obtain⟨c6,H⟩:=bN H;have iO:=aV c6;clear c6;obtain⟨c7,H⟩:=bN H;have iT:=aV c7;clear c7
     by_cases c8:(rd l0 kP)=(rd l1 kP)
     ·rw[aC c8]at H
      obtain⟨lg,sN⟩:=dz c8;clear c8;have H':=m_ H;clear H;have U7:0≤(kP:Int):=aD;have U9:kP<(l0.length:Int):=aD;obtain⟨Vf,Vc,Vd⟩:=Kd.dA dX.1 kP U7 U9;cases Vc;replace U7:=aH U7;replace U9:=aH U9;have U8:0≤(kP:Int):=aD;have Va:kP<(l1.length:Int):=aD;obtain⟨Ve,Vb,Vg⟩:=Kd.dA cQ.1 kP U8 Va;cases Vb;replace U8:=aH U8;replace Va:=aH Va;go_wp2
      repeat (go_quiet (fail);try go_wp2)
      go_roundg k1
      case measure=>have:=bP.1;omega
      case rel=>exact⟨(wrap64 (kP+1)),bA,H',⟨by have:=bP.1;omega⟩,by repeat (first|exact cl.refl _ |apply cl.step)⟩
     ·rw[aA c8]at H
      obtain⟨lg,sN⟩:=dL c8;obtain rfl:=aii H;have U7:0≤(kP:Int):=aD;have U9:kP<(l0.length:Int):=aD;obtain⟨Vf,Vc,Vd⟩:=Kd.dA dX.1 kP U7 U9;cases Vc;replace U7:=aH U7;replace U9:=aH U9;have U8:0≤(kP:Int):=aD;have Va:kP<(l1.length:Int):=aD;obtain⟨Ve,Vb,Vg⟩:=Kd.dA cQ.1 kP U8 Va;cases Vb;replace U8:=aH U8;replace Va:=aH Va;go_wp2
      repeat (go_quiet (fail);try go_wp2)
      go_ret;exact⟨bA,by repeat (first|exact cl.refl _ |apply cl.step)⟩
    ·rw[aA c4]at H
     have dW:=cz c4;clear c4;obtain rfl:=aii H;go_wp2;go_ret;exact⟨bA,by repeat (first|exact cl.refl _ |apply cl.step)⟩
 ·rw[aA c3]at H
  obtain⟨jd,qc⟩:=dL c3;have Ee:(l0.length == l1.length)=false:=by first|simpa using c3|(simp at c3 ⊢;omega)
  obtain rfl:=aii H;go_enter ajt,Try.ntmps116;go_wp2;go_ret;exact⟨bA,by repeat (first|exact cl.refl _ |apply cl.step)⟩

def iC.f (ai:Int) (ag:List (List Int)) (a1:Int):Option (Int×Int):=if 0≤(wrap64 (aiU a1 2)) then (if (wrap64 (aiU a1 2))<(ag.length:Int) then (if 0≤(agZ a1 2) then (if (agZ a1 2)<((aM ag (wrap64 (aiU a1 2))).length:Int) then (if 0≤(wrap64 (1 - (agZ a1 2))) then (if (wrap64 (1 - (agZ a1 2)))<((aM ag (wrap64 (aiU a1 2))).length:Int) then (some (rd (aM ag (wrap64 (aiU a1 2))) (agZ a1 2),rd (aM ag (wrap64 (aiU a1 2))) (wrap64 (1 - (agZ a1 2))))) else (none)) else (none)) else (none)) else (none)) else (none)) else (none)
theorem iC.calls (ai:Int) (aJ:Option Addr) (aI:Nat) (ag:List (List Int)) (a1:Int) (r1:Int) (r2:Int) (w:World) (cG:Kd.C (Kd.slice 2 (Kd.int .i64)) w aJ ag.length ag) (cH:ag.length≤aI) (h:iC.f ai ag a1=some (r1,r2)):
  Calls aip 108 #[.agg #[.int .i64 ai, .slice aJ ag.length aI], .int .i64 a1] w fun e w'=>e= .returned (.tuple #[.int .i64 r1, .int .i64 r2])∧Below w.heap.size w w':=by
 have eU:=ail;have bW:=m_ cG;have cr:=m_ cH;clear cG cH;have HB:=m_ (aim w.heap.size w);have H:=h;unfold iC.f at H;clear h;obtain⟨eD,mF⟩: ∃j_:Int,(wrap64 (aiU a1 2))=j_:=⟨_,rfl⟩;(try rw[mF]);replace H:(if 0≤(eD) then (if (eD)<(ag.length:Int) then (if 0≤(agZ a1 2) then (if (agZ a1 2)<((aM ag (eD)).length:Int) then (if 0≤(wrap64 (1 - (agZ a1 2))) then (if (wrap64 (1 - (agZ a1 2)))<((aM ag (eD)).length:Int) then (some (rd (aM ag (eD)) (agZ a1 2),rd (aM ag (eD)) (wrap64 (1 - (agZ a1 2))))) else (none)) else (none)) else (none)) else (none)) else (none)) else (none))=some (r1,r2):=by first|(rw[mF]at H;exact H)|(simp only[mF]at H ⊢;exact H)
 have NF:(aiS.wrap (aiU a1 2))=eD:=(ez _).trans mF
 by_cases c4:0≤(eD)
 ·rw[aC c4]at H
  have dW:=aV c4;clear c4;obtain⟨c5,H⟩:=bN H;have gZ:=aV c5;clear c5;obtain⟨U7,Vb⟩: ∃j_:Int,(agZ a1 2)=j_:=⟨_,rfl⟩;(try rw[Vb]);replace H:(if 0≤(U7) then (if (U7)<((aM ag (eD)).length:Int) then (if 0≤(wrap64 (1 - (U7))) then (if (wrap64 (1 - (U7)))<((aM ag (eD)).length:Int) then (some (rd (aM ag (eD)) (U7),rd (aM ag (eD)) (wrap64 (1 - (U7))))) else (none)) else (none)) else (none)) else (none))=some (r1,r2):=by first|(rw[Vb]at H;exact H)|(simp only[Vb]at H ⊢;exact H)
  obtain⟨c7,H⟩:=bN H;have iT:=aV c7;clear c7;obtain⟨c8,H⟩:=bN H;have lg:=aV c8;clear c8;obtain⟨U8,U9⟩: ∃j_:Int,(wrap64 (1 - (U7)))=j_:=⟨_,rfl⟩;(try rw[U9]);replace H:(if 0≤(U8) then (if (U8)<((aM ag (eD)).length:Int) then (some (rd (aM ag (eD)) (U7),rd (aM ag (eD)) (U8))) else (none)) else (none))=some (r1,r2):=by first|(rw[U9]at H;exact H)|(simp only[U9]at H ⊢;exact H)
  have Vz:(aiS.wrap (1 - (U7)))=U8:=(ez _).trans U9;obtain⟨c10,H⟩:=bN H;have mJ:=aV c10;clear c10;obtain⟨c11,H⟩:=bN H;have lN:=aV c11;clear c11;simp only[ain,aio]at H;obtain⟨rfl,rfl⟩:=H;go_enter ai7,Try.ntmps108;go_wp2_with (first|((with_reducible refine bV (N:=2) rfl ?_);refine cC (N:=2) (cs:= #[.int .i64 ai, .slice aJ ag.length aI]) (t:=26) ?_;intro Vo hg nG aE hb;have Va:=m_ (aE);have VA:=m_ ((by rw[hg];exact(aN aT):w.heap.size≤Vo));have Vv:=m_ ((by rw[hg];exact(aN aT):w.heap.size≤Vo));replace HB:=m_ (aG aT hb);clear hb aE hg;have sO:=aX Va.1;have sP:=aZ Va.1;have sQ:=ax Va.1 0;have sR:=ax Va.1 1;have Vc:0≤((eD):Int):=aD;have Vi:(eD)<(ag.length:Int):=aD;obtain⟨Vw,Vu,Vx,Vq,Vg,Vn,Vm⟩:=fH bW.1 (eD) Vc Vi;cases Vq;replace Vg:=(HB.1.cell (air w _ Vg)).trans Vg;have Vl:=m_ Vm;have Vy:=m_ Vn;clear Vm Vn;replace Vc:=aH Vc;replace Vi:=aH Vi;have Vd:0≤((U7):Int):=aD;have Vh:(U7)<((aM ag (eD)).length:Int):=aD;obtain⟨Vp,Vt,Vj⟩:=Kd.dA Vl.1 (U7) Vd Vh;cases Vt;replace Vj:=(HB.1.cell (air w _ Vj)).trans Vj;replace Vd:=aH Vd;replace Vh:=aH Vh;have Vk:0≤((U8):Int):=aD;have Ve:(U8)<((aM ag (eD)).length:Int):=aD;obtain⟨Vr,Vs,Vf⟩:=Kd.dA Vl.1 (U8) Vk Ve;obtain rfl:Vp=Vr:=(by injection Vs);replace Vf:=(HB.1.cell (air w _ Vf)).trans Vf;replace Vk:=aH Vk;replace Ve:=aH Ve))
  repeat (go_quiet (fail);try go_wp2)
  go_ret2
  exact⟨by first|rfl|(simp[js,jt]<;>rfl)|(simp only[← mF,← Vb,← U9];first|rfl|(simp[js,jt]<;>rfl))|(simp[*,js,jt]<;>rfl),aj⟩
 ·rw[aA c4]at H
  exact absurd H bJ

def kZ.l0:Nat→List Int→List Int→Int→Int→Int→List (List Int)→Option (Bool)
 | 0,_,_,_,_,_,_=>none
 | k+1,x1,fR,ny,iQ,U8,U7=>if iQ<ny then (if 0≤iQ then (if iQ<(fR.length:Int) then (if (x1.length:Int)=0 then (none) else (if 0≤(agZ (wrap64 (iQ+1)) (x1.length:Int)) then (if (agZ (wrap64 (iQ+1)) (x1.length:Int))<(x1.length:Int) then ((iC.f U8 U7 (rd fR iQ)).bind fun KJ=>((iC.f U8 U7 (rd x1 (agZ (wrap64 (iQ+1)) (x1.length:Int)))).bind fun KK=>(if KK.1=KJ.2 then (if (rd x1 (agZ (wrap64 (iQ+1)) (x1.length:Int)))=(Go.bits .xor .i64 (rd fR iQ) 1) then (some false) else (kZ.l0 k x1 fR ny (wrap64 (iQ+1)) U8 U7)) else (some false)))) else (none)) else (none))) else (none)) else (none)) else (some (decide ((x1.length:Int)>0)))
def kZ.f (k:Nat) (ai:Int) (ag:List (List Int)) (l1:List Int):Option (Bool):=kZ.l0 k l1 l1 (l1.length:Int) 0 ai ag
theorem kZ.calls (k:Nat) (ai:Int) (aJ:Option Addr) (aI:Nat) (ag:List (List Int)) (A1:Option Addr) (c1:Nat) (l1:List Int) (r:Bool) (w:World) (cG:Kd.C (Kd.slice 2 (Kd.int .i64)) w aJ ag.length ag) (cH:ag.length≤aI) (hr1:Kd.C (Kd.int .i64) w A1 l1.length l1) (hc1:l1.length≤c1) (h:kZ.f k ai ag l1=some r):
  Calls aip 158 #[.agg #[.int .i64 ai, .slice aJ ag.length aI], .slice A1 l1.length c1] w fun e w'=>e= .returned (.bool r)∧Below w.heap.size w w':=by
 have eU:=ail;have bW:=m_ cG;have cr:=m_ cH;clear cG cH;have cQ:=m_ hr1;have dS:=m_ hc1;clear hr1 hc1;have HB:=m_ (aim w.heap.size w);have H:=h;unfold kZ.f at H;clear h;have H':=m_ H;clear H;go_enter Try.func158,Try.ntmps158;go_wp2_with (first|((with_reducible refine bV (N:=2) rfl ?_);refine cC (N:=2) (cs:= #[.int .i64 ai, .slice aJ ag.length aI]) (t:=26) ?_;intro Vj hg w3 aE hb;have U7:=m_ (aE);have Vk:=m_ ((by rw[hg];exact(aN aT):w.heap.size≤Vj));have Vo:=m_ ((by rw[hg];exact(aN aT):w.heap.size≤Vj));replace HB:=m_ (aG aT hb);clear hb aE hg));go_loopg [14] k (fun kq yD w'=>∃(U8:Int),yD= .int .i64 U8∧ak (kZ.l0 kq l1 l1 (l1.length:Int) U8 ai ag=some r)∧ak (kq≤k)∧ak (w'.heap[Vj]? =some (.cells #[.int .i64 ai,(.slice aJ ag.length aI)] 26 (0,0)))∧ak (Below w.heap.size w w'))
 case atStart=>exact⟨(0),bA,H',⟨ahp _⟩,⟨av U7.1 af⟩,⟨aj⟩⟩
 case round=>
  clear H';obtain⟨U8,rfl,HA,bP,U7,HB⟩:=hrel;cases gk with
  | zero=>exact absurd HA.1 (by simp[kZ.l0])
  | succ k1=>
   have H:=HA.1;clear HA;simp only[kZ.l0]at H
   by_cases c4:U8<(l1.length:Int)
   ·rw[aC c4]at H
    have dW:=aV c4;clear c4;obtain⟨c5,H⟩:=bN H;have gZ:=aV c5;clear c5;obtain⟨c6,H⟩:=bN H;have iO:=aV c6;clear c6
    by_cases c7:(l1.length:Int)=0
    ·rw[aC c7]at H
     exact absurd H bJ
    ·rw[aA c7]at H
     obtain⟨iT,sw⟩:=dL c7;have Vm: ¬(l1= []):=fun h_=>c7 (by rw[h_];rfl)
     obtain⟨fc,jL⟩: ∃j_:Int,(agZ (wrap64 (U8+1)) (l1.length:Int))=j_:=⟨_,rfl⟩;(try rw[jL]);replace H:(if 0≤(fc) then (if (fc)<(l1.length:Int) then ((iC.f ai ag (rd l1 U8)).bind fun KJ=>((iC.f ai ag (rd l1 (fc))).bind fun KK=>(if KK.1=KJ.2 then (if (rd l1 (fc))=(Go.bits .xor .i64 (rd l1 U8) 1) then (some false) else (kZ.l0 k1 l1 l1 (l1.length:Int) (wrap64 (U8+1)) ai ag)) else (some false)))) else (none)) else (none))=some r:=by first|(rw[jL]at H;exact H)|(simp only[jL]at H ⊢;exact H)
     obtain⟨c9,H⟩:=bN H;have jJ:=aV c9;clear c9;obtain⟨c10,H⟩:=bN H;have mJ:=aV c10;clear c10;obtain⟨⟨t116,t117⟩,yN,H⟩:=bE H;dsimp only at H;obtain⟨⟨t118,t119⟩,qB,H⟩:=bE H;dsimp only at H
     by_cases c13:t118=t117
     ·rw[aC c13]at H
      obtain⟨pR,zO⟩:=dz c13;clear c13
      by_cases c14:(rd l1 (fc))=(Go.bits .xor .i64 (rd l1 U8) 1)
      ·rw[aC c14]at H
       obtain⟨nJ,AW⟩:=dz c14;clear c14;obtain rfl:=aii H;have Vd:0≤(U8:Int):=aD;have Ve:U8<(l1.length:Int):=aD;obtain⟨Vi,Vg,Va⟩:=Kd.dA cQ.1 U8 Vd Ve;cases Vg;replace Va:=(HB.1.cell (air w _ Va)).trans Va;replace Vd:=aH Vd;replace Ve:=aH Ve;have Vc:0≤((fc):Int):=aD;have Vb:(fc)<(l1.length:Int):=aD;obtain⟨Vh,Vf,U9⟩:=Kd.dA cQ.1 (fc) Vc Vb;obtain rfl:Vi=Vh:=(by injection Vf);replace U9:=(HB.1.cell (air w _ U9)).trans U9;replace Vc:=aH Vc;replace Vb:=aH Vb;have zT:=aX U7.1;have zU:=aZ U7.1;have zV:=ax U7.1 0;have zW:=ax U7.1 1;go_wp2_with (first|((with_reducible refine bu (f:=108) rfl ?_);refine bz (some 30) ai7 #[.agg #[.int .i64 ai, .slice aJ ag.length aI], .int .i64 (rd l1 U8)] ?_;(with_reducible refine(iC.calls ai _ _ ag (rd l1 U8) t116 t117 _ ?aq ?au yN.1).mono ?_);(case aq=>exact Kd.ay (Kd.ay bW.1 HB.1) af);(case au=>exact cr.1);rintro e qP ⟨rfl,hb⟩;refine⟨_,rfl, ?_⟩;replace U7:=m_ (aW U7.1 hb);replace HB:=m_ (aG aj hb);clear hb;have Ao:=aX U7.1;have Ap:=aZ U7.1;have Aq:=ax U7.1 0;have Ar:=ax U7.1 1)|((with_reducible refine bu (f:=108) rfl ?_);refine AJ (some 36) rfl rfl ai7 aU rfl #[.agg #[.int .i64 ai, .slice aJ ag.length aI], .int .i64 (rd l1 (fc))] rfl (by(try simp only[aiD,ahb,aiE]);first|done|(simp only[jL];rfl)|rfl|(simp only[ahL,ahw];rfl)) ?_;(with_reducible refine(iC.calls ai _ _ ag (rd l1 (fc)) t118 t119 _ ?aq ?au qB.1).mono ?_);(case aq=>exact Kd.ay (Kd.ay bW.1 HB.1) af);(case au=>exact cr.1);rintro e pS ⟨rfl,hb⟩;refine⟨_,rfl, ?_⟩;replace U7:=m_ (aW U7.1 hb);replace HB:=m_ (aG aj hb);clear hb));go_ret;exact⟨by first|rfl|(simp[js,jt]<;>rfl)|(simp only[← jL];first|rfl|(simp[js,jt]<;>rfl))|(simp[*,js,jt]<;>rfl),aj⟩
      ·rw[aA c14]at H
       obtain⟨nJ,AW⟩:=dL c14;have H':=m_ H;clear H;have Vd:0≤(U8:Int):=aD;have Ve:U8<(l1.length:Int):=aD;obtain⟨Vi,Vg,Va⟩:=Kd.dA cQ.1 U8 Vd Ve;cases Vg;replace Va:=(HB.1.cell (air w _ Va)).trans Va;replace Vd:=aH Vd;replace Ve:=aH Ve;have Vc:0≤((fc):Int):=aD;have Vb:(fc)<(l1.length:Int):=aD;obtain⟨Vh,Vf,U9⟩:=Kd.dA cQ.1 (fc) Vc Vb;obtain rfl:Vi=Vh:=(by injection Vf);replace U9:=(HB.1.cell (air w _ U9)).trans U9;replace Vc:=aH Vc;replace Vb:=aH Vb;have uH:=aX U7.1;have uI:=aZ U7.1;have uJ:=ax U7.1 0;have uK:=ax U7.1 1;go_wp2_with (first|((with_reducible refine bu (f:=108) rfl ?_);refine bz (some 30) ai7 #[.agg #[.int .i64 ai, .slice aJ ag.length aI], .int .i64 (rd l1 U8)] ?_;(with_reducible refine(iC.calls ai _ _ ag (rd l1 U8) t116 t117 _ ?aq ?au yN.1).mono ?_);(case aq=>exact Kd.ay (Kd.ay bW.1 HB.1) af);(case au=>exact cr.1);rintro e pV ⟨rfl,hb⟩;refine⟨_,rfl, ?_⟩;replace U7:=m_ (aW U7.1 hb);replace HB:=m_ (aG aj hb);clear hb;have H7:=aX U7.1;have H8:=aZ U7.1;have H9:=ax U7.1 0;have Ia:=ax U7.1 1)|((with_reducible refine bu (f:=108) rfl ?_);refine AJ (some 36) rfl rfl ai7 aU rfl #[.agg #[.int .i64 ai, .slice aJ ag.length aI], .int .i64 (rd l1 (fc))] rfl (by(try simp only[aiD,ahb,aiE]);first|done|(simp only[jL];rfl)|rfl|(simp only[ahL,ahw];rfl)) ?_;(with_reducible refine(iC.calls ai _ _ ag (rd l1 (fc)) t118 t119 _ ?aq ?au qB.1).mono ?_);(case aq=>exact Kd.ay (Kd.ay bW.1 HB.1) af);(case au=>exact cr.1);rintro e oq ⟨rfl,hb⟩;refine⟨_,rfl, ?_⟩;replace U7:=m_ (aW U7.1 hb);replace HB:=m_ (aG aj hb);clear hb))
       first|(go_roundg k1)|((try subst jL);(go_roundg k1))
       case measure=>have:=bP.1;omega
       case rel=>exact⟨(wrap64 (U8+1)),bA,H',⟨by have:=bP.1;omega⟩,⟨av U7.1 af⟩,⟨aj⟩⟩
     ·rw[aA c13]at H
      obtain⟨pR,zO⟩:=dL c13;obtain rfl:=aii H;have Vd:0≤(U8:Int):=aD;have Ve:U8<(l1.length:Int):=aD;obtain⟨Vi,Vg,Va⟩:=Kd.dA cQ.1 U8 Vd Ve;cases Vg;replace Va:=(HB.1.cell (air w _ Va)).trans Va;replace Vd:=aH Vd;replace Ve:=aH Ve;have Vc:0≤((fc):Int):=aD;have Vb:(fc)<(l1.length:Int):=aD;obtain⟨Vh,Vf,U9⟩:=Kd.dA cQ.1 (fc) Vc Vb;obtain rfl:Vi=Vh:=(by injection Vf);replace U9:=(HB.1.cell (air w _ U9)).trans U9;replace Vc:=aH Vc;replace Vb:=aH Vb;have Vl:=aX U7.1;have Vq:=aZ U7.1;have Vp:=ax U7.1 0;have Vn:=ax U7.1 1;go_wp2_with (first|((with_reducible refine bu (f:=108) rfl ?_);refine bz (some 30) ai7 #[.agg #[.int .i64 ai, .slice aJ ag.length aI], .int .i64 (rd l1 U8)] ?_;(with_reducible refine(iC.calls ai _ _ ag (rd l1 U8) t116 t117 _ ?aq ?au yN.1).mono ?_);(case aq=>exact Kd.ay (Kd.ay bW.1 HB.1) af);(case au=>exact cr.1);rintro e OP ⟨rfl,hb⟩;refine⟨_,rfl, ?_⟩;replace U7:=m_ (aW U7.1 hb);replace HB:=m_ (aG aj hb);clear hb;have Ii:=aX U7.1;have Ij:=aZ U7.1;have Ik:=ax U7.1 0;have Il:=ax U7.1 1)|((with_reducible refine bu (f:=108) rfl ?_);refine AJ (some 36) rfl rfl ai7 aU rfl #[.agg #[.int .i64 ai, .slice aJ ag.length aI], .int .i64 (rd l1 (fc))] rfl (by(try simp only[aiD,ahb,aiE]);first|done|(simp only[jL];rfl)|rfl|(simp only[ahL,ahw];rfl)) ?_;(with_reducible refine(iC.calls ai _ _ ag (rd l1 (fc)) t118 t119 _ ?aq ?au qB.1).mono ?_);(case aq=>exact Kd.ay (Kd.ay bW.1 HB.1) af);(case au=>exact cr.1);rintro e yc ⟨rfl,hb⟩;refine⟨_,rfl, ?_⟩;replace U7:=m_ (aW U7.1 hb);replace HB:=m_ (aG aj hb);clear hb));go_ret;exact⟨by first|rfl|(simp[js,jt]<;>rfl)|(simp only[← jL];first|rfl|(simp[js,jt]<;>rfl))|(simp[*,js,jt]<;>rfl),aj⟩
   ·rw[aA c4]at H
    have dW:=cz c4;clear c4;obtain rfl:=aii H;go_wp2;go_ret;exact⟨cB,aj⟩

theorem oU.grow (a1:Int) (w:World) (h0:0<a1) (h1:a1≤1000):
  Calls aip 263 #[.slice none 0 0, .int .i64 a1] w fun e w'=>∃v:Value,e= .returned v∧Kd.R (Kd.int .i64) 2 w' w.heap.size (fun _=>True) v []∧Below w.heap.size w w':=by
 have HB:=m_ (aim w.heap.size w);have c1:decide (a1<0)=false:=cz aa;have c2:decide (0<a1)=true:=aV h0;have c3:aiS.wrap a1=a1:=(ez _).trans (by unfold wrap64;omega);have L1:=m_ h0;have L2:=m_ h1;clear h0 h1;obtain⟨U9,U7,_,U8,_⟩:=info_parts kB;go_enter Try.func263,Try.ntmps263;go_wp2_with (first|((with_reducible refine iR (b:= .append) (xs:= #[.tmp 20, .tmp 21]) rfl ?_);at_builtin;refine Kd.abK (Kd.int .i64) (w0:=w) w.heap.size rfl (.tmp 20) (.tmp 21) 29 3 2 (.int .i64 0) 8 rfl aiN Try.underlying3 kB rfl az aa (.slice none 0 0) [] 0 a1 (fun _=>True) rfl rfl rfl (fun _ _=>trivial) (Kd.lM _ _ _ _ _) (Int.le_of_lt L1.out) HB.1 (ahp _) (by have:=L2.out;simp;omega) ?_;intro v1 w3 ho hb hg hat;have HO:=m_ ho;clear HB;have HB:=m_ hb;clear ho hb hg hat;obtain⟨A1,KL,e1⟩:=Kd.dP HO.1;subst e1;have hr:=Kd.JU (m:=0) HO.1 aa;have hcut:=abL (P:=aip) 29 2 .i64 aiN U7 A1 ([]++List.replicate a1.toNat (0:Int)).length KL 0 aa aa (Kd.cM HO.1).2.1;have HR:=m_ hr;clear hr HO));go_ret;exact⟨_,rfl,HR.1,HB.1⟩
theorem oU.concat (A1 A2:Option Addr) (c1 c2:Nat) (l1 l2:List Int) (g:Nat) (w:World) (hg:w.heap[g]? =some (.cells #[.slice A1 l1.length c1, .slice A2 l2.length c2] 29 (0,0))) (h1:Kd.C (Kd.int .i64) w A1 l1.length l1) (h2:Kd.C (Kd.int .i64) w A2 l2.length l2) (h0:0<l1.length+l2.length) (hm:l1.length+l2.length≤1000):
  Calls aip 253 #[.slice (some ⟨g,0,none⟩) 2 2] w fun e w'=>∃v:Value,e= .returned v∧Kd.R (Kd.int .i64) 2 w' w.heap.size (fun _=>True) v (l1++l2)∧Below w.heap.size w w':=by
 have HB:=m_ (aim w.heap.size w);have BK:=m_ hg;have H1:=m_ h1;have H2:=m_ h2;have L0:=m_ h0;have L1:=m_ hm;obtain⟨s2,hs2⟩: ∃s2:Int,s2=(l1.length:Int)+(l2.length:Int):=⟨_,rfl⟩;have a1:wrap64 (l1.length:Int)=(l1.length:Int):=(by unfold wrap64;omega);have a2:wrap64 ((l1.length:Int)+(l2.length:Int))=s2:=(by unfold wrap64;omega);have b1:decide ((l1.length:Int)<0)=false:=cz aa;have b2:decide (s2<0)=false:=cz aa;have HS:=m_ hs2;clear hs2;clear hg h1 h2 h0 hm;go_enter Try.func253,Try.ntmps253;go_wp2;go_loopg [3,11] 2 (fun kq v3 v11 w'=>((kq=2∧v11= .int .i64 0∧v3= .int .i64 0)∨(kq=1∧v11= .int .i64 1∧v3= .int .i64 (l1.length:Int))∨(kq=0∧v11= .int .i64 2∧v3= .int .i64 s2))∧ak (Below w.heap.size w w'))
 case atStart=>exact⟨.inl ⟨rfl,rfl,rfl⟩,HB⟩
 case round=>
  obtain⟨U8,HB⟩:=hrel;have U7:=m_ (av BK.out HB.1);have hx0:=(fU U7.1 0).trans (show #[(.slice A1 l1.length c1:Value), .slice A2 l2.length c2][0]? =some (.slice A1 l1.length c1) from rfl);have hx1:=(fU U7.1 1).trans (show #[(.slice A1 l1.length c1:Value), .slice A2 l2.length c2][1]? =some (.slice A2 l2.length c2) from rfl);rcases U8 with ⟨rfl,rfl,rfl⟩|⟨rfl,rfl,rfl⟩|⟨rfl,rfl,rfl⟩
  ·go_wp2
   go_roundg 1
   case measure=>omega
   case rel=>exact⟨.inr (.inl ⟨rfl,rfl,by rw[a1]⟩),HB⟩
  ·go_wp2
   go_roundg 0
   case measure=>omega
   case rel=>exact⟨.inr (.inr ⟨rfl,rfl,by rw[a2]⟩),HB⟩
  ·go_wp2_with (first|((with_reducible refine bu (f:=263) rfl ?_);refine AJ (some 24) rfl rfl Try.func263 aU rfl #[.slice none 0 0, .int .i64 s2] rfl (by(try simp only[aiD,ahb,aiE]);first|done|rfl) ?_;(with_reducible refine(oU.grow s2 _ ?aq ?au).mono ?_);(case aq=>have:=HS.1;have:=L0.out;omega);(case au=>have:=HS.1;have:=L1.out;omega);rintro e w5 ⟨O3,rfl,aY,hb⟩;refine⟨_,rfl, ?_⟩;have ig:=m_ (Kd.dR aY (aN HB.1));have ij:=m_ (aG HB.1 hb);clear HB;have HO:=ig;have HB:=ij;clear ig ij aY hb))
   go_loopg [6,27] 2 (fun kq v6 DN w'=>((kq=2∧DN= .int .i64 0∧ak (Kd.R (Kd.int .i64) 2 w' w.heap.size (fun _=>True) v6 []))∨(kq=1∧DN= .int .i64 1∧ak (Kd.R (Kd.int .i64) 2 w' w.heap.size (fun _=>True) v6 l1))∨(kq=0∧DN= .int .i64 2∧ak (Kd.R (Kd.int .i64) 2 w' w.heap.size (fun _=>True) v6 (l1++l2))))∧ak (Below w.heap.size w w'))
   case atStart=>exact⟨.inl ⟨rfl,rfl,HO⟩,HB⟩
   case round=>
    clear hx0 hx1 U7 HO;obtain⟨U8,HB⟩:=hrel;have U7:=m_ (av BK.out HB.1);have hx0:=(fU U7.1 0).trans (show #[(.slice A1 l1.length c1:Value), .slice A2 l2.length c2][0]? =some (.slice A1 l1.length c1) from rfl);have hx1:=(fU U7.1 1).trans (show #[(.slice A1 l1.length c1:Value), .slice A2 l2.length c2][1]? =some (.slice A2 l2.length c2) from rfl);rcases U8 with ⟨rfl,rfl,HO⟩|⟨rfl,rfl,HO⟩|⟨rfl,rfl,HO⟩
    ·go_wp2_with (first|((with_reducible refine iR (b:= .append) (xs:= #[.tmp 31, .tmp 32]) rfl ?_);at_builtin;refine Kd.AH (Kd.int .i64) (w0:=w) w.heap.size rfl (.tmp 31) (.tmp 32) 29 2 (.int .i64 0) 8 rfl aiN kB rfl az aa u6 ([]) l1 _ _ _ (fun _=>True) (fun _=>False) rfl rfl ?aO ?aR (fun _ _ h=>h) (fun _ h=>h.elim) ?aF ?aB ?aS ?aL ?_;(case aR=>exact(Kd.ay H1.out HB.1));(case aB=>exact HB.1);(case aF=>exact(fun _ _=>trivial));(case aO=>exact HO.1);(case aS=>exact aN HB.1);(case aL=>have:=L1.out;simp;omega);intro DW w9 ho hb hg hat;have ig:=m_ hb;have ij:=m_ ho;clear HB HO;have HB:=ig;have HO:=ij;clear ig ij ho hb hg hat))
     go_roundg 1
     case measure=>omega
     case rel=>exact⟨.inr (.inl ⟨rfl,rfl,HO⟩),HB⟩
    ·go_wp2_with (first|((with_reducible refine iR (b:= .append) (xs:= #[.tmp 31, .tmp 32]) rfl ?_);at_builtin;refine Kd.AH (Kd.int .i64) (w0:=w) w.heap.size rfl (.tmp 31) (.tmp 32) 29 2 (.int .i64 0) 8 rfl aiN kB rfl az aa u6 (l1) l2 _ _ _ (fun _=>True) (fun _=>False) rfl rfl ?aO ?aR (fun _ _ h=>h) (fun _ h=>h.elim) ?aF ?aB ?aS ?aL ?_;(case aR=>exact(Kd.ay H2.out HB.1));(case aB=>exact HB.1);(case aF=>exact(fun _ _=>trivial));(case aO=>exact HO.1);(case aS=>exact aN HB.1);(case aL=>have:=L1.out;simp;omega);intro DW w9 ho hb hg hat;have ig:=m_ hb;have ij:=m_ ho;clear HB HO;have HB:=ig;have HO:=ij;clear ig ij ho hb hg hat))
     go_roundg 0
     case measure=>omega
     case rel=>exact⟨.inr (.inr ⟨rfl,rfl,HO⟩),HB⟩
    ·go_wp2
     go_ret;exact⟨_,rfl,HO.1,HB.1⟩
def oU.f (l0:List Int) (a1:Int):Option (List Int):=if 0≤a1 then (if a1≤(l0.length:Int) then (if 0<l0.length then (if l0.length≤1000 then some (l0.drop a1.toNat++l0.take a1.toNat) else none) else none) else none) else none
theorem oU.calls (A0:Option Addr) (c0:Nat) (l0:List Int) (a1:Int) (r:List Int) (w:World) (hr0:Kd.C (Kd.int .i64) w A0 l0.length l0) (hc0:l0.length≤c0) (h:oU.f l0 a1=some r):
  Calls aip 212 #[.slice A0 l0.length c0, .int .i64 a1] w fun e w'=>∃dO:Value,e= .returned (dO)∧Kd.R (Kd.int .i64) 2 w' w.heap.size (fun _=>True) dO r∧Below w.heap.size w w':=by
 unfold oU.f at h
 by_cases c1:0≤a1
 ·rw[aC c1]at h
  by_cases c2:a1≤(l0.length:Int)
  ·rw[aC c2]at h
   by_cases c3:0<l0.length
   ·rw[aC c3]at h
    by_cases c4:l0.length≤1000
    ·rw[aC c4]at h
     obtain rfl:=aii h;clear h;have L3:=m_ c3;have L4:=m_ c4;have L1:=m_ c1;have L2:=m_ c2;have HB:=m_ (aim w.heap.size w);obtain⟨i0,Hy,_,hsz,_⟩:=info_parts kB;obtain⟨B1,Vb,hA1,U9⟩:=Oj (P:=aip) (Value.int .i64) 0 29 2 .i64 aiN Hy hsz A0 c0 l0 a1 c1 c2 hc0;obtain⟨Va,hA2,Dq⟩:=Ok (P:=aip) (Value.int .i64) 0 29 2 .i64 aiN Hy hsz A0 c0 l0 a1 c1 c2 hc0;have H1:=m_ (Kd.Fu (h1:=fun _=>rfl) (hA1 _ (Kd.yG hr0)));have H2:=m_ (Kd.Fu (h1:=fun _=>rfl) (hA2 _ (Kd.yG hr0)));have ht:(l0.take a1.toNat).length=a1.toNat:=(by rw[ahw];omega);have hd:(l0.drop a1.toNat).length=l0.length - a1.toNat:=ahL;have LT:=m_ ht;have LD:=m_ hd;clear hr0 hc0 c1 c2 c3 c4 hA1 hA2 U9 Dq hsz ht hd;go_enter Try.func212,Try.ntmps212;go_wp2;refine gD (n:=9) (S:=fun w'=>True) (ds:=[]) #[false,false,false,false,false,false,false,false,false] aU rfl rfl trivial (fun hHeld=> ?_);refine kM (i:=0) (N:=some 5) (v:= ?_) (a':= ?_) #[true,false,false,false,false,false,false,false,false] rfl rfl aU (fun _ _ _ h=>h) (Or.inl ⟨by rfl, ?_⟩) ?_ ?_
     rotate_left
     ·intro w'
      go_simp
      with_reducible rfl
     rotate_left
     ·simp only[aiP,mQ]
      rfl
     refine kM (i:=1) (N:=some 6) (v:= ?_) (a':= ?_) #[true,true,false,false,false,false,false,false,false] rfl rfl aU (fun _ _ _ h=>h) (Or.inl ⟨by rfl, ?_⟩) ?_ ?_
     rotate_left
     ·intro w'
      go_simp
      with_reducible rfl
     rotate_left
     ·simp only[aiP,mQ]
      rfl
     refine kM (i:=2) (N:=some 7) (v:= ?_) (a':= ?_) #[true,true,true,false,false,false,false,false,false] rfl rfl aU (fun _ _ _ h=>h) (Or.inl ⟨by rfl, ?_⟩) ?_ ?_
     rotate_left
     ·intro w'
      go_simp
      with_reducible rfl
     rotate_left
     ·simp only[aiP,mQ]
      rfl
     refine kM (i:=3) (N:=some 8) (v:= ?_) (a':= ?_) #[true,true,true,true,false,false,false,false,false] rfl rfl aU (fun _ _ _ h=>h) (Or.inl ⟨by rfl, ?_⟩) ?_ ?_
     rotate_left
     ·intro w'
      go_simp
      with_reducible rfl
     rotate_left
     ·simp only[aiP,mQ]
      rfl
     refine kM (i:=4) (N:=some 9) (v:= ?_) (a':= ?_) #[true,true,true,true,true,false,false,false,false] rfl rfl aU (fun _ _ _ h=>h) (Or.inl ⟨by rfl, ?_⟩) ?_ ?_
     rotate_left
     ·intro w'
      go_simp
      with_reducible rfl
     rotate_left
     ·simp only[aiP,mQ]
      rfl
     refine kM (i:=5) (N:=some 10) (v:= ?_) (a':= ?_) #[true,true,true,true,true,true,false,false,false] rfl rfl aU (fun _ _ _ h=>h) (Or.inl ⟨by rfl, ?_⟩) ?_ ?_
     rotate_left
     ·intro w'
      go_simp
      with_reducible rfl
     rotate_left
     ·simp only[aiP,mQ]
      rfl
     refine rq (i:=6) (N:=some 11) #[true,true,true,true,true,true,true,false,false] rfl rfl aU az (fun K hK=> ?_);refine Ds (by rfl) (v:= .slice (some ⟨w.drew.heap.size,0,none⟩) 2 2) (w1:=World.alloc w.drew (.cells #[.slice B1 (l0.drop a1.toNat).length (c0 - a1.toNat), .slice A0 (l0.take a1.toNat).length c0] 29 (0,0))) ?hr ?_
     case hr=>first|(go_simp;done)|(go_simp;rfl)
     have BK:=m_ (Ph w.drew (.cells #[.slice B1 (l0.drop a1.toNat).length (c0 - a1.toNat), .slice A0 (l0.take a1.toNat).length c0] 29 (0,0)));have U7:=m_ (jC (fE HB.1) (.cells #[.slice B1 (l0.drop a1.toNat).length (c0 - a1.toNat), .slice A0 (l0.take a1.toNat).length c0] 29 (0,0)));refine hK.out _ _ trivial (fun hHeld=> ?_);clear hK K;refine fj ?_;refine rq (i:=7) (N:=some 12) #[true,true,true,true,true,true,true,true,false] rfl rfl aU az (fun K hK=> ?_);refine gI Try.func253 aU rfl #[.slice (some ⟨w.drew.heap.size,0,none⟩) 2 2] (by rfl) rfl rfl (by(try simp only[aiD,ahb,aiE]);first|done|rfl) ?_;refine(oU.concat B1 A0 (c0 - a1.toNat) c0 (l0.drop a1.toNat) (l0.take a1.toNat) w.drew.heap.size _ BK.out (Kd.ay H1.out U7.1) (Kd.ay H2.out U7.1) ?s1 ?s2).mono ?_
     case s1=>have:=L3.out;have:=LT.out;have:=LD.out;have:=L1.out;have:=L2.out;omega
     case s2=>have:=L4.out;have:=LT.out;have:=LD.out;have:=L1.out;have:=L2.out;omega
     rintro e oA ⟨Vc,rfl,aY,hb⟩;refine⟨_,rfl, ?_⟩;have HO:=m_ (Kd.dR aY (aN U7.1));have U8:=m_ (aG U7.1 hb);clear aY hb;refine hK.out _ _ trivial (fun hHeld=> ?_);clear hK K;refine fj ?_;refine kM (i:=8) (N:=some 4) (v:= ?_) (a':= ?_) #[true,true,true,true,true,true,true,true,true] rfl rfl aU (fun _ _ _ h=>h) (Or.inl ⟨by rfl, ?_⟩) ?_ ?_
     rotate_left
     ·intro w'
      go_simp
      with_reducible rfl
     rotate_left
     ·simp only[aiP,mQ]
      rfl
     refine gE aU ?_
     try go_wp2
     go_ret;exact⟨_,rfl,HO.1,U8.1⟩
    ·rw[aA c4]at h;cases h
   ·rw[aA c3]at h;cases h
  ·rw[aA c2]at h;cases h
 ·rw[aA c1]at h;cases h

def oV.l0:Nat→List Int→Int→Int→List (List Int)→Option (Bool)
 | 0,_,_,_,_=>none
 | k+1,x1,x5,U7,U8=>if x5<(x1.length:Int) then ((oU.f x1 x5).bind fun t123=>((nC.f k t123 x1).bind fun t126=>(if t126=true then (some false) else (oV.l0 k x1 (wrap64 (x5+1)) U7 U8)))) else ((kZ.f k U7 U8 x1).bind fun t122=>(some t122))
def oV.f (k:Nat) (ai:Int) (ag:List (List Int)) (l1:List Int):Option (Bool):=oV.l0 k l1 1 ai ag
theorem oV.calls (k:Nat) (ai:Int) (aJ:Option Addr) (aI:Nat) (ag:List (List Int)) (A1:Option Addr) (c1:Nat) (l1:List Int) (r:Bool) (w:World) (cG:Kd.C (Kd.slice 2 (Kd.int .i64)) w aJ ag.length ag) (cH:ag.length≤aI) (hr1:Kd.C (Kd.int .i64) w A1 l1.length l1) (hc1:l1.length≤c1) (h:oV.f k ai ag l1=some r):
  Calls aip 115 #[.agg #[.int .i64 ai, .slice aJ ag.length aI], .slice A1 l1.length c1] w fun e w'=>e= .returned (.bool r)∧Below w.heap.size w w':=by
 have eU:=ail;have bW:=m_ cG;have cr:=m_ cH;clear cG cH;have cQ:=m_ hr1;have dS:=m_ hc1;clear hr1 hc1;have HB:=m_ (aim w.heap.size w);have H:=h;unfold oV.f at H;clear h;have H':=m_ H;clear H;go_enter Try.func115,Try.ntmps115;go_wp2_with (first|((with_reducible refine bV (N:=2) rfl ?_);refine cC (N:=2) (cs:= #[.int .i64 ai, .slice aJ ag.length aI]) (t:=26) ?_;intro U9 hg w3 aE hb;have U7:=m_ (aE);have Vc:=m_ ((by rw[hg];exact(aN aT):w.heap.size≤U9));have Vb:=m_ ((by rw[hg];exact(aN aT):w.heap.size≤U9));replace HB:=m_ (aG aT hb);clear hb aE hg));go_loopg [5] k (fun kq v5 w'=>∃(cJ:Int),v5= .int .i64 cJ∧ak (oV.l0 kq l1 cJ ai ag=some r)∧ak (kq≤k)∧ak (w'.heap[U9]? =some (.cells #[.int .i64 ai,(.slice aJ ag.length aI)] 26 (0,0)))∧ak (Below w.heap.size w w'))
 case atStart=>exact⟨(1),bA,H',⟨ahp _⟩,⟨av U7.1 af⟩,⟨aj⟩⟩
 case round=>
  clear H';obtain⟨cJ,rfl,HA,bP,U7,HB⟩:=hrel;cases gk with
  | zero=>exact absurd HA.1 (by simp[oV.l0])
  | succ k1=>
   have H:=HA.1;clear HA;simp only[oV.l0]at H
   by_cases c4:cJ<(l1.length:Int)
   ·rw[aC c4]at H
    have dW:=aV c4;clear c4;obtain⟨t123,A5,H⟩:=bE H;obtain⟨t126,A6,H⟩:=bE H
    by_cases c7:t126=true
    ·subst c7
     rw[aC rfl]at H;obtain rfl:=aii H;go_wp2_with (first|((with_reducible refine bu (f:=212) rfl ?_);refine bz (some 14) Try.func212 #[.slice A1 l1.length c1, .int .i64 cJ] ?_;(with_reducible refine(oU.calls _ _ l1 cJ t123 _ ?aq ?au A5.1).mono ?_);(case aq=>exact Kd.ay (Kd.ay cQ.1 HB.1) af);(case au=>exact dS.1);rintro e w8 ⟨Va,rfl,aY,hb⟩;refine⟨_,rfl, ?_⟩;have U8:=m_ (Kd.dR aY (aN aj));replace U7:=m_ (aW U7.1 hb);replace HB:=m_ (aG aj hb);clear hb;(try clear aY);obtain⟨r7,r8,uM⟩:=Kd.dP U8.1;subst uM)|((with_reducible refine bu (f:=116) rfl ?_);refine bz (some 16) ajt #[.slice r7 t123.length r8, .slice A1 l1.length c1] ?_;(with_reducible refine(nC.calls k1 _ _ t123 _ _ l1 true _ ?aq ?au ?bL ?bS A6.1).mono ?_);(case aq=>exact Kd.ay (Kd.cM U8.1).2.2 af);(case au=>exact(Kd.cM U8.1).2.1);(case bL=>exact Kd.ay (Kd.ay cQ.1 HB.1) af);(case bS=>exact dS.1);rintro e w' ⟨rfl,⟨nd,rfl⟩⟩;refine⟨_,rfl, ?_⟩));go_ret;exact⟨cB,aj⟩
    ·replace c7:=aiq.mpr c7
     subst c7;rw[aA (show ¬(false=true) by decide)]at H;have H':=m_ H;clear H;go_wp2_with (first|((with_reducible refine bu (f:=212) rfl ?_);refine bz (some 14) Try.func212 #[.slice A1 l1.length c1, .int .i64 cJ] ?_;(with_reducible refine(oU.calls _ _ l1 cJ t123 _ ?aq ?au A5.1).mono ?_);(case aq=>exact Kd.ay (Kd.ay cQ.1 HB.1) af);(case au=>exact dS.1);rintro e iP ⟨Va,rfl,aY,hb⟩;refine⟨_,rfl, ?_⟩;have U8:=m_ (Kd.dR aY (aN aj));replace U7:=m_ (aW U7.1 hb);replace HB:=m_ (aG aj hb);clear hb;(try clear aY);obtain⟨fF,fA,nI⟩:=Kd.dP U8.1;subst nI)|((with_reducible refine bu (f:=116) rfl ?_);refine bz (some 16) ajt #[.slice fF t123.length fA, .slice A1 l1.length c1] ?_;(with_reducible refine(nC.calls k1 _ _ t123 _ _ l1 false _ ?aq ?au ?bL ?bS A6.1).mono ?_);(case aq=>exact Kd.ay (Kd.cM U8.1).2.2 af);(case au=>exact(Kd.cM U8.1).2.1);(case bL=>exact Kd.ay (Kd.ay cQ.1 HB.1) af);(case bS=>exact dS.1);rintro e w' ⟨rfl,⟨nd,rfl⟩⟩;refine⟨_,rfl, ?_⟩));go_roundg k1
     case measure=>have:=bP.1;omega
     case rel=>exact⟨(wrap64 (cJ+1)),bA,H',⟨by have:=bP.1;omega⟩,⟨av U7.1 af⟩,⟨aj⟩⟩
   ·rw[aA c4]at H
    have dW:=cz c4;clear c4;obtain⟨t122,qB,H⟩:=bE H;obtain rfl:=aii H;have sO:=aX U7.1;have sP:=aZ U7.1;have sQ:=ax U7.1 0;have sR:=ax U7.1 1;go_wp2_with (first|((with_reducible refine bu (f:=158) rfl ?_);refine bz (some 19) Try.func158 #[.agg #[.int .i64 ai, .slice aJ ag.length aI], .slice A1 l1.length c1] ?_;(with_reducible refine(kZ.calls k1 ai _ _ ag _ _ l1 t122 _ ?aq ?au ?bL ?bS qB.1).mono ?_);(case aq=>exact Kd.ay (Kd.ay bW.1 HB.1) af);(case au=>exact cr.1);(case bL=>exact Kd.ay (Kd.ay cQ.1 HB.1) af);(case bS=>exact dS.1);rintro e qu ⟨rfl,hb⟩;refine⟨_,rfl, ?_⟩;replace U7:=m_ (aW U7.1 hb);replace HB:=m_ (aG aj hb);clear hb));go_ret;exact⟨cB,aj⟩

def jR.f (a0:Int) (a1:Int) (a2:Int):Option (Bool):=if a0≥a1 then (some (decide (a0≤a2))) else (some false)
theorem jR.calls (a0:Int) (a1:Int) (a2:Int) (r:Bool) (w:World) (h:jR.f a0 a1 a2=some r):
  Calls aip 106 #[.int .i64 a0, .int .i64 a1, .int .i64 a2] w fun e w'=>e= .returned (.bool r)∧cl w w':=by
 have H:=h;unfold jR.f at H;clear h
 by_cases c4:a0≥a1
 ·rw[aC c4]at H
  have dW:=aV c4;clear c4;obtain rfl:=aii H;go_enter ajs,Try.ntmps106;go_wp2;go_ret;exact⟨bA,by repeat (first|exact cl.refl _ |apply cl.step)⟩
 ·rw[aA c4]at H
  have dW:=cz c4;clear c4;obtain rfl:=aii H;go_enter ajs,Try.ntmps106;go_wp2;go_ret;exact⟨bA,by repeat (first|exact cl.refl _ |apply cl.step)⟩

def jo.l0:Nat→List (List Int)→Int→Int→Int→List (List Int)→Option (Bool)
 | 0,_,_,_,_,_=>none
 | k+1,x6,x7,x8,U7,U8=>if x8<x7 then (if 0≤x8 then (if x8<(x6.length:Int) then (if ((aM x6 x8).length:Int)=2 then (if 0<((aM x6 x8).length:Int) then ((jR.f (rd (aM x6 x8) 0) 0 (wrap64 (U7 - 1))).bind fun t131=>(if t131=true then (if 1<((aM x6 x8).length:Int) then ((jR.f (rd (aM x6 x8) 1) 0 (wrap64 (U7 - 1))).bind fun t133=>(if t133=true then (jo.l0 k x6 x7 (wrap64 (x8+1)) U7 U8) else (some false))) else (none)) else (some false))) else (none)) else (some false)) else (none)) else (none)) else ((jR.f U7 1 8).bind fun t128=>(if t128=true then (some (decide ((U8.length:Int)≤10))) else (some false)))
def jo.f (k:Nat) (ai:Int) (ag:List (List Int)):Option (Bool):=jo.l0 k ag (ag.length:Int) 0 ai ag
theorem jo.calls (k:Nat) (ai:Int) (aJ:Option Addr) (aI:Nat) (ag:List (List Int)) (r:Bool) (w:World) (cG:Kd.C (Kd.slice 2 (Kd.int .i64)) w aJ ag.length ag) (cH:ag.length≤aI) (h:jo.f k ai ag=some r):
  Calls aip 136 #[.agg #[.int .i64 ai, .slice aJ ag.length aI]] w fun e w'=>e= .returned (.bool r)∧Below w.heap.size w w':=by
 have eU:=ail;have bW:=m_ cG;have cr:=m_ cH;clear cG cH;have HB:=m_ (aim w.heap.size w);have H:=h;unfold jo.f at H;clear h;have H':=m_ H;clear H;go_enter ai2,Try.ntmps136;go_wp2_with (first|((with_reducible refine bV (N:=1) rfl ?_);(try (refine jV (by rfl) ?_;dsimp only));refine cC (N:=1) (cs:= #[.int .i64 ai, .slice aJ ag.length aI]) (t:=26) ?_;intro Vt hg w2 aE hb;have U7:=m_ (aE);have Vx:=m_ ((by rw[hg];exact(aN aT):w.heap.size≤Vt));have Vw:=m_ ((by rw[hg];exact(aN aT):w.heap.size≤Vt));replace HB:=m_ (aG aT hb);clear hb aE hg;have OY:=aX U7.1;have abM:=aZ U7.1;have OZ:=ax U7.1 0;have abN:=ax U7.1 1));go_loopg [8] k (fun kq v8 w'=>∃(bX:Int),v8= .int .i64 bX∧ak (jo.l0 kq ag (ag.length:Int) bX ai ag=some r)∧ak (kq≤k)∧ak (w'.heap[Vt]? =some (.cells #[.int .i64 ai,(.slice aJ ag.length aI)] 26 (0,0)))∧ak (Below w.heap.size w w'))
 case atStart=>exact⟨(0),bA,H',⟨ahp _⟩,⟨av U7.1 af⟩,⟨aj⟩⟩
 case round=>
  clear H';obtain⟨bX,rfl,HA,bP,U7,HB⟩:=hrel;cases gk with
  | zero=>exact absurd HA.1 (by simp[jo.l0])
  | succ k1=>
   have H:=HA.1;clear HA;simp only[jo.l0]at H
   by_cases c4:bX<(ag.length:Int)
   ·rw[aC c4]at H
    have dW:=aV c4;clear c4;obtain⟨c5,H⟩:=bN H;have gZ:=aV c5;clear c5;obtain⟨c6,H⟩:=bN H;have iO:=aV c6;clear c6
    by_cases c7:((aM ag bX).length:Int)=2
    ·rw[aC c7]at H
     obtain⟨iT,sw⟩:=dz c7;clear c7;obtain⟨c8,H⟩:=bN H;have lg:=aV c8;have sN:decide (0<(aM ag bX).length)=true:=aV aa;clear c8;obtain⟨t131,A9,H⟩:=bE H
     by_cases c10:t131=true
     ·subst c10
      rw[aC rfl]at H;obtain⟨c11,H⟩:=bN H;have lN:=aV c11;have uC:decide (1<(aM ag bX).length)=true:=aV aa;clear c11;obtain⟨t133,qB,H⟩:=bE H
      by_cases c13:t133=true
      ·subst c13
       rw[aC rfl]at H;have H':=m_ H;clear H;have Va:0≤(bX:Int):=aD;have Vb:bX<(ag.length:Int):=aD;obtain⟨Vq,Vr,Vs,Vj,U9,Vf,Vg⟩:=fH bW.1 bX Va Vb;cases Vj;replace U9:=(HB.1.cell (air w _ U9)).trans U9;have Vh:=m_ Vg;have Vp:=m_ Vf;clear Vg Vf;replace Va:=aH Va;replace Vb:=aH Vb;have Ve:0≤(0:Int):=aa;have Vd:0<((aM ag bX).length:Int):=aD;obtain⟨Vm,Vl,U8⟩:=Kd.dA Vh.1 0 Ve Vd;cases Vl;have Vu:(0<(aM ag bX).length)=True:=aH aa;(try rw[show((0:Int)).toNat=0 from rfl]at U8);(try rw[aje]at U8);replace U8:=(HB.1.cell (air w _ U8)).trans U8;replace Ve:=aH Ve;replace Vd:=aH Vd;have AL:=aX U7.1;have AO:=aZ U7.1;have AP:=ax U7.1 0;have AQ:=ax U7.1 1;have Vi:0≤(1:Int):=aa;have Vk:1<((aM ag bX).length:Int):=aD;obtain⟨Vo,Vn,Vc⟩:=Kd.dA Vh.1 1 Vi Vk;obtain rfl:Vm=Vo:=(by injection Vn);(try simp only[show(1:Int).toNat=1 from rfl,Nat.reduceMul,Nat.reduceEqDiff,Go.Addr.add,↓reduceIte]at Vc);have Vv:(1<(aM ag bX).length)=True:=aH aa;(try rw[show((1:Int)).toNat=1 from rfl]at Vc);replace Vc:=(HB.1.cell (air w _ Vc)).trans Vc;replace Vi:=aH Vi;replace Vk:=aH Vk;go_wp2
       repeat (go_quiet (first|(go_at_call 106;(with_reducible refine(jR.calls (rd (aM ag bX) 0) 0 (wrap64 (ai - 1)) true _ A9.1).mono ?_);rintro e w' ⟨rfl,⟨nd,rfl⟩⟩;(try first|exact⟨rfl,_,ajo _ _ _⟩|exact⟨rfl,_,ajp (ajo _ _ _) (congrArg (ajq _) (ajr _ _ _))⟩))|(go_at_call 106;(with_reducible refine(jR.calls (rd (aM ag bX) 1) 0 (wrap64 (ai - 1)) true _ qB.1).mono ?_);rintro e w' ⟨rfl,⟨nd,rfl⟩⟩;(try first|exact⟨rfl,_,ajo _ _ _⟩|exact⟨rfl,_,ajp (ajo _ _ _) (congrArg (ajq _) (ajr _ _ _))⟩)));try go_wp2)
       go_roundg k1
       case measure=>have:=bP.1;omega
       case rel=>exact⟨(wrap64 (bX+1)),bA,H',⟨by have:=bP.1;omega⟩,⟨av U7.1 af⟩,⟨aj⟩⟩
      ·replace c13:=aiq.mpr c13
       subst c13;rw[aA (show ¬(false=true) by decide)]at H;obtain rfl:=aii H;have Va:0≤(bX:Int):=aD;have Vb:bX<(ag.length:Int):=aD;obtain⟨Vq,Vr,Vs,Vj,U9,Vf,Vg⟩:=fH bW.1 bX Va Vb;cases Vj;replace U9:=(HB.1.cell (air w _ U9)).trans U9;have Vh:=m_ Vg;have Vp:=m_ Vf;clear Vg Vf;replace Va:=aH Va;replace Vb:=aH Vb;have Ve:0≤(0:Int):=aa;have Vd:0<((aM ag bX).length:Int):=aD;obtain⟨Vm,Vl,U8⟩:=Kd.dA Vh.1 0 Ve Vd;cases Vl;have Vu:(0<(aM ag bX).length)=True:=aH aa;(try rw[show((0:Int)).toNat=0 from rfl]at U8);(try rw[aje]at U8);replace U8:=(HB.1.cell (air w _ U8)).trans U8;replace Ve:=aH Ve;replace Vd:=aH Vd;have zT:=aX U7.1;have zU:=aZ U7.1;have zV:=ax U7.1 0;have zW:=ax U7.1 1;have Vi:0≤(1:Int):=aa;have Vk:1<((aM ag bX).length:Int):=aD;obtain⟨Vo,Vn,Vc⟩:=Kd.dA Vh.1 1 Vi Vk;obtain rfl:Vm=Vo:=(by injection Vn);(try simp only[show(1:Int).toNat=1 from rfl,Nat.reduceMul,Nat.reduceEqDiff,Go.Addr.add,↓reduceIte]at Vc);have Vv:(1<(aM ag bX).length)=True:=aH aa;(try rw[show((1:Int)).toNat=1 from rfl]at Vc);replace Vc:=(HB.1.cell (air w _ Vc)).trans Vc;replace Vi:=aH Vi;replace Vk:=aH Vk;go_wp2
       repeat (go_quiet (first|(go_at_call 106;(with_reducible refine(jR.calls (rd (aM ag bX) 0) 0 (wrap64 (ai - 1)) true _ A9.1).mono ?_);rintro e w' ⟨rfl,⟨nd,rfl⟩⟩;(try first|exact⟨rfl,_,ajo _ _ _⟩|exact⟨rfl,_,ajp (ajo _ _ _) (congrArg (ajq _) (ajr _ _ _))⟩))|(go_at_call 106;(with_reducible refine(jR.calls (rd (aM ag bX) 1) 0 (wrap64 (ai - 1)) false _ qB.1).mono ?_);rintro e w' ⟨rfl,⟨nd,rfl⟩⟩;(try first|exact⟨rfl,_,ajo _ _ _⟩|exact⟨rfl,_,ajp (ajo _ _ _) (congrArg (ajq _) (ajr _ _ _))⟩)));try go_wp2)
       go_ret;exact⟨cB,aj⟩
     ·replace c10:=aiq.mpr c10
      subst c10;rw[aA (show ¬(false=true) by decide)]at H;obtain rfl:=aii H;have Va:0≤(bX:Int):=aD;have Vb:bX<(ag.length:Int):=aD;obtain⟨Vq,Vr,Vs,Vj,U9,Vf,Vg⟩:=fH bW.1 bX Va Vb;cases Vj;replace U9:=(HB.1.cell (air w _ U9)).trans U9;have Vh:=m_ Vg;have Vp:=m_ Vf;clear Vg Vf;replace Va:=aH Va;replace Vb:=aH Vb;have Ve:0≤(0:Int):=aa;have Vd:0<((aM ag bX).length:Int):=aD;obtain⟨Vm,Vl,U8⟩:=Kd.dA Vh.1 0 Ve Vd;cases Vl;have Vu:(0<(aM ag bX).length)=True:=aH aa;(try rw[show((0:Int)).toNat=0 from rfl]at U8);(try rw[aje]at U8);replace U8:=(HB.1.cell (air w _ U8)).trans U8;replace Ve:=aH Ve;replace Vd:=aH Vd;have DB:=aX U7.1;have DC:=aZ U7.1;have DD:=ax U7.1 0;have DE:=ax U7.1 1;go_wp2
      repeat (go_quiet (first|(go_at_call 106;(with_reducible refine(jR.calls (rd (aM ag bX) 0) 0 (wrap64 (ai - 1)) false _ A9.1).mono ?_);rintro e w' ⟨rfl,⟨nd,rfl⟩⟩;(try first|exact⟨rfl,_,ajo _ _ _⟩|exact⟨rfl,_,ajp (ajo _ _ _) (congrArg (ajq _) (ajr _ _ _))⟩)));try go_wp2)
      go_ret;exact⟨cB,aj⟩
    ·rw[aA c7]at H
     obtain⟨iT,sw⟩:=dL c7;obtain rfl:=aii H;have Va:0≤(bX:Int):=aD;have Vb:bX<(ag.length:Int):=aD;obtain⟨Vq,Vr,Vs,Vj,U9,Vf,Vg⟩:=fH bW.1 bX Va Vb;cases Vj;replace U9:=(HB.1.cell (air w _ U9)).trans U9;have Vh:=m_ Vg;have Vp:=m_ Vf;clear Vg Vf;replace Va:=aH Va;replace Vb:=aH Vb;go_wp2
     repeat (go_quiet (fail);try go_wp2)
     go_ret;exact⟨cB,aj⟩
   ·rw[aA c4]at H
    have dW:=cz c4;clear c4;obtain⟨t128,zP,H⟩:=bE H
    by_cases c18:t128=true
    ·subst c18
     rw[aC rfl]at H;obtain rfl:=aii H;have uH:=aX U7.1;have uI:=aZ U7.1;have uJ:=ax U7.1 0;have uK:=ax U7.1 1;go_wp2_with (first|(go_at_call 106;(with_reducible refine(jR.calls ai 1 8 true _ zP.1).mono ?_);rintro e w' ⟨rfl,⟨nd,rfl⟩⟩;(try first|exact⟨rfl,_,ajo _ _ _⟩|exact⟨rfl,_,ajp (ajo _ _ _) (congrArg (ajq _) (ajr _ _ _))⟩)));go_ret;exact⟨cB,aj⟩
    ·replace c18:=aiq.mpr c18
     subst c18;rw[aA (show ¬(false=true) by decide)]at H;obtain rfl:=aii H;have Jn:=aX U7.1;have Jo:=aZ U7.1;have Jp:=ax U7.1 0;have Jq:=ax U7.1 1;go_wp2_with (first|(go_at_call 106;(with_reducible refine(jR.calls ai 1 8 false _ zP.1).mono ?_);rintro e w' ⟨rfl,⟨nd,rfl⟩⟩;(try first|exact⟨rfl,_,ajo _ _ _⟩|exact⟨rfl,_,ajp (ajo _ _ _) (congrArg (ajq _) (ajr _ _ _))⟩)));go_ret;exact⟨cB,aj⟩

def kY.f (ai:Int) (ag:List (List Int)):Option (Int):=some (ag.length:Int)
theorem kY.calls (ai:Int) (aJ:Option Addr) (aI:Nat) (ag:List (List Int)) (r:Int) (w:World) (cG:Kd.C (Kd.slice 2 (Kd.int .i64)) w aJ ag.length ag) (cH:ag.length≤aI) (h:kY.f ai ag=some r):
  Calls aip 204 #[.agg #[.int .i64 ai, .slice aJ ag.length aI]] w fun e w'=>e= .returned (.int .i64 r)∧Below w.heap.size w w':=by
 have eU:=ail;have bW:=m_ cG;have cr:=m_ cH;clear cG cH;have HB:=m_ (aim w.heap.size w);have H:=h;unfold kY.f at H;clear h;obtain rfl:=aii H;go_enter Try.func204,Try.ntmps204;go_wp2_with (first|((with_reducible refine bV (N:=1) rfl ?_);refine cC (N:=1) (cs:= #[.int .i64 ai, .slice aJ ag.length aI]) (t:=26) ?_;intro U8 hg w2 aE hb;have U7:=m_ (aE);have U9:=m_ ((by rw[hg];exact(aN aT):w.heap.size≤U8));have Va:=m_ ((by rw[hg];exact(aN aT):w.heap.size≤U8));replace HB:=m_ (aG aT hb);clear hb aE hg;have OY:=aX U7.1;have abM:=aZ U7.1;have OZ:=ax U7.1 0;have abN:=ax U7.1 1));go_ret;exact⟨cB,aj⟩

def vu.f (a0:Int) (cK:Int) (cw:List (List Int)):Option (Bool):=(kY.f cK cw).bind fun t140=>((jR.f a0 0 (wrap64 ((wrap64 (2*t140)) - 1))).bind fun t141=>(some (!t141)))
theorem vu.calls (a0:Int) (eO:Nat) (cK:Int) (eH:Option Addr) (eI:Nat) (cw:List (List Int)) (r:Bool) (w:World) (kn:w.heap[eO]? =some (.cells #[.int .i64 cK, .slice eH cw.length eI] 26 (0,0))) (mo:Kd.C (Kd.slice 2 (Kd.int .i64)) w eH cw.length cw) (mq:cw.length≤eI) (h:vu.f a0 cK cw=some r):
  Calls aip 208 #[.int .i64 a0, .pointer (some ⟨eO,0,none⟩)] w fun e w'=>e= .returned (.bool r)∧Below w.heap.size w w':=by
 have eU:=ail;have pI:=m_ mo;have pJ:=m_ mq;clear mo mq;have U7:=m_ kn;clear kn;have HB:=m_ (aim w.heap.size w);have H:=h;unfold vu.f at H;clear h;obtain⟨t140,A3,H⟩:=bE H;obtain⟨t141,A4,H⟩:=bE H;obtain rfl:=aii H;have FQ:=aX U7.1;have Ki:=aZ U7.1;have FR:=ax U7.1 0;have Kj:=ax U7.1 1;go_enter Try.func208,Try.ntmps208;go_wp2_with (first|((with_reducible refine bu (f:=204) rfl ?_);refine bz (some 6) Try.func204 #[.agg #[.int .i64 cK, .slice eH cw.length eI]] ?_;(with_reducible refine(kY.calls cK _ _ cw t140 _ ?aq ?au A3.1).mono ?_);(case aq=>exact Kd.ay pI.1 af);(case au=>exact pJ.1);rintro e w6 ⟨rfl,hb⟩;refine⟨_,rfl, ?_⟩;replace U7:=m_ (aW U7.1 hb);replace HB:=m_ (aG aj hb);clear hb)|((with_reducible refine bu (f:=106) rfl ?_);refine bz (some 9) ajs #[.int .i64 a0, .int .i64 0, .int .i64 (wrap64 ((wrap64 (2*t140)) - 1))] ?_;(with_reducible refine(jR.calls a0 0 (wrap64 ((wrap64 (2*t140)) - 1)) t141 _ A4.1).mono ?_);rintro e w' ⟨rfl,⟨nd,rfl⟩⟩;refine⟨_,rfl, ?_⟩));go_ret;exact⟨cB,aj⟩

def nX.l0:Nat→List Int→Int→Int→Int→List (List Int)→Option (Int)
 | 0,_,_,_,_,_=>none
 | k+1,x0,x7,x8,U8,U7=>if x8<x7 then (if 0≤x8 then (if x8<(x0.length:Int) then ((vu.f (rd x0 x8) U8 U7).bind fun t144=>(if t144=true then (some x8) else (nX.l0 k x0 x7 (wrap64 (x8+1)) U8 U7))) else (none)) else (none)) else (some (-1))
def nX.f (k:Nat) (l0:List Int) (cK:Int) (cw:List (List Int)):Option (Int):=nX.l0 k l0 (l0.length:Int) 0 cK cw
theorem nX.calls (k:Nat) (A0:Option Addr) (c0:Nat) (l0:List Int) (eO:Nat) (cK:Int) (eH:Option Addr) (eI:Nat) (cw:List (List Int)) (r:Int) (w:World) (hr0:Kd.C (Kd.int .i64) w A0 l0.length l0) (hc0:l0.length≤c0) (kn:w.heap[eO]? =some (.cells #[.int .i64 cK, .slice eH cw.length eI] 26 (0,0))) (mo:Kd.C (Kd.slice 2 (Kd.int .i64)) w eH cw.length cw) (mq:cw.length≤eI) (h:nX.f k l0 cK cw=some r):
  Calls aip 231 #[.slice A0 l0.length c0, .func (.func 208) #[] #[.pointer (some ⟨eO,0,none⟩)]] w fun e w'=>e= .returned (.int .i64 r)∧Below w.heap.size w w':=by
 have dX:=m_ hr0;have fD:=m_ hc0;clear hr0 hc0;have pI:=m_ mo;have pJ:=m_ mq;clear mo mq;have U7:=m_ kn;clear kn;have HB:=m_ (aim w.heap.size w);have H:=h;unfold nX.f at H;clear h;have H':=m_ H;clear H;go_enter Try.func231,Try.ntmps231;go_wp2;go_loopg [8] k (fun kq v8 w'=>∃(bX:Int),v8= .int .i64 bX∧ak (nX.l0 kq l0 (l0.length:Int) bX cK cw=some r)∧ak (kq≤k)∧ak (w'.heap[eO]? =some (.cells #[.int .i64 cK,(.slice eH cw.length eI)] 26 (0,0)))∧ak (Below w.heap.size w w'))
 case atStart=>exact⟨(0),bA,H',⟨ahp _⟩,⟨av U7.1 af⟩,⟨aj⟩⟩
 case round=>
  clear H';obtain⟨bX,rfl,HA,bP,U7,HB⟩:=hrel;cases gk with
  | zero=>exact absurd HA.1 (by simp[nX.l0])
  | succ k1=>
   have H:=HA.1;clear HA;simp only[nX.l0]at H
   by_cases c3:bX<(l0.length:Int)
   ·rw[aC c3]at H
    have jd:=aV c3;clear c3;obtain⟨c4,H⟩:=bN H;have dW:=aV c4;clear c4;obtain⟨c5,H⟩:=bN H;have gZ:=aV c5;clear c5;obtain⟨t144,A6,H⟩:=bE H
    by_cases c7:t144=true
    ·subst c7
     rw[aC rfl]at H;obtain rfl:=aii H;have U9:0≤(bX:Int):=aD;have Va:bX<(l0.length:Int):=aD;obtain⟨Vc,Vb,U8⟩:=Kd.dA dX.1 bX U9 Va;cases Vb;replace U8:=(HB.1.cell (air w _ U8)).trans U8;replace U9:=aH U9;replace Va:=aH Va;go_wp2_with (first|((with_reducible refine tH (t:=11) rfl ?_);refine tI (some 16) rfl rfl Try.func208 aU rfl (lb:= #[.pointer (some ⟨eO,0,none⟩)]) #[.int .i64 (rd l0 bX), .pointer (some ⟨eO,0,none⟩)] rfl (by first|rfl|(simp;done)) (by(try simp only[aiD,ahb,aiE,aiX,aiY,ag9]);first|done|rfl|(simp only[ahL,ahw];rfl)) ?_;(with_reducible refine(vu.calls (rd l0 bX) eO cK eH eI cw true _ ?aq ?au ?bL A6.1).mono ?_);(case aq=>exact(av U7.1 af));(case au=>exact Kd.ay (Kd.ay pI.1 HB.1) af);(case bL=>exact pJ.1);rintro e w8 ⟨rfl,hb⟩;refine⟨_,rfl, ?_⟩;replace U7:=m_ (aW U7.1 hb);replace HB:=m_ (aG aj hb);clear hb));go_ret;exact⟨cB,aj⟩
    ·replace c7:=aiq.mpr c7
     subst c7;rw[aA (show ¬(false=true) by decide)]at H;have H':=m_ H;clear H;have U9:0≤(bX:Int):=aD;have Va:bX<(l0.length:Int):=aD;obtain⟨Vc,Vb,U8⟩:=Kd.dA dX.1 bX U9 Va;cases Vb;replace U8:=(HB.1.cell (air w _ U8)).trans U8;replace U9:=aH U9;replace Va:=aH Va;go_wp2_with (first|((with_reducible refine tH (t:=11) rfl ?_);refine tI (some 16) rfl rfl Try.func208 aU rfl (lb:= #[.pointer (some ⟨eO,0,none⟩)]) #[.int .i64 (rd l0 bX), .pointer (some ⟨eO,0,none⟩)] rfl (by first|rfl|(simp;done)) (by(try simp only[aiD,ahb,aiE,aiX,aiY,ag9]);first|done|rfl|(simp only[ahL,ahw];rfl)) ?_;(with_reducible refine(vu.calls (rd l0 bX) eO cK eH eI cw false _ ?aq ?au ?bL A6.1).mono ?_);(case aq=>exact(av U7.1 af));(case au=>exact Kd.ay (Kd.ay pI.1 HB.1) af);(case bL=>exact pJ.1);rintro e w9 ⟨rfl,hb⟩;refine⟨_,rfl, ?_⟩;replace U7:=m_ (aW U7.1 hb);replace HB:=m_ (aG aj hb);clear hb));go_roundg k1
     case measure=>have:=bP.1;omega
     case rel=>exact⟨(wrap64 (bX+1)),bA,H',⟨by have:=bP.1;omega⟩,⟨av U7.1 af⟩,⟨aj⟩⟩
   ·rw[aA c3]at H
    have jd:=cz c3;clear c3;obtain rfl:=aii H;go_wp2;go_ret;exact⟨cB,aj⟩

def zM.f (k:Nat) (l0:List Int) (cK:Int) (cw:List (List Int)):Option (Bool):=(nX.f k l0 cK cw).bind fun t146=>(some (decide (t146≥0)))
theorem zM.calls (k:Nat) (A0:Option Addr) (c0:Nat) (l0:List Int) (eO:Nat) (cK:Int) (eH:Option Addr) (eI:Nat) (cw:List (List Int)) (r:Bool) (w:World) (hr0:Kd.C (Kd.int .i64) w A0 l0.length l0) (hc0:l0.length≤c0) (kn:w.heap[eO]? =some (.cells #[.int .i64 cK, .slice eH cw.length eI] 26 (0,0))) (mo:Kd.C (Kd.slice 2 (Kd.int .i64)) w eH cw.length cw) (mq:cw.length≤eI) (h:zM.f k l0 cK cw=some r):
  Calls aip 176 #[.slice A0 l0.length c0, .func (.func 208) #[] #[.pointer (some ⟨eO,0,none⟩)]] w fun e w'=>e= .returned (.bool r)∧Below w.heap.size w w':=by
 have dX:=m_ hr0;have fD:=m_ hc0;clear hr0 hc0;have pI:=m_ mo;have pJ:=m_ mq;clear mo mq;have U7:=m_ kn;clear kn;have HB:=m_ (aim w.heap.size w);have H:=h;unfold zM.f at H;clear h;obtain⟨t146,A3,H⟩:=bE H;obtain rfl:=aii H;go_enter Try.func176,Try.ntmps176;go_wp2_with (first|((with_reducible refine bu (f:=231) rfl ?_);refine bz (some 7) Try.func231 #[.slice A0 l0.length c0, .func (.func 208) #[] #[.pointer (some ⟨eO,0,none⟩)]] ?_;(with_reducible refine(nX.calls k _ _ l0 eO cK eH eI cw t146 _ ?aq ?au ?bL ?bS ?gz A3.1).mono ?_);(case aq=>exact Kd.ay dX.1 af);(case au=>exact fD.1);(case bL=>exact(av U7.1 af));(case bS=>exact Kd.ay pI.1 af);(case gz=>exact pJ.1);rintro e w4 ⟨rfl,hb⟩;refine⟨_,rfl, ?_⟩;replace U7:=m_ (aW U7.1 hb);replace HB:=m_ (aG aj hb);clear hb));go_ret;exact⟨cB,aj⟩

def xI.f (k:Nat) (ai:Int) (ag:List (List Int)) (l1:List Int):Option (Bool):=(zM.f k l1 ai ag).bind fun t148=>(some (!t148))
theorem xI.calls (k:Nat) (ai:Int) (aJ:Option Addr) (aI:Nat) (ag:List (List Int)) (A1:Option Addr) (c1:Nat) (l1:List Int) (r:Bool) (w:World) (cG:Kd.C (Kd.slice 2 (Kd.int .i64)) w aJ ag.length ag) (cH:ag.length≤aI) (hr1:Kd.C (Kd.int .i64) w A1 l1.length l1) (hc1:l1.length≤c1) (h:xI.f k ai ag l1=some r):
  Calls aip 107 #[.agg #[.int .i64 ai, .slice aJ ag.length aI], .slice A1 l1.length c1] w fun e w'=>e= .returned (.bool r)∧Below w.heap.size w w':=by
 have eU:=ail;have bW:=m_ cG;have cr:=m_ cH;clear cG cH;have cQ:=m_ hr1;have dS:=m_ hc1;clear hr1 hc1;have HB:=m_ (aim w.heap.size w);have H:=h;unfold xI.f at H;clear h;obtain⟨t148,A3,H⟩:=bE H;obtain rfl:=aii H;go_enter Try.func107,Try.ntmps107;go_wp2_with (first|((with_reducible refine bV (N:=2) rfl ?_);refine cC (N:=2) (cs:= #[.int .i64 ai, .slice aJ ag.length aI]) (t:=26) ?_;intro U7 hg w4 aE hb;have U8:=m_ (aE);have U9:=m_ ((by rw[hg];exact(aN aT):w.heap.size≤U7));have Va:=m_ ((by rw[hg];exact(aN aT):w.heap.size≤U7));replace HB:=m_ (aG aT hb);clear hb aE hg)|((with_reducible refine bu (f:=176) rfl ?_);refine bz (some 7) Try.func176 #[.slice A1 l1.length c1, .func (.func 208) #[] #[.pointer (some ⟨U7,0,none⟩)]] ?_;(with_reducible refine(zM.calls k _ _ l1 U7 ai aJ aI ag t148 _ ?aq ?au ?bL ?bS ?gz A3.1).mono ?_);(case aq=>exact Kd.ay (Kd.ay cQ.1 HB.1) af);(case au=>exact dS.1);(case bL=>exact(av U8.1 af));(case bS=>exact Kd.ay (Kd.ay bW.1 HB.1) af);(case gz=>exact cr.1);rintro e w5 ⟨rfl,hb⟩;refine⟨_,rfl, ?_⟩;replace U8:=m_ (aW U8.1 hb);replace HB:=m_ (aG aj hb);clear hb));go_ret;exact⟨cB,aj⟩

def qI.f (ai:Int) (ag:List (List Int)) (a1:Int) (a2:Int):Option (Bool):=(iC.f ai ag a1).bind fun sB=>((iC.f ai ag a2).bind fun U7=>(if U7.1=sB.2 then (some (a2 != (Go.bits .xor .i64 a1 1))) else (some false)))
theorem qI.calls (ai:Int) (aJ:Option Addr) (aI:Nat) (ag:List (List Int)) (a1:Int) (a2:Int) (r:Bool) (w:World) (cG:Kd.C (Kd.slice 2 (Kd.int .i64)) w aJ ag.length ag) (cH:ag.length≤aI) (h:qI.f ai ag a1 a2=some r):
  Calls aip 223 #[.agg #[.int .i64 ai, .slice aJ ag.length aI], .int .i64 a1, .int .i64 a2] w fun e w'=>e= .returned (.bool r)∧Below w.heap.size w w':=by
 have eU:=ail;have bW:=m_ cG;have cr:=m_ cH;clear cG cH;have HB:=m_ (aim w.heap.size w);have H:=h;unfold qI.f at H;clear h;obtain⟨⟨t150,t151⟩,A4,H⟩:=bE H;dsimp only at H;obtain⟨⟨t152,t153⟩,A5,H⟩:=bE H;dsimp only at H
 by_cases c6:t152=t151
 ·rw[aC c6]at H
  obtain⟨iO,oZ⟩:=dz c6;clear c6;obtain rfl:=aii H;go_enter aju,Try.ntmps223;go_wp2_with (first|((with_reducible refine bV (N:=3) rfl ?_);refine cC (N:=3) (cs:= #[.int .i64 ai, .slice aJ ag.length aI]) (t:=26) ?_;intro U8 hg w7 aE hb;have U7:=m_ (aE);have Va:=m_ ((by rw[hg];exact(aN aT):w.heap.size≤U8));have U9:=m_ ((by rw[hg];exact(aN aT):w.heap.size≤U8));replace HB:=m_ (aG aT hb);clear hb aE hg;have Fm:=aX U7.1;have Fo:=aZ U7.1;have Fp:=ax U7.1 0;have Fq:=ax U7.1 1)|((with_reducible refine bu (f:=108) rfl ?_);refine bz (some 14) ai7 #[.agg #[.int .i64 ai, .slice aJ ag.length aI], .int .i64 a1] ?_;(with_reducible refine(iC.calls ai _ _ ag a1 t150 t151 _ ?aq ?au A4.1).mono ?_);(case aq=>exact Kd.ay (Kd.ay bW.1 HB.1) af);(case au=>exact cr.1);rintro e w9 ⟨rfl,hb⟩;refine⟨_,rfl, ?_⟩;replace U7:=m_ (aW U7.1 hb);replace HB:=m_ (aG aj hb);clear hb;have qM:=aX U7.1;have rR:=aZ U7.1;have qN:=ax U7.1 0;have rS:=ax U7.1 1)|((with_reducible refine bu (f:=108) rfl ?_);refine bz (some 20) ai7 #[.agg #[.int .i64 ai, .slice aJ ag.length aI], .int .i64 a2] ?_;(with_reducible refine(iC.calls ai _ _ ag a2 t152 t153 _ ?aq ?au A5.1).mono ?_);(case aq=>exact Kd.ay (Kd.ay bW.1 HB.1) af);(case au=>exact cr.1);rintro e lq ⟨rfl,hb⟩;refine⟨_,rfl, ?_⟩;replace U7:=m_ (aW U7.1 hb);replace HB:=m_ (aG aj hb);clear hb));go_ret;exact⟨cB,aj⟩
 ·rw[aA c6]at H
  obtain⟨iO,oZ⟩:=dL c6;obtain rfl:=aii H;go_enter aju,Try.ntmps223;go_wp2_with (first|((with_reducible refine bV (N:=3) rfl ?_);refine cC (N:=3) (cs:= #[.int .i64 ai, .slice aJ ag.length aI]) (t:=26) ?_;intro U8 hg nG aE hb;have U7:=m_ (aE);have Va:=m_ ((by rw[hg];exact(aN aT):w.heap.size≤U8));have U9:=m_ ((by rw[hg];exact(aN aT):w.heap.size≤U8));replace HB:=m_ (aG aT hb);clear hb aE hg;have sO:=aX U7.1;have sP:=aZ U7.1;have sQ:=ax U7.1 0;have sR:=ax U7.1 1)|((with_reducible refine bu (f:=108) rfl ?_);refine bz (some 14) ai7 #[.agg #[.int .i64 ai, .slice aJ ag.length aI], .int .i64 a1] ?_;(with_reducible refine(iC.calls ai _ _ ag a1 t150 t151 _ ?aq ?au A4.1).mono ?_);(case aq=>exact Kd.ay (Kd.ay bW.1 HB.1) af);(case au=>exact cr.1);rintro e qu ⟨rfl,hb⟩;refine⟨_,rfl, ?_⟩;replace U7:=m_ (aW U7.1 hb);replace HB:=m_ (aG aj hb);clear hb;have zT:=aX U7.1;have zU:=aZ U7.1;have zV:=ax U7.1 0;have zW:=ax U7.1 1)|((with_reducible refine bu (f:=108) rfl ?_);refine bz (some 20) ai7 #[.agg #[.int .i64 ai, .slice aJ ag.length aI], .int .i64 a2] ?_;(with_reducible refine(iC.calls ai _ _ ag a2 t152 t153 _ ?aq ?au A5.1).mono ?_);(case aq=>exact Kd.ay (Kd.ay bW.1 HB.1) af);(case au=>exact cr.1);rintro e qP ⟨rfl,hb⟩;refine⟨_,rfl, ?_⟩;replace U7:=m_ (aW U7.1 hb);replace HB:=m_ (aG aj hb);clear hb));go_ret;exact⟨cB,aj⟩

mutual
def gy.j0:Nat→List Int→Bool→Int→List (List Int)→Option (Bool)
 | 0,_,_,_,_=>none
 | k+1,x1,jZ,F2,F3=>if jZ=true then (some false) else (gy.l0 k x1 1 F2 F3)
def gy.l0:Nat→List Int→Int→Int→List (List Int)→Option (Bool)
 | 0,_,_,_,_=>none
 | k+1,x1,x5,F2,F3=>if x5<(x1.length:Int) then (if 0≤(wrap64 (x5 - 1)) then (if (wrap64 (x5 - 1))<(x1.length:Int) then (if 0≤x5 then ((qI.f F2 F3 (rd x1 (wrap64 (x5 - 1))) (rd x1 x5)).bind fun t159=>(if t159=true then (gy.l0 k x1 (wrap64 (x5+1)) F2 F3) else (some false))) else (none)) else (none)) else (none)) else (some true)
end
def gy.f (k:Nat) (ai:Int) (ag:List (List Int)) (l1:List Int):Option (Bool):=(jR.f (l1.length:Int) 1 12).bind fun t155=>(if t155=true then ((xI.f k ai ag l1).bind fun t156=>(gy.j0 k l1 (!t156) ai ag)) else (gy.j0 k l1 true ai ag))
def gy.T6:Bool×List (List Nat×List Nat):=(true,[([],[]),([],[]),([],[]),([2],[2]),([1,3],[1,3]),([4],[4]),([],[]),([],[]),([6,7],[6,7]),([8],[8]),([0,5,9],[0,5,9]),([10],[10])])
def gy.B6:List Nat:=[0,0,0,4,14,30,0,0,192,448,1023,2047]
theorem gy.tab6:e7 .any (opsOf Try.f155 6)=gy.T6:=by kernel_rfl
theorem gy.qw:iV gy.T6.2 gy.B6=true:=by kernel_rfl
theorem gy.calls (k:Nat) (ai:Int) (aJ:Option Addr) (aI:Nat) (ag:List (List Int)) (A1:Option Addr) (c1:Nat) (l1:List Int) (r:Bool) (w:World) (cG:Kd.C (Kd.slice 2 (Kd.int .i64)) w aJ ag.length ag) (cH:ag.length≤aI) (hr1:Kd.C (Kd.int .i64) w A1 l1.length l1) (hc1:l1.length≤c1) (h:gy.f k ai ag l1=some r):
  Calls aip 155 #[.agg #[.int .i64 ai, .slice aJ ag.length aI], .slice A1 l1.length c1] w fun e w'=>e= .returned (.bool r)∧Below w.heap.size w w':=by
 have eU:=ail;have bW:=m_ cG;have cr:=m_ cH;clear cG cH;have cQ:=m_ hr1;have dS:=m_ hc1;clear hr1 hc1;have HB:=m_ (aim w.heap.size w);have H:=h;unfold gy.f at H;clear h;have yC:=m_ H;clear H;go_enter Try.func155,Try.ntmps155;go_upto_region 1 with (first|((with_reducible refine bV (N:=2) rfl ?_);refine cC (N:=2) (cs:= #[.int .i64 ai, .slice aJ ag.length aI]) (t:=26) ?_;intro Vd hg w4 aE hb;have U7:=m_ (aE);have Vk:=m_ ((by rw[hg];exact(aN aT):w.heap.size≤Vd));have Vj:=m_ ((by rw[hg];exact(aN aT):w.heap.size≤Vd));replace HB:=m_ (aG aT hb);clear hb aE hg))
 (try simp only[aiP,aiu,List.set_cons_zero,List.set_cons_succ]);go_cut [15] (fun rW wc=>∃(kq:Nat) (Vg:Bool),rW= .bool Vg∧ak (gy.j0 kq l1 Vg ai ag=some r)∧ak (kq≤k)∧ak (wc.heap[Vd]? =some (.cells #[.int .i64 ai,(.slice aJ ag.length aI)] 26 (0,0)))∧ak (Below w.heap.size w wc))
 case first=>
  have H:=yC.1;clear yC;obtain⟨t155,A5,H⟩:=bE H
  by_cases c6:t155=true
  ·subst c6
   rw[aC rfl]at H;obtain⟨t156,A7,H⟩:=bE H;have H':=m_ H;clear H;go_wp2_with (first|((with_reducible refine bu (f:=106) rfl ?_);refine bz (some 8) ajs #[.int .i64 (l1.length:Int), .int .i64 1, .int .i64 12] ?_;(with_reducible refine(jR.calls (l1.length:Int) 1 12 true _ A5.1).mono ?_);rintro e w' ⟨rfl,⟨nd,rfl⟩⟩;refine⟨_,rfl, ?_⟩;have Fm:=aX U7.1;have Fo:=aZ U7.1;have Fp:=ax U7.1 0;have Fq:=ax U7.1 1)|(go_at_call 107;(with_reducible refine(xI.calls k ai _ _ ag _ _ l1 t156 _ ?aq ?au ?bL ?bS A7.1).mono ?_);(case aq=>exact Kd.ay (Kd.ay bW.1 aj) af);(case au=>exact cr.1);(case bL=>exact Kd.ay (Kd.ay cQ.1 aj) af);(case bS=>exact dS.1);rintro e w9 ⟨rfl,hb⟩;replace U7:=m_ (aW U7.1 hb);replace HB:=m_ (aG aj hb);clear hb));go_meet
   case rel=>exact⟨_,(!t156),bA,H',⟨by first|omega|exact ahp _⟩,⟨av U7.1 af⟩,⟨aj⟩⟩
  ·replace c6:=aiq.mpr c6
   subst c6;rw[aA (show ¬(false=true) by decide)]at H;have H':=m_ H;clear H;go_wp2_with (first|((with_reducible refine bu (f:=106) rfl ?_);refine bz (some 8) ajs #[.int .i64 (l1.length:Int), .int .i64 1, .int .i64 12] ?_;(with_reducible refine(jR.calls (l1.length:Int) 1 12 false _ A5.1).mono ?_);rintro e w' ⟨rfl,⟨nd,rfl⟩⟩;refine⟨_,rfl, ?_⟩));go_meet
   case rel=>exact⟨_,(true),bA,H',⟨by first|omega|exact ahp _⟩,⟨av U7.1 af⟩,⟨aj⟩⟩
 case rest=>
  clear yC;obtain⟨kq,Vg,rfl,HA,yE,U7,HB⟩:=hcut;cases kq with
  | zero=>exact absurd HA.1 (by simp[gy.j0])
  | succ CV=>
   have H:=HA.1;clear HA;simp only[gy.j0]at H
   by_cases c10:Vg=true
   ·subst c10
    rw[aC rfl]at H;obtain rfl:=aii H;go_wp2;go_ret;exact⟨cB,aj⟩
   ·replace c10:=aiq.mpr c10
    subst c10;rw[aA (show ¬(false=true) by decide)]at H;have H':=m_ H;clear H;go_wp2;go_loopg [5] CV (fun kq v5 w'=>∃(eT:Int),v5= .int .i64 eT∧ak (gy.l0 kq l1 eT ai ag=some r)∧ak (kq≤CV)∧ak (w'.heap[Vd]? =some (.cells #[.int .i64 ai,(.slice aJ ag.length aI)] 26 (0,0)))∧ak (Below w.heap.size w w'))
    case atStart=>exact⟨(1),bA,H',⟨ahp _⟩,⟨av U7.1 af⟩,⟨aj⟩⟩
    case round=>
     clear H';obtain⟨eT,rfl,HA,cP,U7,HB⟩:=hrel;cases gk with
     | zero=>exact absurd HA.1 (by simp[gy.l0])
     | succ k2=>
      have H:=HA.1;clear HA;simp only[gy.l0]at H
      by_cases c11:eT<(l1.length:Int)
      ·rw[aC c11]at H
       have lN:=aV c11;clear c11;obtain⟨U8,Vc⟩: ∃j_:Int,(wrap64 (eT - 1))=j_:=⟨_,rfl⟩;(try rw[Vc]);replace H:(if 0≤(U8) then (if (U8)<(l1.length:Int) then (if 0≤eT then ((qI.f ai ag (rd l1 (U8)) (rd l1 eT)).bind fun t159=>(if t159=true then (gy.l0 k2 l1 (wrap64 (eT+1)) ai ag) else (some false))) else (none)) else (none)) else (none))=some r:=by first|(rw[Vc]at H;exact H)|(simp only[Vc]at H ⊢;exact H)
       have Vl:(aiS.wrap (eT - 1))=U8:=(ez _).trans Vc;obtain⟨c13,H⟩:=bN H;have pR:=aV c13;clear c13;obtain⟨c14,H⟩:=bN H;have nJ:=aV c14;clear c14;obtain⟨c15,H⟩:=bN H;have l9:=aV c15;clear c15;obtain⟨t159,rX,H⟩:=bE H
       by_cases c17:t159=true
       ·subst c17
        rw[aC rfl]at H;have H':=m_ H;clear H
        try go_wp2
        replace U7:=m_ (bK U7.1);replace HB:=m_ (fE HB.1);have rB:0≤((U8):Int):=aD;have rC:(U8)<(l1.length:Int):=aD;obtain⟨xb,D4,nS⟩:=Kd.dA cQ.1 (U8) rB rC;have Va:=nS;cases D4;replace nS:=(HB.1.cell (air w _ nS)).trans nS;replace rB:=aH rB;replace rC:=aH rC;have Vf:0≤(eT:Int):=aD;have Ve:eT<(l1.length:Int):=aD;obtain⟨Vi,Vh,U9⟩:=Kd.dA cQ.1 eT Vf Ve;have Vb:=U9;obtain rfl:xb=Vi:=(by injection Vh);replace U9:=(HB.1.cell (air w _ U9)).trans U9;replace Vf:=aH Vf;replace Ve:=aH Ve;refine gD (n:=12) (S:=fun w'=>w'.cell? ⟨Vd,0,none⟩=some (.int .i64 ai)∧w'.cell? ⟨Vd,1,none⟩=some (.slice aJ ag.length aI)∧w'.cell? (xb.add ((U8)).toNat)=some (.int .i64 (rd l1 (U8)))∧w'.cell? (xb.add (eT).toNat)=some (.int .i64 (rd l1 eT))) (ds:=[]) #[false,false,false,false,false,false,false,false,false,false,false,false] aU rfl rfl ⟨aX U7.1,aZ U7.1,((HB.1.cell (air _ _ Va)).trans Va),((HB.1.cell (air _ _ Vb)).trans Vb)⟩ (fun hHeld=> ?_);refine iW gy.tab6 gy.qw (fun dN hU=> ?_);generalize wr.drew=pS at U7 HB nS U9 hHeld ⊢;refine bh 1 12 23 2 ?_;refine bh 2 12 24 6 ?_;refine bh 3 12 25 14 ?_;refine bh 4 12 26 30 ?_;refine bh 6 12 28 94 ?_;refine bh 7 12 29 222 ?_;refine bh 8 12 30 478 ?_;refine dD 0 12 22 479 hHeld ?_;refine dD 5 12 27 511 hHeld ?_;refine dD 9 12 31 1023 hHeld ?_;refine fZ 10 12 (some 32) 2047 (fun K hK=> ?_);refine gI aju aU rfl #[.agg #[.int .i64 ai, .slice aJ ag.length aI], .int .i64 (rd l1 (U8)), .int .i64 (rd l1 eT)] (by rfl) rfl rfl (by(try simp only[aiD,ahb,aiE]);first|done|(simp only[Vc];rfl)|rfl|(simp only[ahL,ahw];rfl)) ?_
        with_reducible refine(qI.calls ai _ _ ag (rd l1 (U8)) (rd l1 eT) true _ ?aq ?au rX.1).mono ?_
        (case aq=>exact Kd.ay (Kd.ay bW.1 HB.1) af);(case au=>exact cr.1);rintro e rV ⟨rfl,hb⟩;refine⟨_,rfl, ?_⟩;replace U7:=m_ (aW U7.1 hb);replace HB:=m_ (aG aj hb);refine hK.out _ _ ⟨aX U7.1,aZ U7.1,((HB.1.cell (air _ _ Va)).trans Va),((HB.1.cell (air _ _ Vb)).trans Vb)⟩ (fun hHeld=> ?_);clear hK K;refine fj ?_;refine bh 11 12 33 4095 ?_;refine gE (iX dN.1 aU) ?_
        try go_wp2
        first|(go_roundg k2)|((try subst Vc);(go_roundg k2))
        case measure=>have:=yE.1;have:=cP.1;omega
        case rel=>exact⟨(wrap64 (eT+1)),bA,H',⟨by have:=yE.1;have:=cP.1;omega⟩,⟨av U7.1 af⟩,⟨aj⟩⟩
       ·replace c17:=aiq.mpr c17
        subst c17;rw[aA (show ¬(false=true) by decide)]at H;obtain rfl:=aii H
        try go_wp2
        replace U7:=m_ (bK U7.1);replace HB:=m_ (fE HB.1);have rB:0≤((U8):Int):=aD;have rC:(U8)<(l1.length:Int):=aD;obtain⟨xb,D4,nS⟩:=Kd.dA cQ.1 (U8) rB rC;have Va:=nS;cases D4;replace nS:=(HB.1.cell (air w _ nS)).trans nS;replace rB:=aH rB;replace rC:=aH rC;have Vf:0≤(eT:Int):=aD;have Ve:eT<(l1.length:Int):=aD;obtain⟨Vi,Vh,U9⟩:=Kd.dA cQ.1 eT Vf Ve;have Vb:=U9;obtain rfl:xb=Vi:=(by injection Vh);replace U9:=(HB.1.cell (air w _ U9)).trans U9;replace Vf:=aH Vf;replace Ve:=aH Ve;refine gD (n:=12) (S:=fun w'=>w'.cell? ⟨Vd,0,none⟩=some (.int .i64 ai)∧w'.cell? ⟨Vd,1,none⟩=some (.slice aJ ag.length aI)∧w'.cell? (xb.add ((U8)).toNat)=some (.int .i64 (rd l1 (U8)))∧w'.cell? (xb.add (eT).toNat)=some (.int .i64 (rd l1 eT))) (ds:=[]) #[false,false,false,false,false,false,false,false,false,false,false,false] aU rfl rfl ⟨aX U7.1,aZ U7.1,((HB.1.cell (air _ _ Va)).trans Va),((HB.1.cell (air _ _ Vb)).trans Vb)⟩ (fun hHeld=> ?_);refine iW gy.tab6 gy.qw (fun dN hU=> ?_);generalize wr.drew=pV at U7 HB nS U9 hHeld ⊢;refine bh 1 12 23 2 ?_;refine bh 2 12 24 6 ?_;refine bh 3 12 25 14 ?_;refine bh 4 12 26 30 ?_;refine bh 6 12 28 94 ?_;refine bh 7 12 29 222 ?_;refine bh 8 12 30 478 ?_;refine dD 0 12 22 479 hHeld ?_;refine dD 5 12 27 511 hHeld ?_;refine dD 9 12 31 1023 hHeld ?_;refine fZ 10 12 (some 32) 2047 (fun K hK=> ?_);refine gI aju aU rfl #[.agg #[.int .i64 ai, .slice aJ ag.length aI], .int .i64 (rd l1 (U8)), .int .i64 (rd l1 eT)] (by rfl) rfl rfl (by(try simp only[aiD,ahb,aiE]);first|done|(simp only[Vc];rfl)|rfl|(simp only[ahL,ahw];rfl)) ?_
        with_reducible refine(qI.calls ai _ _ ag (rd l1 (U8)) (rd l1 eT) false _ ?aq ?au rX.1).mono ?_
        (case aq=>exact Kd.ay (Kd.ay bW.1 HB.1) af);(case au=>exact cr.1);rintro e tf ⟨rfl,hb⟩;refine⟨_,rfl, ?_⟩;replace U7:=m_ (aW U7.1 hb);replace HB:=m_ (aG aj hb);refine hK.out _ _ ⟨aX U7.1,aZ U7.1,((HB.1.cell (air _ _ Va)).trans Va),((HB.1.cell (air _ _ Vb)).trans Vb)⟩ (fun hHeld=> ?_);clear hK K;refine fj ?_;refine bh 11 12 33 4095 ?_;refine gE (iX dN.1 aU) ?_
        try go_wp2
        go_ret;exact⟨by first|rfl|(simp[js,jt]<;>rfl)|(simp only[← Vc];first|rfl|(simp[js,jt]<;>rfl))|(simp[*,js,jt]<;>rfl),aj⟩
      ·rw[aA c11]at H
       have lN:=cz c11;clear c11;obtain rfl:=aii H;go_wp2;go_ret;exact⟨cB,aj⟩

def uk.f (k:Nat) (ai:Int) (ag:List (List Int)) (vk:List Int):Option (Bool):=(gy.f k ai ag vk).bind fun t168=>(some t168)
theorem uk.calls (k:Nat) (wU:Nat) (ai:Int) (aJ:Option Addr) (aI:Nat) (ag:List (List Int)) (eO:Nat) (Va:Option Addr) (U9:Nat) (vk:List Int) (r:Bool) (w:World) (wV:w.heap[wU]? =some (.cells #[.int .i64 ai, .slice aJ ag.length aI] 26 (0,0))) (cG:Kd.C (Kd.slice 2 (Kd.int .i64)) w aJ ag.length ag) (cH:ag.length≤aI) (kn:w.heap[eO]? =some (.cells #[.slice Va vk.length U9] 29 (0,0))) (Vc:Kd.C (Kd.int .i64) w Va vk.length vk) (Vb:vk.length≤U9) (h:uk.f k ai ag vk=some r):
  Calls aip 224 #[.pointer (some ⟨wU,0,none⟩), .pointer (some ⟨eO,0,none⟩)] w fun e w'=>e= .returned (.bool r)∧Below w.heap.size w w':=by
 have eU:=ail;have bW:=m_ cG;have cr:=m_ cH;clear cG cH;have Ve:=m_ Vc;have Vd:=m_ Vb;clear Vc Vb;have U7:=m_ wV;clear wV;have U8:=m_ kn;clear kn;have HB:=m_ (aim w.heap.size w);have H:=h;unfold uk.f at H;clear h;obtain⟨t168,A3,H⟩:=bE H;obtain rfl:=aii H;have aaI:=aX U7.1;have aaJ:=aZ U7.1;have aaK:=ax U7.1 0;have aaL:=ax U7.1 1;have FQ:=aX U8.1;have FR:=ax U8.1 0;go_enter Try.func224,Try.ntmps224;go_wp2_with (first|((with_reducible refine bu (f:=155) rfl ?_);refine bz (some 5) Try.func155 #[.agg #[.int .i64 ai, .slice aJ ag.length aI], .slice Va vk.length U9] ?_;(with_reducible refine(gy.calls k ai _ _ ag _ _ vk t168 _ ?aq ?au ?bL ?bS A3.1).mono ?_);(case aq=>exact Kd.ay bW.1 af);(case au=>exact cr.1);(case bL=>exact Kd.ay Ve.1 af);(case bS=>exact Vd.1);rintro e w6 ⟨rfl,hb⟩;refine⟨_,rfl, ?_⟩;replace U7:=m_ (aW U7.1 hb);replace U8:=m_ (aW U8.1 hb);replace HB:=m_ (aG aj hb);clear hb));go_ret;exact⟨cB,aj⟩

def uj.f (k:Nat) (ai:Int) (ag:List (List Int)) (cK:Int) (cw:List (List Int)) (mU:List Int):Option (Int):=(jo.f k ai ag).bind fun t172=>(if t172=true then ((uk.f k cK cw mU).bind fun t173=>(if t173=true then (some 0) else (some 2))) else (some 1))
theorem uj.calls (k:Nat) (ai:Int) (aJ:Option Addr) (aI:Nat) (ag:List (List Int)) (eO:Nat) (lG:Nat) (cK:Int) (eH:Option Addr) (eI:Nat) (cw:List (List Int)) (uW:Option Addr) (uX:Nat) (mU:List Int) (r:Int) (w:World) (cG:Kd.C (Kd.slice 2 (Kd.int .i64)) w aJ ag.length ag) (cH:ag.length≤aI) (kn:w.heap[eO]? =some (.cells #[.int .i64 cK, .slice eH cw.length eI] 26 (0,0))) (DX:w.heap[lG]? =some (.cells #[.slice uW mU.length uX] 29 (0,0))) (mo:Kd.C (Kd.slice 2 (Kd.int .i64)) w eH cw.length cw) (mq:cw.length≤eI) (DY:Kd.C (Kd.int .i64) w uW mU.length mU) (DZ:mU.length≤uX) (h:uj.f k ai ag cK cw mU=some r):
  Calls aip 123 #[.agg #[.int .i64 ai, .slice aJ ag.length aI], .func (.func 224) #[] #[.pointer (some ⟨eO,0,none⟩), .pointer (some ⟨lG,0,none⟩)]] w fun e w'=>e= .returned (.int .i64 r)∧Below w.heap.size w w':=by
 have eU:=ail;have bW:=m_ cG;have cr:=m_ cH;clear cG cH;have pI:=m_ mo;have pJ:=m_ mq;clear mo mq;have D1:=m_ DY;have D2:=m_ DZ;clear DY DZ;have U9:=m_ kn;clear kn;have U8:=m_ DX;clear DX;have HB:=m_ (aim w.heap.size w);have H:=h;unfold uj.f at H;clear h;obtain⟨t172,A3,H⟩:=bE H
 by_cases c4:t172=true
 ·subst c4
  rw[aC rfl]at H;obtain⟨t173,A5,H⟩:=bE H
  by_cases c6:t173=true
  ·subst c6
   rw[aC rfl]at H;obtain rfl:=aii H;go_enter aiZ,Try.ntmps123;go_wp2_with (first|((with_reducible refine bV (N:=2) rfl ?_);refine cC (N:=2) (cs:= #[.int .i64 ai, .slice aJ ag.length aI]) (t:=26) ?_;intro Va hg w7 aE hb;have U7:=m_ (aE);have Vg:=m_ ((by rw[hg];exact(aN aj):w.heap.size≤Va));have Vf:=m_ ((by rw[hg];exact(aN aj):w.heap.size≤Va));replace HB:=m_ (aG aj hb);have Vc:=m_ ((by rw[hg];exact ais (dZ (av U9.1 af)):eO≠Va));have Ve:=m_ Vc.1.symm;replace U9:=m_ (aW U9.1 hb);have Vb:=m_ ((by rw[hg];exact ais (dZ (av U8.1 af)):lG≠Va));have Vd:=m_ Vb.1.symm;replace U8:=m_ (aW U8.1 hb);clear hb aE hg;have uu:=Ve.1;have uw:=Vc.1;have xR:=Vd.1;have xS:=Vb.1;have qM:=aX U7.1;have rR:=aZ U7.1;have qN:=ax U7.1 0;have rS:=ax U7.1 1)|((with_reducible refine bu (f:=136) rfl ?_);refine bz (some 7) ai2 #[.agg #[.int .i64 ai, .slice aJ ag.length aI]] ?_;(with_reducible refine(jo.calls k ai _ _ ag true _ ?aq ?au A3.1).mono ?_);(case aq=>exact Kd.ay (Kd.ay bW.1 HB.1) af);(case au=>exact cr.1);rintro e lq ⟨rfl,hb⟩;refine⟨_,rfl, ?_⟩;replace U9:=m_ (aW U9.1 hb);replace U8:=m_ (aW U8.1 hb);replace U7:=m_ (aW U7.1 hb);replace HB:=m_ (aG aj hb);clear hb)|((with_reducible refine tH (t:=10) rfl ?_);refine tI (some 11) rfl rfl Try.func224 aU rfl (lb:= #[.pointer (some ⟨eO,0,none⟩), .pointer (some ⟨lG,0,none⟩)]) #[.pointer (some ⟨eO,0,none⟩), .pointer (some ⟨lG,0,none⟩)] rfl (by first|rfl|(simp;done)) (by(try simp only[aiD,ahb,aiE,aiX,aiY,ag9]);first|done|rfl|(simp only[ahL,ahw];rfl)) ?_;(with_reducible refine(uk.calls k eO cK eH eI cw lG uW uX mU true _ ?aq ?au ?bL ?bS ?gz ?sx A5.1).mono ?_);(case aq=>exact(av U9.1 af));(case au=>exact Kd.ay (Kd.ay pI.1 HB.1) af);(case bL=>exact pJ.1);(case bS=>exact(av U8.1 af));(case gz=>exact Kd.ay (Kd.ay D1.1 HB.1) af);(case sx=>exact D2.1);rintro e nG ⟨rfl,hb⟩;refine⟨_,rfl, ?_⟩;replace U9:=m_ (aW U9.1 hb);replace U8:=m_ (aW U8.1 hb);replace U7:=m_ (aW U7.1 hb);replace HB:=m_ (aG aj hb);clear hb));go_ret;exact⟨cB,aj⟩
  ·replace c6:=aiq.mpr c6
   subst c6;rw[aA (show ¬(false=true) by decide)]at H;obtain rfl:=aii H;go_enter aiZ,Try.ntmps123;go_wp2_with (first|((with_reducible refine bV (N:=2) rfl ?_);refine cC (N:=2) (cs:= #[.int .i64 ai, .slice aJ ag.length aI]) (t:=26) ?_;intro Va hg mG aE hb;have U7:=m_ (aE);have Vg:=m_ ((by rw[hg];exact(aN aj):w.heap.size≤Va));have Vf:=m_ ((by rw[hg];exact(aN aj):w.heap.size≤Va));replace HB:=m_ (aG aj hb);have Vc:=m_ ((by rw[hg];exact ais (dZ (av U9.1 af)):eO≠Va));have Ve:=m_ Vc.1.symm;replace U9:=m_ (aW U9.1 hb);have Vb:=m_ ((by rw[hg];exact ais (dZ (av U8.1 af)):lG≠Va));have Vd:=m_ Vb.1.symm;replace U8:=m_ (aW U8.1 hb);clear hb aE hg;have Ui:=Ve.1;have Uj:=Vc.1;have abf:=Vd.1;have abg:=Vb.1;have DB:=aX U7.1;have DC:=aZ U7.1;have DD:=ax U7.1 0;have DE:=ax U7.1 1)|((with_reducible refine bu (f:=136) rfl ?_);refine bz (some 7) ai2 #[.agg #[.int .i64 ai, .slice aJ ag.length aI]] ?_;(with_reducible refine(jo.calls k ai _ _ ag true _ ?aq ?au A3.1).mono ?_);(case aq=>exact Kd.ay (Kd.ay bW.1 HB.1) af);(case au=>exact cr.1);rintro e oA ⟨rfl,hb⟩;refine⟨_,rfl, ?_⟩;replace U9:=m_ (aW U9.1 hb);replace U8:=m_ (aW U8.1 hb);replace U7:=m_ (aW U7.1 hb);replace HB:=m_ (aG aj hb);clear hb)|((with_reducible refine tH (t:=10) rfl ?_);refine tI (some 11) rfl rfl Try.func224 aU rfl (lb:= #[.pointer (some ⟨eO,0,none⟩), .pointer (some ⟨lG,0,none⟩)]) #[.pointer (some ⟨eO,0,none⟩), .pointer (some ⟨lG,0,none⟩)] rfl (by first|rfl|(simp;done)) (by(try simp only[aiD,ahb,aiE,aiX,aiY,ag9]);first|done|rfl|(simp only[ahL,ahw];rfl)) ?_;(with_reducible refine(uk.calls k eO cK eH eI cw lG uW uX mU false _ ?aq ?au ?bL ?bS ?gz ?sx A5.1).mono ?_);(case aq=>exact(av U9.1 af));(case au=>exact Kd.ay (Kd.ay pI.1 HB.1) af);(case bL=>exact pJ.1);(case bS=>exact(av U8.1 af));(case gz=>exact Kd.ay (Kd.ay D1.1 HB.1) af);(case sx=>exact D2.1);rintro e pS ⟨rfl,hb⟩;refine⟨_,rfl, ?_⟩;replace U9:=m_ (aW U9.1 hb);replace U8:=m_ (aW U8.1 hb);replace U7:=m_ (aW U7.1 hb);replace HB:=m_ (aG aj hb);clear hb));go_ret;exact⟨cB,aj⟩
 ·replace c4:=aiq.mpr c4
  subst c4;rw[aA (show ¬(false=true) by decide)]at H;obtain rfl:=aii H;go_enter aiZ,Try.ntmps123;go_wp2_with (first|((with_reducible refine bV (N:=2) rfl ?_);refine cC (N:=2) (cs:= #[.int .i64 ai, .slice aJ ag.length aI]) (t:=26) ?_;intro Va hg rV aE hb;have U7:=m_ (aE);have Vg:=m_ ((by rw[hg];exact(aN aj):w.heap.size≤Va));have Vf:=m_ ((by rw[hg];exact(aN aj):w.heap.size≤Va));replace HB:=m_ (aG aj hb);have Vc:=m_ ((by rw[hg];exact ais (dZ (av U9.1 af)):eO≠Va));have Ve:=m_ Vc.1.symm;replace U9:=m_ (aW U9.1 hb);have Vb:=m_ ((by rw[hg];exact ais (dZ (av U8.1 af)):lG≠Va));have Vd:=m_ Vb.1.symm;replace U8:=m_ (aW U8.1 hb);clear hb aE hg;have aaY:=Ve.1;have aaZ:=Vc.1;have Vh:=Vd.1;have Vi:=Vb.1;have DJ:=aX U7.1;have DK:=aZ U7.1;have DL:=ax U7.1 0;have DM:=ax U7.1 1)|((with_reducible refine bu (f:=136) rfl ?_);refine bz (some 7) ai2 #[.agg #[.int .i64 ai, .slice aJ ag.length aI]] ?_;(with_reducible refine(jo.calls k ai _ _ ag false _ ?aq ?au A3.1).mono ?_);(case aq=>exact Kd.ay (Kd.ay bW.1 HB.1) af);(case au=>exact cr.1);rintro e qV ⟨rfl,hb⟩;refine⟨_,rfl, ?_⟩;replace U9:=m_ (aW U9.1 hb);replace U8:=m_ (aW U8.1 hb);replace U7:=m_ (aW U7.1 hb);replace HB:=m_ (aG aj hb);clear hb));go_ret;exact⟨cB,aj⟩

def kF.f (k:Nat) (ai:Int) (ag:List (List Int)) (l1:List Int):Option (Int):=(uj.f k ai ag ai ag l1).bind fun t176=>(some t176)
theorem kF.calls (k:Nat) (ai:Int) (aJ:Option Addr) (aI:Nat) (ag:List (List Int)) (A1:Option Addr) (c1:Nat) (l1:List Int) (r:Int) (w:World) (cG:Kd.C (Kd.slice 2 (Kd.int .i64)) w aJ ag.length ag) (cH:ag.length≤aI) (hr1:Kd.C (Kd.int .i64) w A1 l1.length l1) (hc1:l1.length≤c1) (h:kF.f k ai ag l1=some r):
  Calls aip 133 #[.agg #[.int .i64 ai, .slice aJ ag.length aI], .slice A1 l1.length c1] w fun e w'=>e= .returned (.int .i64 r)∧Below w.heap.size w w':=by
 have eU:=ail;have bW:=m_ cG;have cr:=m_ cH;clear cG cH;have cQ:=m_ hr1;have dS:=m_ hc1;clear hr1 hc1;have HB:=m_ (aim w.heap.size w);have H:=h;unfold kF.f at H;clear h;obtain⟨t176,A3,H⟩:=bE H;obtain rfl:=aii H;go_enter Try.func133,Try.ntmps133;go_wp2_with (first|((with_reducible refine bV (N:=2) rfl ?_);refine cC (N:=2) (cs:= #[.int .i64 ai, .slice aJ ag.length aI]) (t:=26) ?_;intro U9 hg w4 aE hb;have U7:=m_ (aE);have Vf:=m_ ((by rw[hg];exact(aN aT):w.heap.size≤U9));have Vh:=m_ ((by rw[hg];exact(aN aT):w.heap.size≤U9));replace HB:=m_ (aG aT hb);clear hb aE hg)|((with_reducible refine bV (N:=3) rfl ?_);refine cC (N:=3) (cs:= #[.slice A1 l1.length c1]) (t:=29) ?_;intro U8 hg w5 aE hb;have Va:=m_ (aE);have Ve:=m_ ((by rw[hg];exact(aN aj):w.heap.size≤U8));have Vg:=m_ ((by rw[hg];exact(aN aj):w.heap.size≤U8));replace HB:=m_ (aG aj hb);have Vb:=m_ ((by rw[hg];exact ais (dZ (av U7.1 af)):U9≠U8));have Vd:=m_ Vb.1.symm;replace U7:=m_ (aW U7.1 hb);clear hb aE hg;have Uk:=Vb.1;have Ul:=Vd.1;have qO:=aX U7.1;have sS:=aZ U7.1;have rT:=ax U7.1 0;have sU:=ax U7.1 1)|((with_reducible refine bu (f:=123) rfl ?_);refine bz (some 7) aiZ #[.agg #[.int .i64 ai, .slice aJ ag.length aI], .func (.func 224) #[] #[.pointer (some ⟨U9,0,none⟩), .pointer (some ⟨U8,0,none⟩)]] ?_;(with_reducible refine(uj.calls k ai _ _ ag U9 U8 ai aJ aI ag A1 c1 l1 t176 _ ?aq ?au ?bL ?bS ?gz ?sx ?Dz ?Vc A3.1).mono ?_);(case aq=>exact Kd.ay (Kd.ay bW.1 HB.1) af);(case au=>exact cr.1);(case bL=>exact(av U7.1 af));(case bS=>exact(av Va.1 af));(case gz=>exact Kd.ay (Kd.ay bW.1 HB.1) af);(case sx=>exact cr.1);(case Dz=>exact Kd.ay (Kd.ay cQ.1 HB.1) af);(case Vc=>exact dS.1);rintro e w8 ⟨rfl,hb⟩;refine⟨_,rfl, ?_⟩;replace U7:=m_ (aW U7.1 hb);replace Va:=m_ (aW Va.1 hb);replace HB:=m_ (aG aj hb);clear hb));go_ret;exact⟨cB,aj⟩

def qi.f (k:Nat) (ai:Int) (ag:List (List Int)) (l1:List Int):Option (Bool×Int):=(kF.f k ai ag l1).bind fun t178=>(if t178=0 then ((oV.f k ai ag l1).bind fun t179=>(some (t179,0))) else (some (false,t178)))
theorem qi.calls (k:Nat) (ai:Int) (aJ:Option Addr) (aI:Nat) (ag:List (List Int)) (A1:Option Addr) (c1:Nat) (l1:List Int) (r1:Bool) (r2:Int) (w:World) (cG:Kd.C (Kd.slice 2 (Kd.int .i64)) w aJ ag.length ag) (cH:ag.length≤aI) (hr1:Kd.C (Kd.int .i64) w A1 l1.length l1) (hc1:l1.length≤c1) (h:qi.f k ai ag l1=some (r1,r2)):
  Calls aip 24 #[.agg #[.int .i64 ai, .slice aJ ag.length aI], .slice A1 l1.length c1] w fun e w'=>e= .returned (.tuple #[.bool r1, .int .i64 r2])∧Below w.heap.size w w':=by
 have eU:=ail;have bW:=m_ cG;have cr:=m_ cH;clear cG cH;have cQ:=m_ hr1;have dS:=m_ hc1;clear hr1 hc1;have HB:=m_ (aim w.heap.size w);have H:=h;unfold qi.f at H;clear h;obtain⟨t178,A3,H⟩:=bE H
 by_cases c4:t178=0
 ·rw[aC c4]at H
  obtain⟨dW,iF⟩:=dz c4;clear c4;obtain⟨t179,A5,H⟩:=bE H;simp only[ain,aio]at H;obtain⟨rfl,rfl⟩:=H;go_enter Try.func24,Try.ntmps24;go_wp2_with (first|((with_reducible refine bV (N:=2) rfl ?_);refine cC (N:=2) (cs:= #[.int .i64 ai, .slice aJ ag.length aI]) (t:=26) ?_;intro U8 hg w6 aE hb;have U7:=m_ (aE);have Va:=m_ ((by rw[hg];exact(aN aT):w.heap.size≤U8));have U9:=m_ ((by rw[hg];exact(aN aT):w.heap.size≤U8));replace HB:=m_ (aG aT hb);clear hb aE hg;have qO:=aX U7.1;have sS:=aZ U7.1;have rT:=ax U7.1 0;have sU:=ax U7.1 1)|((with_reducible refine bu (f:=133) rfl ?_);refine bz (some 9) Try.func133 #[.agg #[.int .i64 ai, .slice aJ ag.length aI], .slice A1 l1.length c1] ?_;(with_reducible refine(kF.calls k ai _ _ ag _ _ l1 t178 _ ?aq ?au ?bL ?bS A3.1).mono ?_);(case aq=>exact Kd.ay (Kd.ay bW.1 HB.1) af);(case au=>exact cr.1);(case bL=>exact Kd.ay (Kd.ay cQ.1 HB.1) af);(case bS=>exact dS.1);rintro e w8 ⟨rfl,hb⟩;refine⟨_,rfl, ?_⟩;replace U7:=m_ (aW U7.1 hb);replace HB:=m_ (aG aj hb);clear hb;have oo:=aX U7.1;have o5:=aZ U7.1;have o6:=ax U7.1 0;have o7:=ax U7.1 1)|((with_reducible refine bu (f:=115) rfl ?_);refine bz (some 15) Try.func115 #[.agg #[.int .i64 ai, .slice aJ ag.length aI], .slice A1 l1.length c1] ?_;(with_reducible refine(oV.calls k ai _ _ ag _ _ l1 t179 _ ?aq ?au ?bL ?bS A5.1).mono ?_);(case aq=>exact Kd.ay (Kd.ay bW.1 HB.1) af);(case au=>exact cr.1);(case bL=>exact Kd.ay (Kd.ay cQ.1 HB.1) af);(case bS=>exact dS.1);rintro e iP ⟨rfl,hb⟩;refine⟨_,rfl, ?_⟩;replace U7:=m_ (aW U7.1 hb);replace HB:=m_ (aG aj hb);clear hb))
  go_ret2
  exact⟨cB,aj⟩
 ·rw[aA c4]at H
  obtain⟨dW,iF⟩:=dL c4;simp only[ain,aio]at H;obtain⟨rfl,rfl⟩:=H;go_enter Try.func24,Try.ntmps24;go_wp2_with (first|((with_reducible refine bV (N:=2) rfl ?_);refine cC (N:=2) (cs:= #[.int .i64 ai, .slice aJ ag.length aI]) (t:=26) ?_;intro U8 hg lq aE hb;have U7:=m_ (aE);have Va:=m_ ((by rw[hg];exact(aN aT):w.heap.size≤U8));have U9:=m_ ((by rw[hg];exact(aN aT):w.heap.size≤U8));replace HB:=m_ (aG aT hb);clear hb aE hg;have ux:=aX U7.1;have vQ:=aZ U7.1;have uy:=ax U7.1 0;have vR:=ax U7.1 1)|((with_reducible refine bu (f:=133) rfl ?_);refine bz (some 9) Try.func133 #[.agg #[.int .i64 ai, .slice aJ ag.length aI], .slice A1 l1.length c1] ?_;(with_reducible refine(kF.calls k ai _ _ ag _ _ l1 t178 _ ?aq ?au ?bL ?bS A3.1).mono ?_);(case aq=>exact Kd.ay (Kd.ay bW.1 HB.1) af);(case au=>exact cr.1);(case bL=>exact Kd.ay (Kd.ay cQ.1 HB.1) af);(case bS=>exact dS.1);rintro e mG ⟨rfl,hb⟩;refine⟨_,rfl, ?_⟩;replace U7:=m_ (aW U7.1 hb);replace HB:=m_ (aG aj hb);clear hb))
  go_ret2
  exact⟨cB,aj⟩

def ah (w0 W:World) (g:Nat) (f0:List Int) (f1:Int) (f2:Int):Prop:=∃A0 c0,W.heap[g]? =some (.cells #[.slice A0 f0.length c0, .int .i64 f1, .int .u64 f2] 131 (0,0))∧w0.heap.size≤g∧Kd.C (Kd.int .u8) w0 A0 f0.length f0
theorem ah.grown {w0 W:World} {g:Nat} {f0:List Int} {f1:Int} {f2:Int} {W1:World} {row:Option Nat} (h:ah w0 W g f0 f1 f2) (hw:W.grownBy W1 row) (hne:some g≠row):ah w0 W1 g f0 f1 f2:=by
 obtain⟨A0,c0,hb,hg,hr0⟩:=h;exact⟨A0,c0,fG hb hw hne,hg,hr0⟩
theorem ah.Ah {w0 W:World} {g:Nat} {f0:List Int} {f1:Int} {f2:Int} {α:Type} {d:Kd α} {e:Nat} {base:Nat} {ok:Nat→Prop} {v:Value} {xs:List α} (h:ah w0 W g f0 f1 f2) (ho:Kd.N d e W base ok v xs) (ht:e≠131):some g≠v.ownBlock:=by
 obtain⟨A0,c0,hb,hg,hr0⟩:=h;exact Kd.C9 ho hb ht
theorem ah.fresh {w0 W:World} {g:Nat} {f0:List Int} {f1:Int} {f2:Int} (h:ah w0 W g f0 f1 f2): ∀k,W.heap.size≤k→k≠g:=by
 obtain⟨A0,c0,hb,hg,hr0⟩:=h;exact Kd.ic hb
theorem ah.below {w0 W:World} {g:Nat} {f0:List Int} {f1:Int} {f2:Int} {W1:World} (h:ah w0 W g f0 f1 f2) (hw:Below W.heap.size W W1):ah w0 W1 g f0 f1 f2:=h.grown (Pj hw none) bJ
theorem ah.alloc {w0 W:World} {g:Nat} {f0:List Int} {f1:Int} {f2:Int} (h:ah w0 W g f0 f1 f2) (o:Obj):ah w0 (W.alloc o) g f0 f1 f2:=h.below (jC (aim _ _) o)
theorem ah.drewN {w0 W:World} {g:Nat} {f0:List Int} {f1:Int} {f2:Int} (h:ah w0 W g f0 f1 f2) (m:Nat):ah w0 (W.drewN m) g f0 f1 f2:=h
theorem ah.drew {w0 W:World} {g:Nat} {f0:List Int} {f1:Int} {f2:Int} (h:ah w0 W g f0 f1 f2):ah w0 W.drew g f0 f1 f2:=h
theorem ah.apart {w0 W:World} {g:Nat} {f0:List Int} {f1:Int} {f2:Int} {α:Type} {d:Kd α} {e:Nat} {base:Nat} {ok:Nat→Prop} {v:Value} {xs:List α} (h:ah w0 W g f0 f1 f2) (ho:d.R e W base ok v xs) (ht: ∀q,q∈e :: d.E→q≠131):d.R e W base (fun k=>ok k∧k≠g) v xs:=by
 obtain⟨A0,c0,hb,hg,hr0⟩:=h;exact Kd.qb ho hb ht
theorem ah.l7 {w0 W:World} {g:Nat} {f0:List Int} {f1:Int} {f2:Int} {α:Type} {d:Kd α} {e:Nat} {base:Nat} {ok:Nat→Prop} {v:Value} {xs:List α} (h:ah w0 W g f0 f1 f2) (ho:d.R e W base ok v xs) (ht:e≠131):some g≠v.ownBlock:=by
 obtain⟨A0,c0,hb,hg,hr0⟩:=h;exact Kd.jE ho hb ht
theorem ah.nR {w0 W:World} {g:Nat} {f0:List Int} {f1:Int} {f2:Int} {α:Type} {d:Kd α} {e:Nat} {base:Nat} {ok:Nat→Prop} {v:Value} {xs:List α} (h:ah w0 W g f0 f1 f2) (ho:d.S e W base ok v xs) (ht: ∀q,q∈e :: d.E→q≠131):d.S e W base (fun k=>ok k∧k≠g) v xs:=by
 obtain⟨A0,c0,hb,hg,hr0⟩:=h;exact Kd.je ho hb ht
theorem ah.ze {w0 W:World} {g:Nat} {f0:List Int} {f1:Int} {f2:Int} {α:Type} {d:Kd α} {e:Nat} {base:Nat} {ok:Nat→Prop} {v:Value} {xs:List α} (h:ah w0 W g f0 f1 f2) (ho:d.S e W base ok v xs) (ht:e≠131):some g≠v.ownBlock:=by
 obtain⟨A0,c0,hb,hg,hr0⟩:=h;exact Kd.j8 ho hb ht
theorem ah.lt {w0 W:World} {g:Nat} {f0:List Int} {f1:Int} {f2:Int} (h:ah w0 W g f0 f1 f2):g<W.heap.size:=by
 obtain⟨A0,c0,hb,hg,hr0⟩:=h;exact dZ hb
theorem ah.ge {w0 W:World} {g:Nat} {f0:List Int} {f1:Int} {f2:Int} (h:ah w0 W g f0 f1 f2):w0.heap.size≤g:=by
 obtain⟨A0,c0,hb,hg,hr0⟩:=h;exact hg
theorem ah.pT {w0 W:World} {g:Nat} {f0:List Int} {f1:Int} {f2:Int} {a:Nat} {cs:Array Value} {t:TypeId} {fr:Nat×Nat} (h:ah w0 W g f0 f1 f2) (hb2:W.heap[a]? =some (.cells cs t fr)) (ht:t≠131):g≠a:=by
 obtain⟨A0,c0,hb,hg,hr0⟩:=h;rintro rfl;rw[hb]at hb2
 injection hb2 with hb2
 injection hb2 with _ KM
 exact ht KM.symm
theorem ah.far {w0 W:World} {g:Nat} {f0:List Int} {f1:Int} {f2:Int} {p:Addr} (h:ah w0 W g f0 f1 f2) (hne:g≠p.block) (u:Value):ah w0 (W.setCell p u) g f0 f1 f2:=by
 obtain⟨A0,c0,hb,hg,hr0⟩:=h;exact⟨A0,c0,iE hb hne u,hg,hr0⟩
theorem Pk {W:World} {g:Nat} {A0:Option Addr} {c0:Nat} {f0:List Int} {f1:Int} {f2:Int} (h:W.heap[g]? =some (.cells #[.slice A0 f0.length c0, .int .i64 f1, .int .u64 f2] 131 (0,0))):W.cell? ⟨g,0,none⟩=some (.slice A0 f0.length c0):=(fU h 0).trans rfl
theorem Pm {W:World} {g:Nat} {A0:Option Addr} {c0:Nat} {f0:List Int} {f1:Int} {f2:Int} (h:W.heap[g]? =some (.cells #[.slice A0 f0.length c0, .int .i64 f1, .int .u64 f2] 131 (0,0))):W.cell? ⟨g,1,none⟩=some (.int .i64 f1):=(fU h 1).trans rfl
theorem ah.Ai {w0 W:World} {g:Nat} {f0:List Int} {f1:Int} {f2:Int} (h:ah w0 W g f0 f1 f2) (x:Int):ah w0 (W.setCell ⟨g,1,none⟩ (.int .i64 x)) g f0 x f2:=by
 obtain⟨A0,c0,hb,hg,hr0⟩:=h;exact⟨A0,c0,by simpa using F4 hb 1 (.int .i64 x),hg,hr0⟩
theorem Pn {W:World} {g:Nat} {A0:Option Addr} {c0:Nat} {f0:List Int} {f1:Int} {f2:Int} (h:W.heap[g]? =some (.cells #[.slice A0 f0.length c0, .int .i64 f1, .int .u64 f2] 131 (0,0))):W.cell? ⟨g,2,none⟩=some (.int .u64 f2):=(fU h 2).trans rfl
theorem ah.Aj {w0 W:World} {g:Nat} {f0:List Int} {f1:Int} {f2:Int} (h:ah w0 W g f0 f1 f2) (x:Int):ah w0 (W.setCell ⟨g,2,none⟩ (.int .u64 x)) g f0 f1 x:=by
 obtain⟨A0,c0,hb,hg,hr0⟩:=h;exact⟨A0,c0,by simpa using F4 hb 2 (.int .u64 x),hg,hr0⟩
theorem ah.gj {w0 W:World} {g:Nat} {f0:List Int} {f1:Int} {f2:Int} (q:ah w0 W g f0 f1 f2:=by repeat (first|(with_reducible first|exact ak.out (by assumption)|apply ah.alloc|apply ah.drewN|apply ah.drew|apply ah.Ai|apply ah.Aj)|exact ak.out (by assumption))):ah w0 W g f0 f1 f2:=q
theorem ah.aT {b:Nat} {w W:World} (q:Below b w W:=by repeat (first|(with_reducible first|exact HB.1 |apply jC|apply lu|apply fE|refine jU ?_ (ah.ge (ak.out (by assumption))))|exact HB.1)):Below b w W:=q
theorem ah.abO {w0 W:World} {g:Nat} {f0:List Int} {f1:Int} {f2:Int} {p:Addr} (zi:ah w0 W g f0 f1 f2) (U7:g≠p.block) (xg:Value):ah w0 (W.setCell p xg) g f0 f1 f2:=ah.far zi U7 xg
theorem ah.bB {w0 W:World} {g:Nat} {f0:List Int} {f1:Int} {f2:Int} (q:ah w0 W g f0 f1 f2:=by repeat (first|(with_reducible first|exact ak.out (by assumption)|apply ah.alloc|apply ah.drewN|apply ah.drew|apply ah.Ai|apply ah.Aj|apply ah.abO)|exact ak.out (by assumption))):ah w0 W g f0 f1 f2:=q
theorem ah.hs_ {b:Nat} {w W:World} (q:Below b w W:=by repeat (first|(with_reducible first|exact HB.1 |apply jC|apply lu|apply fE|exact ah.ge (ak.out (by assumption))|exact ak.out (by assumption)|apply abP)|exact HB.1)):Below b w W:=q

def gH.l0:Nat→List Int→Int→List Int→Int→Int→Option (List Int×Int×Int)
 | 0,_,_,_,_,_=>none
 | k+1,x0,x4,U8,U9,U7=>if x4<(x0.length:Int) then (if x4<4096 then (if 0≤x4 then (gH.l0 k x0 (wrap64 (x4+1)) U8 U9 (agY.wrap ((agY.wrap ((agY.wrap (U7*1099511628211))+(agY.wrap (rd x0 x4))))+109))) else (none)) else (some (U8,U9,U7))) else (some (U8,U9,U7))
def gH.f (k:Nat) (l0:List Int):Option (List Int×Int×Int):=gH.l0 k l0 0 l0 0 (agY.wrap (12981+(agY.wrap ((l0.length:Int)))))
def gH.T5:Bool×List (List Nat×List Nat):=(true,[([],[]),([],[]),([1],[1]),([2],[2]),([3],[3]),([4],[4]),([],[]),([],[]),([6,7],[6,7]),([8],[8]),([9],[9]),([5,10],[5,10]),([11],[11]),([0,0,1,2,3,4,5,6,7,8,9,10,11,12],[0]),([13,0,1,2,3,4,5,6,7,8,9,10,11,12],[13]),([14,12,0,1,2,3,4,5,6,7,8,9,10,11,12],[12,14])])
def gH.B5:List Nat:=[0,0,2,6,14,30,0,0,192,448,960,2046,4094,8191,16383,32767]
theorem gH.yu:e7 .any (opsOf Try.f102 5)=gH.T5:=by kernel_rfl
theorem gH.yw:iV gH.T5.2 gH.B5=true:=by kernel_rfl
theorem gH.calls (k:Nat) (A0:Option Addr) (c0:Nat) (l0:List Int) (r1:List Int) (r2:Int) (r3:Int) (w0 w:World) (hB:Below w0.heap.size w0 w) (hr0:Kd.C (Kd.int .u8) w0 A0 l0.length l0) (hc0:l0.length≤c0) (h:gH.f k l0=some (r1,r2,r3)):
  Calls aip 102 #[.slice A0 l0.length c0] w fun e w'=>∃g_:Nat,e= .returned (.pointer (some ⟨g_,0,none⟩))∧ah w0 w' g_ r1 r2 r3∧Below w0.heap.size w0 w'∧Below w.heap.size w w':=by
 have Ve:=Try.underlying131;have dX:=m_ hr0;have fD:=m_ hc0;clear hr0 hc0;have xh:=m_ (aim w.heap.size w);have gW:=m_ hB.size;have HB:=m_ hB;clear hB;have H:=h;unfold gH.f at H;clear h;have H':=m_ H;clear H;go_enter Try.func102,Try.ntmps102;go_wp2_with (first|((with_reducible refine bV (N:=11) rfl ?_);refine cC (N:=11) (cs:= #[.slice A0 l0.length c0, .int .i64 0, .int .u64 (agY.wrap (12981+(agY.wrap ((l0.length:Int)))))]) (t:=131) ?_;intro U9 hg w2 aE hb;replace HB:=m_ (aG aT hb);have U7:=m_ (aE);have Vc:=m_ ((by rw[hg];exact(aN Ei):w.heap.size≤U9));have Vb:=m_ (Nat.le_trans gW.1 Vc.1);replace xh:=m_ (aG xh.1 hb);clear hb aE hg));go_loopg [4] k (fun kq v4 w'=>∃(fS:Int) (U8:Int),v4= .int .i64 fS∧ak (gH.l0 kq l0 fS l0 0 U8=some (r1,r2,r3))∧ak (kq≤k)∧ak (w'.heap[U9]? =some (.cells #[(.slice A0 l0.length c0), .int .i64 0, .int .u64 U8] 131 (0,0)))∧ak (Below w0.heap.size w0 w')∧ak (Below w.heap.size w w'))
 case atStart=>exact⟨(0),(agY.wrap (12981+(agY.wrap ((l0.length:Int))))),bA,H',⟨ahp _⟩,⟨av U7.1 af⟩,⟨aj⟩,⟨Ei⟩⟩
 case round=>
  clear H';obtain⟨fS,U8,rfl,HA,bP,U7,HB,xh⟩:=hrel;cases gk with
  | zero=>exact absurd HA.1 (by simp[gH.l0])
  | succ k1=>
   have H:=HA.1;clear HA;simp only[gH.l0]at H
   by_cases c3:fS<(l0.length:Int)
   ·rw[aC c3]at H
    have jd:=aV c3;clear c3
    by_cases c4:fS<4096
    ·rw[aC c4]at H
     have dW:=aV c4;clear c4;obtain⟨c5,H⟩:=bN H;have gZ:=aV c5;clear c5;have H':=m_ H;clear H
     try go_wp2
     replace U7:=m_ (bK U7.1);replace HB:=m_ (fE HB.1);have sD:0≤(fS:Int):=aD;have sE:fS<(l0.length:Int):=aD;obtain⟨Ef,Eh,Bi⟩:=Kd.dA dX.1 fS sD sE;have Va:=Bi;cases Eh;replace Bi:=AZ HB.1 Bi;replace sD:=aH sD;replace sE:=aH sE;refine gD (n:=16) (S:=fun w'=>w'.cell? ⟨U9,0,none⟩=some (.slice (some Ef) l0.length c0)∧w'.cell? ⟨U9,1,none⟩=some (.int .i64 0)∧w'.cell? ⟨U9,2,none⟩=some (.int .u64 U8)∧w'.cell? (Ef.add (fS).toNat)=some (.int .u8 (rd l0 fS))) (ds:=[15]) #[false,false,false,false,false,false,false,false,false,false,false,false,false,false,false,false] aU rfl rfl ⟨aX U7.1,aZ U7.1,Po U7.1,((HB.1.cell (air _ _ Va)).trans Va)⟩ (fun hHeld=> ?_);refine iW gH.yu gH.yw (fun dN hU=> ?_);replace xh:=m_ (zj xh.1);generalize wr.drew=w6 at U7 HB xh Bi hHeld ⊢;refine bh 0 16 22 1 ?_;refine bh 1 16 23 3 ?_;refine bh 2 16 24 7 ?_;refine bh 3 16 25 15 ?_;refine bh 6 16 28 79 ?_;refine bh 7 16 29 207 ?_;refine bh 8 16 30 463 ?_;refine dD 4 16 26 479 hHeld ?_;refine bh 5 16 27 511 ?_;refine dD 9 16 31 1023 hHeld ?_;refine bh 10 16 32 2047 ?_;refine bh 11 16 33 4095 ?_;refine bh 12 16 34 8191 ?_;refine bh 13 16 35 16383 ?_;refine bh 14 16 36 32767 ?_;refine qW (i:=15) (N:=none) #[true,true,true,true,true,true,true,true,true,true,true,true,true,true,true,true] rfl rfl (sX dN.1 aU) az (fun K hK=> ?_);have hs7:w6.cell? ⟨U9,2,none⟩=some (.int .u64 U8):=Po U7.1;have Vd:=ax U7.1 2;refine qt (w1:= ?_) (by rfl) rfl ?_ ?_
     rotate_left
     ·go_simp
      rfl
     refine hK.out _ _ ?_;clear hK K;refine gE (iX dN.1 aU) ?_
     try go_wp2
     go_roundg k1
     case measure=>have:=bP.1;omega
     case rel=>exact⟨(wrap64 (fS+1)),(agY.wrap ((agY.wrap ((agY.wrap (U8*1099511628211))+(agY.wrap (rd l0 fS))))+109)),bA,H',⟨by have:=bP.1;omega⟩,⟨by(with_reducible repeat (first|refine bY ?_ _ |refine bK ?_ |refine bR ?_ _));refine cY (cs:= #[.slice (some Ef) l0.length c0, .int .i64 0, .int .u64 U8]) ?_ 2 _ rfl;(with_reducible repeat (first|refine bY ?_ _ |refine bK ?_ |refine bR ?_ _));exact U7.1⟩,⟨aj⟩,⟨Ei⟩⟩
    ·rw[aA c4]at H
     have dW:=cz c4;clear c4;simp only[ain,aio]at H;obtain⟨rfl,rfl,rfl⟩:=H;go_wp2;go_ret;exact⟨_,rfl,(show ah w0 _ U9 l0 0 U8 from⟨_,_,(av U7.1 af),Vb.1,dX.1⟩),aj,Ei⟩
   ·rw[aA c3]at H
    have jd:=cz c3;clear c3;simp only[ain,aio]at H;obtain⟨rfl,rfl,rfl⟩:=H;go_wp2;go_ret;exact⟨_,rfl,(show ah w0 _ U9 l0 0 U8 from⟨_,_,(av U7.1 af),Vb.1,dX.1⟩),aj,Ei⟩

def dY.f (bC:List Int) (dh:Int) (dx:Int) (a1:Int):Option (Int×Int×Int):=if a1<1 then (some (0,dh,dx)) else (if dh<(bC.length:Int) then (if 0≤dh then (if a1=0 then (none) else (some (agZ (wrap64 ((wrap64 (Go.bits .and .u64 ((agY.wrap ((agY.wrap (dx*6364136223846793005))+1442695040888963407)) / 2147483648) 1073741823))+(wrap64 (rd bC dh)))) a1,wrap64 (dh+1),agY.wrap ((agY.wrap (dx*6364136223846793005))+1442695040888963407)))) else (none)) else (if a1=0 then (none) else (some (agZ (wrap64 (Go.bits .and .u64 ((agY.wrap ((agY.wrap (dx*6364136223846793005))+1442695040888963407)) / 2147483648) 1073741823)) a1,dh,agY.wrap ((agY.wrap (dx*6364136223846793005))+1442695040888963407)))))
theorem dY.calls (g:Nat) (bC:List Int) (dh:Int) (dx:Int) (a1:Int) (r1:Int) (r2:Int) (r3:Int) (w0 w:World) (hI:ah w0 w g bC dh dx) (hB:Below w0.heap.size w0 w) (h:dY.f bC dh dx a1=some (r1,r2,r3)):
  Calls aip 171 #[.pointer (some ⟨g,0,none⟩), .int .i64 a1] w fun e w'=>e= .returned (.int .i64 r1)∧ah w0 w' g bC r2 r3∧Below w0.heap.size w0 w'∧aQ w w' g none:=by
 have bI:=m_ hI;have HK:=m_ (aQ.refl w g none);have HL:=m_ hB.size;clear hI;have gW:=m_ hB.size;have HB:=m_ hB;clear hB;have H:=h;unfold dY.f at H;clear h
 by_cases c3:a1<1
 ·rw[aC c3]at H
  have jd:=aV c3;clear c3;simp only[ain,aio]at H;obtain⟨rfl,rfl,rfl⟩:=H;go_enter aiR,Try.ntmps171;go_wp2;go_ret;exact⟨cB,ah.gj,ah.aT,bp⟩
 ·rw[aA c3]at H
  have jd:=cz c3;clear c3
  by_cases c4:dh<(bC.length:Int)
  ·rw[aC c4]at H
   have dW:=aV c4;clear c4;obtain⟨c5,H⟩:=bN H;have gZ:=aV c5;clear c5
   by_cases c6:a1=0
   ·rw[aC c6]at H
    exact absurd H bJ
   ·rw[aA c6]at H
    obtain⟨iO,oZ⟩:=dL c6;simp only[ain,aio]at H;obtain⟨rfl,rfl,rfl⟩:=H;obtain⟨Vl,Vn,U8,Vg,Ve⟩:=bI.1;have qO:=Pk U8;have sS:=Pm U8;have Vm:=Pn U8;have sU:=ax U8 1;have Vj:=ax U8 2;clear U8 Vg;have Vc:0≤(dh:Int):=aD;have Vb:dh<(bC.length:Int):=aD;obtain⟨Vd,Vh,U9⟩:=Kd.dA Ve dh Vc Vb;cases Vh;have Va:Vd.block≠g:=ais (Nat.lt_of_lt_of_le (by have:=air _ _ U9;first|rwa [kC]at this|exact this) (ah.ge bI.1));replace U9:=AZ HB.1 U9;replace U9:=(cell_far (p:=⟨g,2,none⟩) (by first|(rw[kC];exact Va)|(show(Addr.add _ _).block≠_;rw[kC];exact Va)|exact Va) (.int .u64 (agY.wrap ((agY.wrap (dx*6364136223846793005))+1442695040888963407)))).trans U9;(try have Vq:=fun (n_:Nat)=>(show(((w.drewN n_).setCell ⟨g,2,none⟩ (.int .u64 (agY.wrap ((agY.wrap (dx*6364136223846793005))+1442695040888963407))))).cell? _=some _ from U9));clear Va;replace Vc:=aH Vc;replace Vb:=aH Vb;go_enter aiR,Try.ntmps171;go_wp2
    repeat (go_quiet (fail);try go_wp2)
    go_ret;exact⟨cB,ah.gj,ah.aT,bp⟩
  ·rw[aA c4]at H
   have dW:=cz c4;clear c4
   by_cases c8:a1=0
   ·rw[aC c8]at H
    exact absurd H bJ
   ·rw[aA c8]at H
    obtain⟨lg,sN⟩:=dL c8;simp only[ain,aio]at H;obtain⟨rfl,rfl,rfl⟩:=H;obtain⟨Vk,Vr,U7,Vf,Vi⟩:=bI.1;have oo:=Pk U7;have o5:=Pm U7;have Vp:=Pn U7;have o7:=ax U7 1;have Vo:=ax U7 2;clear U7 Vf;go_enter aiR,Try.ntmps171;go_wp2
    repeat (go_quiet (fail);try go_wp2)
    go_ret;exact⟨cB,ah.gj,ah.aT,bp⟩

def jP.f (bC:List Int) (dh:Int) (dx:Int) (l1:List Int):Option (Int×Int×Int):=(dY.f bC dh dx (l1.length:Int)).bind fun U7=>(if 0≤U7.1 then (if U7.1<(l1.length:Int) then (some (rd l1 U7.1,U7.2.1,U7.2.2)) else (none)) else (none))
theorem jP.calls (g:Nat) (bC:List Int) (dh:Int) (dx:Int) (A1:Option Addr) (c1:Nat) (l1:List Int) (r1:Int) (r2:Int) (r3:Int) (w0 w:World) (hI:ah w0 w g bC dh dx) (hB:Below w0.heap.size w0 w) (hr1:Kd.C (Kd.int .i64) w A1 l1.length l1) (hc1:l1.length≤c1) (U9: ∀ad,A1=some ad→0<l1.length→ad.block≠g) (h:jP.f bC dh dx l1=some (r1,r2,r3)):
  Calls aip 144 #[.pointer (some ⟨g,0,none⟩), .slice A1 l1.length c1] w fun e w'=>e= .returned (.int .i64 r1)∧ah w0 w' g bC r2 r3∧Below w0.heap.size w0 w'∧aQ w w' g none:=by
 have cQ:=m_ hr1;have dS:=m_ hc1;clear hr1 hc1;have bI:=m_ hI;have HK:=m_ (aQ.refl w g none);have HL:=m_ hB.size;clear hI;have gW:=m_ hB.size;have HB:=m_ hB;clear hB;have H:=h;unfold jP.f at H;clear h;obtain⟨⟨t183,t184,t185⟩,A3,H⟩:=bE H;dsimp only at H
 by_cases c4:0≤t183
 ·rw[aC c4]at H
  have dW:=aV c4;clear c4;obtain⟨c5,H⟩:=bN H;have gZ:=aV c5;clear c5;simp only[ain,aio]at H;obtain⟨rfl,rfl,rfl⟩:=H;go_enter Try.func144,Try.ntmps144;go_wp2_with (first|((with_reducible refine bu (f:=171) rfl ?_);refine bz (some 9) aiR #[.pointer (some ⟨g,0,none⟩), .int .i64 (l1.length:Int)] ?_;(with_reducible refine(dY.calls g bC dh dx (l1.length:Int) t183 t184 t185 w0 _ ?aq ?au A3.1).mono ?_);(case aq=>exact ah.gj);(case au=>exact ah.aT);rintro e w6 ⟨rfl,hi,hb,hk⟩;refine⟨_,rfl, ?_⟩;replace HK:=m_ (aQ.trans bp hk (.inl rfl));replace HB:=m_ (hb);replace bI:=m_ (hi);clear hi hb hk;have U7:0≤(t183:Int):=aD;have U8:t183<(l1.length:Int):=aD;obtain⟨Vc,Vb,Va⟩:=Kd.dA cQ.1 t183 U7 U8;cases Vb;replace Va:=I1 HK.1 Va (by first|(rw[kC];exact U9 _ rfl aa)|exact U9 _ rfl aa|exact U9 Vc rfl aa);replace U7:=aH U7;replace U8:=aH U8));go_ret;exact⟨cB,ah.gj,ah.aT,bp⟩
 ·rw[aA c4]at H
  exact absurd H bJ

def mC.f (l0:List Int):Option (List Int):=(some (([]:List Int):List Int)).bind fun tV=>(if tV.length+l0.length<17592186044416 then (some (tV++l0)) else (none))
theorem mC.calls (A0:Option Addr) (c0:Nat) (l0:List Int) (r:List Int) (w:World) (hr0:Kd.C (Kd.int .i64) w A0 l0.length l0) (hc0:l0.length≤c0) (h:mC.f l0=some r):
  Calls aip 113 #[.slice A0 l0.length c0] w fun e w'=>∃dO:Value,e= .returned (dO)∧Kd.R (Kd.int .i64) 2 w' w.heap.size (fun _=>True) dO r∧Below w.heap.size w w':=by
 have dX:=m_ hr0;have fD:=m_ hc0;clear hr0 hc0;have HB:=m_ (aim w.heap.size w);have H:=h;unfold mC.f at H;clear h;rw[Option.bind_some]at H;obtain⟨tV,Va,H⟩: ∃tV:List Int,ak (tV=(([]:List Int)))∧(if tV.length+l0.length<17592186044416 then (some (tV++l0)) else (none))=some r:=⟨_,⟨rfl⟩,H⟩
 by_cases c2:tV.length+l0.length<17592186044416
 ·rw[aC c2]at H
  have Vb:=m_ c2;clear c2;obtain⟨U7,U9,H⟩: ∃U7:List Int,ak (U7=(tV++l0))∧(some U7)=some r:=⟨_,⟨rfl⟩,H⟩;obtain rfl:=aii H;go_enter Try.func113,Try.ntmps113;go_wp2_with (first|((with_reducible refine bV (N:=3) rfl ?_);refine Kd.jv (Kd.int .i64) _ 2 ?hg (N:=3) ?hd (xs:=([]:List Int)) (inner:=[]) (ok:=fun _=>True) (cI:=fun _=>True) ?hr ?hp (fun _ hk=>hk) trivial (aim _ _) (ahp _) bJ ?_;(case hd=>rfl);(case hg=>rfl);(case hr=>first|(go_simp;done)|(go_simp;rfl));(case hp=>exact(bO.none _ _));intro Vd w3 sA hb cL cV;clear cL cV;rw[← Va.1]at sA;have U8:=m_ (Kd.dR sA (aN aT));replace HB:=m_ (aG aT hb);clear hb sA)|((with_reducible refine iR (b:= .append) (xs:= #[.tmp 3, .tmp 4]) rfl ?_);at_builtin;refine Kd.AH (Kd.int .i64) (w0:=w) w.heap.size rfl (.tmp 3) (.tmp 4) 29 2 (.int .i64 0) 8 rfl aiN kB rfl az aa Vd tV l0 _ _ _ (fun _=>True) (fun _=>False) rfl rfl ?aO ?aR (fun _ _ h=>h) (fun _ h=>h.elim) ?aF ?aB ?aS ?aL ?_;(case aR=>repeat (first|exact(Kd.ay dX.1 HB.1)|(with_reducible refine Kd.iY ?_ _)|(with_reducible refine Kd.iZ ?_ _)|(with_reducible refine Kd.ja ?_)));(case aB=>exact aT);(case aF=>exact(fun _ _=>trivial));(case aO=>exact(Kd.bG U8.1 af));(case aS=>exact(aN aT));(case aL=>have:=Vb.1;omega);intro Ve w5 ho hb hg hat;rw[← U9.1]at ho;replace HB:=m_ (hb);have Vc:=m_ (ho);clear U8;clear ho hb hg hat));go_ret;exact⟨_,cB,(Kd.bG Vc.1 af),aT⟩
 ·rw[aA c2]at H
  exact absurd H bJ

def iK.l0:Nat→Int→Int→List (List Int)→Int→List (List Int)→Option (Int×(List (List Int)))
 | 0,_,_,_,_,_=>none
 | k+1,x4,Va,U7,U9,U8=>if x4<(U7.length:Int) then (if 0≤x4 then ((mC.f (aM U7 x4)).bind fun zk=>(if U8.length<5864062014805 then (iK.l0 k (wrap64 (x4+1)) Va U7 U9 (U8++[zk])) else (none))) else (none)) else (some (U9,U8))
def iK.f (k:Nat) (ai:Int) (ag:List (List Int)):Option (Int×(List (List Int))):=iK.l0 k 0 ai ag ai (([]:List (List Int)))
def iK.T5:Bool×List (List Nat×List Nat):=(true,[([],[]),([0],[0]),([],[]),([2],[2]),([],[]),([3,4],[3,4]),([5],[5]),([6],[6]),([7],[7]),([1,8,7],[1,8]),([0,1,2,3,4,5,6,7,8,9],[]),([10,9,9,0,1,2,3,4,5,6,7,8,9],[9,10])])
def iK.B5:List Nat:=[0,1,0,4,0,28,60,124,252,511,1023,2047]
theorem iK.yu:e7 .any (opsOf Try.f237 5)=iK.T5:=by kernel_rfl
theorem iK.yw:iV iK.T5.2 iK.B5=true:=by kernel_rfl
theorem iK.calls (k:Nat) (ai:Int) (aJ:Option Addr) (aI:Nat) (ag:List (List Int)) (r1:Int) (r2:List (List Int)) (w:World) (cG:Kd.C (Kd.slice 2 (Kd.int .i64)) w aJ ag.length ag) (cH:ag.length≤aI) (h:iK.f k ai ag=some (r1,r2)):
  Calls aip 237 #[.agg #[.int .i64 ai, .slice aJ ag.length aI]] w fun e w'=>∃fP:Value,e= .returned (.agg #[.int .i64 r1,fP])∧Kd.S (Kd.slice 2 (Kd.int .i64)) 29 w' w.heap.size (fun _=>True) fP r2∧Below w.heap.size w w':=by
 have eU:=ail;have bW:=m_ cG;have cr:=m_ cH;clear cG cH;have HB:=m_ (aim w.heap.size w);have H:=h;unfold iK.f at H;clear h;obtain⟨Vg,VB,H⟩: ∃Vg:List (List Int),ak (Vg=(([]:List (List Int))))∧(iK.l0 k 0 ai ag ai Vg)=some (r1,r2):=⟨_,⟨rfl⟩,H⟩;have H':=m_ H;clear H;go_enter Try.func237,Try.ntmps237;go_wp2_with (first|((with_reducible refine bV (N:=1) rfl ?_);refine cC (N:=1) (cs:= #[.int .i64 ai, .slice aJ ag.length aI]) (t:=26) ?_;intro Vf hg w2 aE hb;have U7:=m_ (aE);have VF:=m_ ((by rw[hg];exact(aN aT):w.heap.size≤Vf));have VG:=m_ ((by rw[hg];exact(aN aT):w.heap.size≤Vf));replace HB:=m_ (aG aT hb);clear hb aE hg)|((with_reducible refine bV (N:=2) rfl ?_);refine cC (N:=2) (cs:= #[.int .i64 0, .slice none 0 0]) (t:=26) ?_;intro Vd hg w3 aE hb;have U9:=m_ (aE);have VR:=m_ ((by rw[hg];exact(aN aj):w.heap.size≤Vd));have VJ:=m_ ((by rw[hg];exact(aN aj):w.heap.size≤Vd));replace HB:=m_ (aG aj hb);have Vk:=m_ ((by rw[hg];exact ais (dZ (av U7.1 af)):Vf≠Vd));have Vs:=m_ Vk.1.symm;replace U7:=m_ (aW U7.1 hb);clear hb aE hg;have VS:=Vk.1;have VT:=Vs.1;have FQ:=aX U7.1;have Ki:=aZ U7.1;have FR:=ax U7.1 0;have Kj:=ax U7.1 1)|((with_reducible refine bV (N:=7) rfl ?_);refine Kd.uB (Kd.slice 2 (Kd.int .i64)) _ 29 ?hg (N:=7) ?hd (xs:=([]:List (List Int))) (inner:=[]) (ok:=fun _=>True) (cI:=fun _=>True) ?hr ?hp (fun _ hk=>hk) trivial (aim _ _) (ahp _) bJ ?_;(case hd=>rfl);(case hg=>rfl);(case hr=>first|(go_simp;done)|(go_simp;rfl));(case hp=>exact(bO.none _ _));intro VI w6 su hb cL cV;clear cL cV;rw[← VB.1]at su;have Vm:=m_ (Kd.gF su (aN aj));replace U7:=m_ (aW U7.1 hb);replace U9:=m_ (aW U9.1 hb);replace HB:=m_ (aG aj hb);clear hb su;obtain⟨pW,ot,qR⟩:=Kd.eN Vm.1;subst qR)|((with_reducible refine bV (N:=3) rfl ?_);refine cC (N:=3) (cs:= #[.int .i64 0, .slice none 0 0]) (t:=26) ?_;intro Vb hg w9 aE hb;replace Vm:=m_ (Kd.bH (Kd.bH Vm.1 af) hb);have U8:=m_ (aE);have VP:=m_ ((by rw[hg];exact(aN aj):w.heap.size≤Vb));have VK:=m_ ((by rw[hg];exact(aN aj):w.heap.size≤Vb));replace HB:=m_ (aG aj hb);have Vj:=m_ ((by rw[hg];exact ais (dZ (av U7.1 af)):Vf≠Vb));have Vl:=m_ Vj.1.symm;replace U7:=m_ (aW U7.1 hb);have Vn:=m_ ((by rw[hg];exact ais (dZ (av U9.1 af)):Vd≠Vb));have Vr:=m_ Vn.1.symm;replace U9:=m_ (aW U9.1 hb);clear hb aE hg;have Ku:=Vl.1;have Kv:=Vj.1;have NW:=Vr.1;have NX:=Vn.1;have ux:=aX U8.1;have vQ:=aZ U8.1;have uy:=ax U8.1 0;have vR:=ax U8.1 1));go_loopg [4] k (fun kq v4 w'=>∃(fS:Int) (Ve:List (List Int)) (u199001:Value),v4= .int .i64 fS∧ak (iK.l0 kq fS ai ag ai Ve=some (r1,r2))∧ak (kq≤k)∧ak (Kd.S (Kd.slice 2 (Kd.int .i64)) 29 w' w.heap.size (fun _=>True) u199001 Ve)∧ak (w'.heap[Vf]? =some (.cells #[.int .i64 ai,(.slice aJ ag.length aI)] 26 (0,0)))∧ak (w'.heap[Vd]? =some (.cells #[.int .i64 0,(.slice none 0 0)] 26 (0,0)))∧ak (w'.heap[Vb]? =some (.cells #[.int .i64 ai,u199001] 26 (0,0)))∧ak (Below w.heap.size w w'))
 case atStart=>exact⟨(0),(Vg),(.slice pW Vg.length ot),bA,H',⟨ahp _⟩,⟨by(with_reducible repeat (first|apply Kd.eV|apply Kd.eS|apply Kd.ee));exact Kd.cZ (Kd.fI (p:=⟨Vb,1,none⟩) (Kd.fI (p:=⟨Vb,0,none⟩) (Kd.je Vm.1 U8.1 az) (fun _ hk=>hk.2) (.int .i64 ai)) (fun _ hk=>hk.2) (.slice pW Vg.length ot)) (fun _ hk=>trivial)⟩,⟨lF⟩,⟨lF⟩,⟨by(with_reducible repeat (first|refine bY ?_ _ |refine bK ?_ |refine bR ?_ _));refine cY (cs:= #[.int .i64 ai, .slice none 0 0]) ?_ 1 _ rfl;(with_reducible repeat (first|refine bY ?_ _ |refine bK ?_ |refine bR ?_ _));refine cY (cs:= #[.int .i64 0, .slice none 0 0]) ?_ 0 _ rfl;(with_reducible repeat (first|refine bY ?_ _ |refine bK ?_ |refine bR ?_ _));exact U8.1⟩,⟨aj⟩⟩
 case round=>
  clear H';obtain⟨fS,Ve,u199001,rfl,HA,bP,Va,U7,U9,U8,HB⟩:=hrel;cases gk with
  | zero=>exact absurd HA.1 (by simp[iK.l0])
  | succ k1=>
   have H:=HA.1;clear HA;simp only[iK.l0]at H
   by_cases c13:fS<(ag.length:Int)
   ·rw[aC c13]at H
    have pR:=aV c13;clear c13;obtain⟨c14,H⟩:=bN H;have nJ:=aV c14;clear c14;obtain⟨zk,wB,H⟩:=bE H;obtain⟨c16,H⟩:=bN H;have KH:=m_ c16;clear c16;obtain⟨Vh,VE,H⟩: ∃Vh:List (List Int),ak (Vh=(Ve++[zk]))∧(iK.l0 k1 (wrap64 (fS+1)) ai ag ai Vh)=some (r1,r2):=⟨_,⟨rfl⟩,H⟩;have H':=m_ H;clear H;have FT:=Vk.1;have FU:=Vs.1;have O0:=Vj.1;have O1:=Vl.1;have uH:=aX U7.1;have uI:=aZ U7.1;have uJ:=ax U7.1 0;have uK:=ax U7.1 1
    try go_wp2
    replace Va:=m_ (Kd.ee Va.1);replace U7:=m_ (bK U7.1);replace U9:=m_ (bK U9.1);replace U8:=m_ (bK U8.1);replace HB:=m_ (fE HB.1);have Vq:0≤(fS:Int):=aD;have Vp:fS<(ag.length:Int):=aD;obtain⟨VA,Vt,Vx,VD,Vi,Vv,Vy⟩:=fH bW.1 fS Vq Vp;have Vc:=Vi;cases VD;replace Vi:=(HB.1.cell (air w _ Vi)).trans Vi;have Vz:=m_ Vy;have VC:=m_ Vv;clear Vy Vv;replace Vq:=aH Vq;replace Vp:=aH Vp;refine gD (n:=12) (S:=fun w'=>w'.cell? ⟨Vb,0,none⟩=some (.int .i64 ai)∧w'.cell? ⟨Vb,1,none⟩=some (u199001)∧w'.cell? ⟨Vf,0,none⟩=some (.int .i64 ai)∧w'.cell? ⟨Vf,1,none⟩=some (.slice (some VA) ag.length aI)∧w'.cell? (VA.add (fS).toNat)=some (.slice Vt (aM ag fS).length Vx)) (ds:=[11]) #[false,false,false,false,false,false,false,false,false,false,false,false] aU rfl rfl ⟨aX U8.1,aZ U8.1,aX U7.1,aZ U7.1,((HB.1.cell (air _ _ Vc)).trans Vc)⟩ (fun hHeld=> ?_);refine iW iK.yu iK.yw (fun dN hU=> ?_);generalize wr.drew=pV at Va U7 U9 U8 HB Vz Vi hHeld ⊢;refine bh 0 12 16 1 ?_;refine bh 2 12 18 5 ?_;refine bh 4 12 20 21 ?_;refine dD 1 12 17 23 hHeld ?_;refine dD 3 12 19 31 hHeld ?_;refine bh 5 12 21 63 ?_;refine dD 6 12 22 127 hHeld ?_;refine fZ 7 12 (some 23) 255 (fun K hK=> ?_);refine gI Try.func113 aU rfl #[.slice Vt (aM ag fS).length Vx] (by rfl) rfl rfl mb ?_
    with_reducible refine(mC.calls _ _ (aM ag fS) zk _ ?aq ?au wB.1).mono ?_
    (case aq=>exact Kd.ay (Kd.ay Vz.1 HB.1) af);(case au=>exact VC.1);rintro e tf ⟨VQ,rfl,aY,hb⟩;refine⟨_,rfl, ?_⟩;replace Va:=m_ (Kd.jD (Kd.bH Va.1 af) (Kd.dQ aY) hb);have Vo:=m_ (Kd.dR aY (aN aj));replace U7:=m_ (aW U7.1 hb);replace U9:=m_ (aW U9.1 hb);replace U8:=m_ (aW U8.1 hb);replace HB:=m_ (aG aj hb);(try clear aY);obtain⟨CO,CP,CQ⟩:=Kd.dP Vo.1;subst CQ;refine hK.out _ _ ⟨aX U8.1,aZ U8.1,aX U7.1,aZ U7.1,((HB.1.cell (air _ _ Vc)).trans Vc)⟩ (fun hHeld=> ?_);clear hK K;refine fj ?_;refine fZ 8 12 (some 24) 511 (fun K hK=> ?_);refine tA (w1:= ?_) (v:= ?_) (by rfl) rfl ?_ ?_
    rotate_left 2
    ·go_simp
     constructor
     ·rfl
     ·rfl
    refine hK.out _ _ ⟨(fU (bR U8.1 _) 0).trans rfl,(fU (bR U8.1 _) 1).trans rfl,(fU (bR U7.1 _) 0).trans rfl,(fU (bR U7.1 _) 1).trans rfl,(World.cell?_alloc_lt _ _ _ (air _ _ (((HB.1.cell (air _ _ Vc)).trans Vc)))).trans (((HB.1.cell (air _ _ Vc)).trans Vc))⟩ (fun hHeld=> ?_);clear hK K;refine fj ?_;refine fZ 9 12 (some 25) 1023 (fun K hK=> ?_);refine Kd.JQ (Kd.slice 2 (Kd.int .i64)) (w0:=w) w.heap.size (by rfl) (.tmp 17) (.tmp 24) 24 29 (.slice none 0 0) 24 rfl Try.underlying24 mK rfl az aa u199001 Ve zk [.slice CO zk.length CP] (fun _=>True) (fun k_=>some k_=(.slice CO zk.length CP:Value).ownBlock) rfl rfl ?aP (fun k_ bn=>((Kd.cu (ok':=fun k_=>((fun _=>True)) k_∧some k_≠(u199001:Value).ownBlock) (Kd.gu (Vo.1) (Kd.iS Va.1) az) (fun k_ hk=>⟨trivial,hk.2⟩))).1 k_ bn.symm) ?aF ?aO ?aB ?aS ?aL ?_;(case aP=>exact Kd.lB (Kd.cu (Kd.lC rfl (Kd.cu (ok':=fun k_=>((fun _=>True)) k_∧some k_≠(u199001:Value).ownBlock) (Kd.gu (Vo.1) (Kd.iS Va.1) az) (fun k_ hk=>⟨trivial,hk.2⟩))) (fun _ h_=>h_)));(case aB=>exact aj);(case aF=>exact(fun _ _=>trivial));(case aO=>exact(Kd.bH (Kd.cZ Va.1 (fun k_ hk=>⟨trivial,fun e_=>hk.2 e_⟩)) af));(case aS=>exact(aN aj));(case aL=>have:=KH.1;omega);intro VH oq ho hb hg hat;rw[← VE.1]at ho;replace U7:=m_ (fG (av U7.1 af) hg (Kd.j8 Va.1 U7.1 az));replace U9:=m_ (fG (av U9.1 af) hg (Kd.j8 Va.1 U9.1 az));replace U8:=m_ (fG (av U8.1 af) hg (Kd.j8 Va.1 U8.1 az));replace HB:=m_ (hb);have Vu:=m_ (ho);(try clear Va);(try clear Vo);clear ho hb hg hat;obtain⟨DH,DI,J4⟩:=Kd.eN Vu.1;subst J4;refine hK.out _ _ ⟨aX U8.1,aZ U8.1,aX U7.1,aZ U7.1,((HB.1.cell (air _ _ Vc)).trans Vc)⟩ (fun hHeld=> ?_);clear hK K;refine fj ?_;refine bh 10 12 26 2047 ?_;refine qW (i:=11) (N:=none) #[true,true,true,true,true,true,true,true,true,true,true,true] rfl rfl (sX dN.1 aU) az (fun K hK=> ?_);have aa0:oq.cell? ⟨Vb,1,none⟩=some (u199001):=aZ U8.1;have aa1:=ax U8.1 1;have VO:=Vj.1;have aa2:=Vn.1;have VN:=Vl.1;have aa3:=Vr.1;refine qt (w1:= ?_) (by rfl) rfl ?_ ?_
    rotate_left
    ·go_simp
     rfl
    refine hK.out _ _ ?_;clear hK K;refine gE (iX dN.1 aU) ?_
    try go_wp2
    go_roundg k1
    case measure=>have:=bP.1;omega
    case rel=>exact⟨(wrap64 (fS+1)),(Vh),(.slice DH Vh.length DI),bA,H',⟨by have:=bP.1;omega⟩,⟨by(with_reducible repeat (first|apply Kd.eV|apply Kd.eS|apply Kd.ee));exact Kd.cZ (Kd.fI (p:=⟨Vb,1,none⟩) (Kd.je Vu.1 U8.1 az) (fun _ hk=>hk.2) (.slice DH Vh.length DI)) (fun _ hk=>trivial)⟩,⟨lF⟩,⟨lF⟩,⟨by(with_reducible repeat (first|refine bY ?_ _ |refine bK ?_ |refine bR ?_ _));refine cY (cs:= #[.int .i64 ai,u199001]) ?_ 1 _ rfl;(with_reducible repeat (first|refine bY ?_ _ |refine bK ?_ |refine bR ?_ _));exact U8.1⟩,⟨aj⟩⟩
   ·rw[aA c13]at H
    have pR:=cz c13;clear c13;simp only[ain,aio]at H;obtain⟨rfl,rfl⟩:=H;have abh:=Vk.1;have abj:=Vs.1;have aaC:=Vj.1;have aaD:=Vl.1;have aaE:=aX U7.1;have VM:=aZ U7.1;have aaF:=ax U7.1 0;have VL:=ax U7.1 1;have abG:=Vr.1;have abH:=Vn.1;have OU:=aX U8.1;have OV:=aZ U8.1;have OW:=ax U8.1 0;have OX:=ax U8.1 1;have Ux:=aX U9.1;have Uy:=aZ U9.1;have Uz:=ax U9.1 0;have UA:=ax U9.1 1;obtain⟨Vw,Kp,FY⟩:=Kd.eN Va.1;subst FY;go_wp2;refine bodyPost_ret (results_cell_row rfl _ _ Vd 26 #[.int .i64 ai, .slice Vw Ve.length Kp] (0,0) _ rfl (by(with_reducible repeat (first|refine bY ?_ _ |refine bK ?_ |refine bR ?_ _));refine cY (cs:= #[.int .i64 ai, .slice none 0 0]) ?_ 1 _ rfl;(with_reducible repeat (first|refine bY ?_ _ |refine bK ?_ |refine bR ?_ _));refine cY (cs:= #[.int .i64 0, .slice none 0 0]) ?_ 0 _ rfl;(with_reducible repeat (first|refine bY ?_ _ |refine bK ?_ |refine bR ?_ _));exact U9.1) ail rfl aU) rfl ?_;exact⟨_,cB,by(with_reducible repeat (first|apply Kd.eV|apply Kd.eS|apply Kd.ee));exact Kd.cZ (Kd.fI (p:=⟨Vd,1,none⟩) (Kd.fI (p:=⟨Vd,0,none⟩) (Kd.je Va.1 U9.1 az) (fun _ hk=>hk.2) (.int .i64 ai)) (fun _ hk=>hk.2) (.slice Vw Ve.length Kp)) (fun _ hk=>trivial),aj⟩

end Go.Proofs.Ytkadhadceongiaa.G
