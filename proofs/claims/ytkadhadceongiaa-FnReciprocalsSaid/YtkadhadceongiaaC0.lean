/- The printed functions that this law reaches, and their contracts: part 0. -/
-- printed by this repo's wip/printer out of the kit's print with its own changes
import Derived.Test.YtkadhadceongiaaG0
namespace Go.Proofs.Ytkadhadceongiaa.G
open Go.RowKit Go.Proofs.YtkadhadceongiaaW.PrintWords Go.Proofs.YtkadhadceongiaaW.PrintLast Go.Proofs.YtkadhadceongiaaW.PrintMore
attribute [local go_sem] ud ue uf ug uh uj uk um   -- for this text's walks alone
set_option linter.unusedVariables false
set_option linter.unusedSimpArgs false

theorem lp:(∀(l:List Value) (i:Nat) (a:Value),l.toArray.setIfInBounds i a=(l.set i a).toArray)∧(∀(x:Value) (l:List Value) (a:Value),(x :: l).set 0 a=a :: l)∧(∀(x:Value) (l:List Value) (n:Nat) (a:Value),(x :: l).set (n+1) a=x :: l.set n a)∧(∀n:Int,IntKind.i64.wrap n=wrap64 n)∧(∀n:Int,IntKind.i32.wrap n=wrap32 n):=
 ⟨fun l i a=>List.setIfInBounds_toArray l i a,fun _ _ _=>rfl,fun _ _ _ _=>rfl,eE,iC⟩

/-! ### laws_big: function 9 -/
def tY.f (l0:List Int):Option (Bool):=some (decide ((l0.length:Int)>4096))
set_option maxHeartbeats 8000000 in
set_option maxRecDepth 100000 in
theorem tY.calls (A0:Option Addr) (c0:Nat) (l0:List Int) (r:Bool) (w:World) (hr0:Kd.C (Kd.int .u8) w A0 l0.length l0) (hc0:l0.length≤c0) (h:tY.f l0=some r):
  Calls Try.prog 9 #[.slice A0 l0.length c0] w fun e w'=>e= .returned (.bool r)∧bB w w':=by
 have dG:=m_ hr0;have gi:=m_ hc0;clear hr0 hc0;have H:=h;unfold tY.f at H;clear h;obtain rfl:=Option.some.inj H;go_enter Try.func9,Try.ntmps9;go_wp2;go_ret;exact⟨aJ,by repeat (first | exact bB.refl _ | apply bB.step)⟩

/-! ### laws_likeInts: function 13 -/
def iL.l0:Nat→List Int→List Int→Int→Option (Bool)
 | 0,_,_,_=>none
 | k+1,x0,x1,x5=>if x5<(x0.length:Int) then (if 0≤x5 then (if x5<(x1.length:Int) then (if (rd x0 x5)=(rd x1 x5) then (iL.l0 k x0 x1 (wrap64 (x5+1))) else (some false)) else (none)) else (none)) else (some true)
def iL.f (k:Nat) (l0:List Int) (l1:List Int):Option (Bool):=if (l0.length:Int)=(l1.length:Int) then (iL.l0 k l0 l1 0) else (some false)
set_option maxHeartbeats 8000000 in
set_option maxRecDepth 100000 in
theorem iL.calls (k:Nat) (A0:Option Addr) (c0:Nat) (l0:List Int) (A1:Option Addr) (c1:Nat) (l1:List Int) (r:Bool) (w:World) (hr0:Kd.C (Kd.int .i64) w A0 l0.length l0) (hc0:l0.length≤c0) (hr1:Kd.C (Kd.int .i64) w A1 l1.length l1) (hc1:l1.length≤c1) (h:iL.f k l0 l1=some r):
  Calls Try.prog 13 #[.slice A0 l0.length c0, .slice A1 l1.length c1] w fun e w'=>e= .returned (.bool r)∧bB w w':=by
 have dG:=m_ hr0;have gi:=m_ hc0;clear hr0 hc0;have je:=m_ hr1;have pR:=m_ hc1;clear hr1 hc1;have H:=h;unfold iL.f at H;clear h
 by_cases c3:(l0.length:Int)=(l1.length:Int)
 ·rw[if_pos c3]at H
  obtain⟨ig,ld⟩:=dz c3;have sH:(l0.length == l1.length)=true:=by first | simpa using c3 | (simp at c3 ⊢;omega)
  clear c3;have H':=m_ H;clear H;go_enter Try.func13,Try.ntmps13;go_wp2
  repeat (go_quiet (fail);try go_wp2)
  go_loopg [5] k (fun kq v5 w'=>∃(bN:Int),v5= .int .i64 bN∧ah (iL.l0 kq l0 l1 bN=some r)∧ah (kq≤k)∧bB w w')
  case atStart=>exact⟨(0),aJ,H',⟨Nat.le_refl _⟩,by repeat (first | exact bB.refl _ | apply bB.step)⟩
  case round=>
   clear H';obtain⟨bN,rfl,HA,bp,⟨m1,rfl⟩⟩:=hrel;cases gk with
   | zero=>exact absurd HA.1 (by simp[iL.l0])
   | succ k1=>
    have H:=HA.1;clear HA;simp only[iL.l0]at H
    by_cases c4:bN<(l0.length:Int)
    ·rw[if_pos c4]at H
     have eU:=decide_eq_true c4;clear c4;obtain⟨c5,H⟩:=aU H;have gR:=decide_eq_true c5;clear c5;obtain⟨c6,H⟩:=aU H;have ij:=decide_eq_true c6;clear c6
     by_cases c7:(rd l0 bN)=(rd l1 bN)
     ·rw[if_pos c7]at H
      obtain⟨jX,o4⟩:=dz c7;clear c7;have H':=m_ H;clear H;have Va:0≤(bN:Int):=ak;have U8:bN<(l0.length:Int):=ak;obtain⟨Vd,Vb,Vf⟩:=Kd.cD dG.1 bN Va U8;cases Vb;replace Va:=eq_true Va;replace U8:=eq_true U8;have U7:0≤(bN:Int):=ak;have U9:bN<(l1.length:Int):=ak;obtain⟨Vg,Vc,Ve⟩:=Kd.cD je.1 bN U7 U9;cases Vc;replace U7:=eq_true U7;replace U9:=eq_true U9;go_wp2
      repeat (go_quiet (fail);try go_wp2)
      go_roundg k1
      case measure=>have:=bp.1;omega
      case rel=>exact⟨(wrap64 (bN+1)),aJ,H',⟨by have:=bp.1;omega⟩,by repeat (first | exact bB.refl _ | apply bB.step)⟩
     ·rw[if_neg c7]at H
      obtain⟨jX,o4⟩:=dN c7;obtain rfl:=Option.some.inj H;have Va:0≤(bN:Int):=ak;have U8:bN<(l0.length:Int):=ak;obtain⟨Vd,Vb,Vf⟩:=Kd.cD dG.1 bN Va U8;cases Vb;replace Va:=eq_true Va;replace U8:=eq_true U8;have U7:0≤(bN:Int):=ak;have U9:bN<(l1.length:Int):=ak;obtain⟨Vg,Vc,Ve⟩:=Kd.cD je.1 bN U7 U9;cases Vc;replace U7:=eq_true U7;replace U9:=eq_true U9;go_wp2
      repeat (go_quiet (fail);try go_wp2)
      go_ret;exact⟨aJ,by repeat (first | exact bB.refl _ | apply bB.step)⟩
    ·rw[if_neg c4]at H
     have eU:=decide_eq_false c4;clear c4;obtain rfl:=Option.some.inj H;go_wp2
     repeat (go_quiet (fail);try go_wp2)
     go_ret;exact⟨aJ,by repeat (first | exact bB.refl _ | apply bB.step)⟩
 ·rw[if_neg c3]at H
  obtain⟨ig,ld⟩:=dN c3;have sH:(l0.length == l1.length)=false:=by first | simpa using c3 | (simp at c3 ⊢;omega)
  obtain rfl:=Option.some.inj H;go_enter Try.func13,Try.ntmps13;go_wp2
  repeat (go_quiet (fail);try go_wp2)
  go_ret;exact⟨aJ,by repeat (first | exact bB.refl _ | apply bB.step)⟩

-- NOT PRINTED: function 239 (slices_IndexFunc_int64_int64)

-- NOT PRINTED: function 205 (slices_ContainsFunc_int64_int64)

/-! ### impl_within: function 106 -/
def iz.f (a0:Int) (a1:Int) (a2:Int):Option (Bool):=if a0≥a1 then (some (decide (a0≤a2))) else (some false)
set_option maxHeartbeats 8000000 in
set_option maxRecDepth 100000 in
theorem iz.calls (a0:Int) (a1:Int) (a2:Int) (r:Bool) (w:World) (h:iz.f a0 a1 a2=some r):
  Calls Try.prog 106 #[.int .i64 a0, .int .i64 a1, .int .i64 a2] w fun e w'=>e= .returned (.bool r)∧bB w w':=by
 have H:=h;unfold iz.f at H;clear h
 by_cases c4:a0≥a1
 ·rw[if_pos c4]at H
  have eU:=decide_eq_true c4;clear c4;obtain rfl:=Option.some.inj H;go_enter Try.func106,Try.ntmps106;go_wp2;go_ret;exact⟨aJ,by repeat (first | exact bB.refl _ | apply bB.step)⟩
 ·rw[if_neg c4]at H
  have eU:=decide_eq_false c4;clear c4;obtain rfl:=Option.some.inj H;go_enter Try.func106,Try.ntmps106;go_wp2;go_ret;exact⟨aJ,by repeat (first | exact bB.refl _ | apply bB.step)⟩

/-! ### impl_isSmall: function 167 -/
def qt.f (a0:Int):Option (Bool):=(iz.f a0 (-1000000000000000) 1000000000000000).bind fun t103=>(some t103)
set_option maxHeartbeats 8000000 in
set_option maxRecDepth 100000 in
theorem qt.calls (a0:Int) (r:Bool) (w:World) (h:qt.f a0=some r):
  Calls Try.prog 167 #[.int .i64 a0] w fun e w'=>e= .returned (.bool r)∧bB w w':=by
 have H:=h;unfold qt.f at H;clear h;obtain⟨t103,A2,H⟩:=bL H;obtain rfl:=Option.some.inj H;go_enter Try.func167,Try.ntmps167;go_wp2_with (first | ((with_reducible refine bF (f:=106) rfl ?_);refine bI (some 4) Try.func106 #[.int .i64 a0, .int .i64 (-1000000000000000), .int .i64 1000000000000000] ?_;(with_reducible refine(iz.calls a0 (-1000000000000000) 1000000000000000 t103 _ A2.1).mono ?_);rintro e w' ⟨rfl,⟨nd,rfl⟩⟩;refine⟨_,rfl, ?_⟩));go_ret;exact⟨aJ,by repeat (first | exact bB.refl _ | apply bB.step)⟩

/-! ### impl_IsWhole: function 60 -/
def mg.l0:Nat→List Int→List Int→Int→Int→Option (Bool)
 | 0,_,_,_,_=>none
 | k+1,x0,x5,x6,x7=>if x7<x6 then (if 0≤x7 then (if x7<(x5.length:Int) then ((qt.f (rd x5 x7)).bind fun t105=>(if t105=true then (mg.l0 k x0 x5 x6 (wrap64 (x7+1))) else (some false))) else (none)) else (none)) else (if (x0.length:Int)≤40 then (if (x0.length:Int)=0 then (some true) else (if 0≤(wrap64 ((x0.length:Int) - 1)) then (if (wrap64 ((x0.length:Int) - 1))<(x0.length:Int) then (some ((rd x0 (wrap64 ((x0.length:Int) - 1))) != 0)) else (none)) else (none))) else (some false))
def mg.f (k:Nat) (l0:List Int):Option (Bool):=mg.l0 k l0 l0 (l0.length:Int) 0
set_option maxHeartbeats 8000000 in
set_option maxRecDepth 100000 in
theorem mg.calls (k:Nat) (A0:Option Addr) (c0:Nat) (l0:List Int) (r:Bool) (w:World) (hr0:Kd.C (Kd.int .i64) w A0 l0.length l0) (hc0:l0.length≤c0) (h:mg.f k l0=some r):
  Calls Try.prog 60 #[.slice A0 l0.length c0] w fun e w'=>e= .returned (.bool r)∧bB w w':=by
 have dG:=m_ hr0;have gi:=m_ hc0;clear hr0 hc0;have H:=h;unfold mg.f at H;clear h;have H':=m_ H;clear H;go_enter Try.func60,Try.ntmps60;go_wp2;go_loopg [7] k (fun kq v7 w'=>∃(eJ:Int),v7= .int .i64 eJ∧ah (mg.l0 kq l0 l0 (l0.length:Int) eJ=some r)∧ah (kq≤k)∧bB w w')
 case atStart=>exact⟨(0),aJ,H',⟨Nat.le_refl _⟩,by repeat (first | exact bB.refl _ | apply bB.step)⟩
 case round=>
  clear H';obtain⟨eJ,rfl,HA,bp,⟨m1,rfl⟩⟩:=hrel;cases gk with
  | zero=>exact absurd HA.1 (by simp[mg.l0])
  | succ k1=>
   have H:=HA.1;clear HA;simp only[mg.l0]at H
   by_cases c2:eJ<(l0.length:Int)
   ·rw[if_pos c2]at H
    have qJ:=decide_eq_true c2;clear c2;obtain⟨c3,H⟩:=aU H;have ig:=decide_eq_true c3;clear c3;obtain⟨c4,H⟩:=aU H;have eU:=decide_eq_true c4;clear c4;obtain⟨t105,A5,H⟩:=bL H
    by_cases c6:t105=true
    ·subst c6
     rw[if_pos rfl]at H;have H':=m_ H;clear H;have U8:0≤(eJ:Int):=ak;have U7:eJ<(l0.length:Int):=ak;obtain⟨Ve,U9,Vc⟩:=Kd.cD dG.1 eJ U8 U7;cases U9;replace U8:=eq_true U8;replace U7:=eq_true U7;go_wp2_with (first | ((with_reducible refine bF (f:=167) rfl ?_);refine bI (some 12) Try.func167 #[.int .i64 (rd l0 eJ)] ?_;(with_reducible refine(qt.calls (rd l0 eJ) true _ A5.1).mono ?_);rintro e w' ⟨rfl,⟨nd,rfl⟩⟩;refine⟨_,rfl, ?_⟩));go_roundg k1
     case measure=>have:=bp.1;omega
     case rel=>exact⟨(wrap64 (eJ+1)),aJ,H',⟨by have:=bp.1;omega⟩,by repeat (first | exact bB.refl _ | apply bB.step)⟩
    ·replace c6:=Bool.eq_false_iff.mpr c6
     subst c6;rw[if_neg (show ¬(false=true) by decide)]at H;obtain rfl:=Option.some.inj H;have U8:0≤(eJ:Int):=ak;have U7:eJ<(l0.length:Int):=ak;obtain⟨Ve,U9,Vc⟩:=Kd.cD dG.1 eJ U8 U7;cases U9;replace U8:=eq_true U8;replace U7:=eq_true U7;go_wp2_with (first | ((with_reducible refine bF (f:=167) rfl ?_);refine bI (some 12) Try.func167 #[.int .i64 (rd l0 eJ)] ?_;(with_reducible refine(qt.calls (rd l0 eJ) false _ A5.1).mono ?_);rintro e w' ⟨rfl,⟨nd,rfl⟩⟩;refine⟨_,rfl, ?_⟩));go_ret;exact⟨aJ,by repeat (first | exact bB.refl _ | apply bB.step)⟩
   ·rw[if_neg c2]at H
    have qJ:=decide_eq_false c2;clear c2
    by_cases c7:(l0.length:Int)≤40
    ·rw[if_pos c7]at H
     have jX:=decide_eq_true c7;have o4:decide (l0.length≤40)=true:=decide_eq_true (by omega);clear c7
     by_cases c8:(l0.length:Int)=0
     ·rw[if_pos c8]at H
      obtain⟨kE,ou⟩:=dz c8;clear c8;obtain rfl:=Option.some.inj H;go_wp2;go_ret;exact⟨aJ,by repeat (first | exact bB.refl _ | apply bB.step)⟩
     ·rw[if_neg c8]at H
      obtain⟨kE,ou⟩:=dN c8;have Vg: ¬(l0= []):=fun h_=>c8 (by rw[h_];rfl)
      obtain⟨jZ,qg⟩: ∃j_:Int,(wrap64 ((l0.length:Int) - 1))=j_:=⟨_,rfl⟩;(try rw[qg]);replace H:(if 0≤(jZ) then (if (jZ)<(l0.length:Int) then (some ((rd l0 (jZ)) != 0)) else (none)) else (none))=some r:=by first | (rw[qg]at H;exact H) | (simp only[qg]at H ⊢;exact H)
      have SI:(IntKind.i64.wrap ((l0.length:Int) - 1))=jZ:=(eE _).trans qg;obtain⟨c10,H⟩:=aU H;have mq:=decide_eq_true c10;clear c10;obtain⟨c11,H⟩:=aU H;have jh:=decide_eq_true c11;clear c11;obtain rfl:=Option.some.inj H;have Vb:0≤((jZ):Int):=ak;have Va:(jZ)<(l0.length:Int):=ak;obtain⟨Vf,Vd,Vh⟩:=Kd.cD dG.1 (jZ) Vb Va;cases Vd;replace Vb:=eq_true Vb;replace Va:=eq_true Va;go_wp2;go_ret;exact⟨by first | rfl | (simp;done) | (simp only[← qg]<;>(first | rfl | simp)) | (simp[*];done),by repeat (first | exact bB.refl _ | apply bB.step)⟩
    ·rw[if_neg c7]at H
     have jX:=decide_eq_false c7;have o4:decide (l0.length≤40)=false:=decide_eq_false (by omega);clear c7;obtain rfl:=Option.some.inj H;go_wp2;go_ret;exact⟨aJ,by repeat (first | exact bB.refl _ | apply bB.step)⟩

/-! ### impl_areWhole_1: function 230 -/
def sB.f (k:Nat) (l0:List Int):Option (Bool):=(mg.f k l0).bind fun t107=>(some (!t107))
set_option maxHeartbeats 8000000 in
set_option maxRecDepth 100000 in
theorem sB.calls (k:Nat) (A0:Option Addr) (c0:Nat) (l0:List Int) (r:Bool) (w:World) (hr0:Kd.C (Kd.int .i64) w A0 l0.length l0) (hc0:l0.length≤c0) (h:sB.f k l0=some r):
  Calls Try.prog 230 #[.slice A0 l0.length c0] w fun e w'=>e= .returned (.bool r)∧bB w w':=by
 have dG:=m_ hr0;have gi:=m_ hc0;clear hr0 hc0;have H:=h;unfold sB.f at H;clear h;obtain⟨t107,A2,H⟩:=bL H;obtain rfl:=Option.some.inj H;go_enter Try.func230,Try.ntmps230;go_wp2_with (first | ((with_reducible refine bF (f:=60) rfl ?_);refine bI (some 4) Try.func60 #[.slice A0 l0.length c0] ?_;(with_reducible refine(mg.calls k _ _ l0 t107 _ ?aA ?aC A2.1).mono ?_);(case aA=>exact Kd.aN dG.1 aa);(case aC=>exact gi.1);rintro e w' ⟨rfl,⟨nd,rfl⟩⟩;refine⟨_,rfl, ?_⟩));go_ret;exact⟨aJ,by repeat (first | exact bB.refl _ | apply bB.step)⟩

/-! ### slices_IndexFunc_int64_int64_at_areWhole_1: function 100001 -/
def mR.l0:Nat→List (List Int)→Int→Int→Option (Int)
 | 0,_,_,_=>none
 | k+1,x0,x7,x8=>if x8<x7 then (if 0≤x8 then (if x8<(x0.length:Int) then ((sB.f k (af x0 x8)).bind fun t109=>(if t109=true then (some x8) else (mR.l0 k x0 x7 (wrap64 (x8+1))))) else (none)) else (none)) else (some (-1))
def mR.f (k:Nat) (l0:List (List Int)):Option (Int):=mR.l0 k l0 (l0.length:Int) 0
set_option maxHeartbeats 8000000 in
set_option maxRecDepth 100000 in
theorem mR.calls (k:Nat) (A0:Option Addr) (c0:Nat) (l0:List (List Int))  (r:Int) (w:World) (hr0:Kd.C (Kd.slice 2 (Kd.int .i64)) w A0 l0.length l0) (hc0:l0.length≤c0) (h:mR.f k l0=some r):
  Calls Try.prog 239 #[.slice A0 l0.length c0, .func (.func 230) #[] #[]] w fun e w'=>e= .returned (.int .i64 r)∧Below w.heap.size w w':=by
 have dG:=m_ hr0;have gi:=m_ hc0;clear hr0 hc0;have HB:=m_ (Below.refl w.heap.size w);have H:=h;unfold mR.f at H;clear h;have H':=m_ H;clear H;go_enter Try.func239,Try.ntmps239;go_wp2;go_loopg [8] k (fun kq v8 w'=>∃(di:Int),v8= .int .i64 di∧ah (mR.l0 kq l0 (l0.length:Int) di=some r)∧ah (kq≤k)∧ah (Below w.heap.size w w'))
 case atStart=>exact⟨(0),aJ,H',⟨Nat.le_refl _⟩,⟨aq⟩⟩
 case round=>
  clear H';obtain⟨di,rfl,HA,bp,HB⟩:=hrel;cases gk with
  | zero=>exact absurd HA.1 (by simp[mR.l0])
  | succ k1=>
   have H:=HA.1;clear HA;simp only[mR.l0]at H
   by_cases c3:di<(l0.length:Int)
   ·rw[if_pos c3]at H
    have ig:=decide_eq_true c3;clear c3;obtain⟨c4,H⟩:=aU H;have eU:=decide_eq_true c4;clear c4;obtain⟨c5,H⟩:=aU H;have gR:=decide_eq_true c5;clear c5;obtain⟨t109,A6,H⟩:=bL H
    by_cases c7:t109=true
    ·subst c7
     rw[if_pos rfl]at H;obtain rfl:=Option.some.inj H;have U8:0≤(di:Int):=ak;have U9:di<(l0.length:Int):=ak;obtain⟨Vh,Ve,Vd,Vf,U7,Va,Vb⟩:=dV dG.1 di U8 U9;cases Vf;(try replace U7:=(HB.1.cell (World.block_lt_of_cell? w _ U7)).trans U7);have Vc:=m_ Vb;have Vg:=m_ Va;clear Vb Va;replace U8:=eq_true U8;replace U9:=eq_true U9;go_wp2_with (first | ((with_reducible refine J9 (t:=11) rfl ?_);refine Ka (some 16) rfl rfl Try.func230 (by kernel_rfl) rfl (lb:= #[]) #[.slice Ve (af l0 di).length Vd] rfl (by first | rfl | (simp;done)) (by(try simp only[List.map_toArray,List.map_cons,List.map_nil,List.append_toArray,List.cons_append,List.nil_append]);first | done | rfl | (simp only[List.length_drop,List.length_take];rfl)) ?_;(with_reducible refine(sB.calls k1 _ _ (af l0 di) true _ ?aA ?aC A6.1).mono ?_);(case aA=>exact Kd.aN (Kd.aN Vc.1 HB.1) aa);(case aC=>exact Vg.1);rintro e w' ⟨rfl,⟨nd,rfl⟩⟩;refine⟨_,rfl, ?_⟩));go_ret;exact⟨cH,aq⟩
    ·replace c7:=Bool.eq_false_iff.mpr c7
     subst c7;rw[if_neg (show ¬(false=true) by decide)]at H;have H':=m_ H;clear H;have U8:0≤(di:Int):=ak;have U9:di<(l0.length:Int):=ak;obtain⟨Vh,Ve,Vd,Vf,U7,Va,Vb⟩:=dV dG.1 di U8 U9;cases Vf;(try replace U7:=(HB.1.cell (World.block_lt_of_cell? w _ U7)).trans U7);have Vc:=m_ Vb;have Vg:=m_ Va;clear Vb Va;replace U8:=eq_true U8;replace U9:=eq_true U9;go_wp2_with (first | ((with_reducible refine J9 (t:=11) rfl ?_);refine Ka (some 16) rfl rfl Try.func230 (by kernel_rfl) rfl (lb:= #[]) #[.slice Ve (af l0 di).length Vd] rfl (by first | rfl | (simp;done)) (by(try simp only[List.map_toArray,List.map_cons,List.map_nil,List.append_toArray,List.cons_append,List.nil_append]);first | done | rfl | (simp only[List.length_drop,List.length_take];rfl)) ?_;(with_reducible refine(sB.calls k1 _ _ (af l0 di) false _ ?aA ?aC A6.1).mono ?_);(case aA=>exact Kd.aN (Kd.aN Vc.1 HB.1) aa);(case aC=>exact Vg.1);rintro e w' ⟨rfl,⟨nd,rfl⟩⟩;refine⟨_,rfl, ?_⟩));go_roundg k1
     case measure=>have:=bp.1;omega
     case rel=>exact⟨(wrap64 (di+1)),aJ,H',⟨by have:=bp.1;omega⟩,⟨aq⟩⟩
   ·rw[if_neg c3]at H
    have ig:=decide_eq_false c3;clear c3;obtain rfl:=Option.some.inj H;go_wp2;go_ret;exact⟨cH,aq⟩

/-! ### slices_ContainsFunc_int64_int64_at_areWhole_1: function 100000 -/
def wA.f (k:Nat) (l0:List (List Int)):Option (Bool):=(mR.f k l0).bind fun t110=>(some (decide (t110≥0)))
set_option maxHeartbeats 8000000 in
set_option maxRecDepth 100000 in
theorem wA.calls (k:Nat) (A0:Option Addr) (c0:Nat) (l0:List (List Int))  (r:Bool) (w:World) (hr0:Kd.C (Kd.slice 2 (Kd.int .i64)) w A0 l0.length l0) (hc0:l0.length≤c0) (h:wA.f k l0=some r):
  Calls Try.prog 205 #[.slice A0 l0.length c0, .func (.func 230) #[] #[]] w fun e w'=>e= .returned (.bool r)∧Below w.heap.size w w':=by
 have dG:=m_ hr0;have gi:=m_ hc0;clear hr0 hc0;have HB:=m_ (Below.refl w.heap.size w);have H:=h;unfold wA.f at H;clear h;obtain⟨t110,A3,H⟩:=bL H;obtain rfl:=Option.some.inj H;go_enter Try.func205,Try.ntmps205;go_wp2_with (first | ((with_reducible refine bF (f:=239) rfl ?_);refine bI (some 7) Try.func239 #[.slice A0 l0.length c0, .func (.func 230) #[] #[]] ?_;(with_reducible refine(mR.calls k _ _ l0  t110 _ ?aA ?aC A3.1).mono ?_);(case aA=>exact Kd.aN dG.1 aa);(case aC=>exact gi.1);rintro e w4 ⟨rfl,hb⟩;refine⟨_,rfl, ?_⟩;replace HB:=m_ (aH aq hb);clear hb));go_ret;exact⟨cH,aq⟩

/-! ### impl_areWhole: function 163 -/
def qv.f (k:Nat) (l0:List (List Int)):Option (Bool):=(wA.f k l0).bind fun t111=>(some (!t111))
set_option maxHeartbeats 8000000 in
set_option maxRecDepth 100000 in
theorem qv.calls (k:Nat) (A0:Option Addr) (c0:Nat) (l0:List (List Int)) (r:Bool) (w:World) (hr0:Kd.C (Kd.slice 2 (Kd.int .i64)) w A0 l0.length l0) (hc0:l0.length≤c0) (h:qv.f k l0=some r):
  Calls Try.prog 163 #[.slice A0 l0.length c0] w fun e w'=>e= .returned (.bool r)∧Below w.heap.size w w':=by
 have dG:=m_ hr0;have gi:=m_ hc0;clear hr0 hc0;have HB:=m_ (Below.refl w.heap.size w);have H:=h;unfold qv.f at H;clear h;obtain⟨t111,A2,H⟩:=bL H;obtain rfl:=Option.some.inj H;go_enter Try.func163,Try.ntmps163;go_wp2_with (first | ((with_reducible refine bF (f:=205) rfl ?_);refine bI (some 4) Try.func205 #[.slice A0 l0.length c0, .func (.func 230) #[] #[]] ?_;(with_reducible refine(wA.calls k _ _ l0  t111 _ ?aA ?aC A2.1).mono ?_);(case aA=>exact Kd.aN dG.1 aa);(case aC=>exact gi.1);rintro e w3 ⟨rfl,hb⟩;refine⟨_,rfl, ?_⟩;replace HB:=m_ (aH aq hb);clear hb));go_ret;exact⟨cH,aq⟩

/-! ### impl_absolute: function 169 -/
def qu.f (a0:Int):Option (Int):=some (mx a0 (wrap64 (-a0)))
set_option maxHeartbeats 8000000 in
set_option maxRecDepth 100000 in
theorem qu.calls (a0:Int) (r:Int) (w:World) (h:qu.f a0=some r):
  Calls Try.prog 169 #[.int .i64 a0] w fun e w'=>e= .returned (.int .i64 r)∧Below w.heap.size w w':=by
 have HB:=m_ (Below.refl w.heap.size w);have H:=h;unfold qu.f at H;clear h;obtain⟨U8,U7⟩: ∃j_:Int,(mx a0 (wrap64 (-a0)))=j_:=⟨_,rfl⟩;(try rw[U7]);replace H:(some U8)=some r:=by first | (rw[U7]at H;exact H) | (simp only[U7]at H ⊢;exact H)
 have U9:(if a0<(wrap64 (-a0)) then (wrap64 (-a0)) else a0)=U8:=U7;obtain rfl:=Option.some.inj H;go_enter Try.func169,Try.ntmps169;go_wp2;go_ret;exact⟨by first | rfl | (simp[iR,iS]<;>rfl) | (simp only[← U7];first | rfl | (simp[iR,iS]<;>rfl)) | (simp[*,iR,iS]<;>rfl),aq⟩

/-! ### impl_plusTimes: function 168 -/
def kV.j0:Nat→Int→Int→Int→Bool→Option (Int×Bool)
 | 0,_,_,_,_=>none
 | k+1,x0,x1,x2,eC=>if eC=true then (some (x0,true)) else ((qu.f x1).bind fun t112=>((qu.f x2).bind fun t113=>(if t113=0 then (none) else (if t112>(wrap64 (Int.tdiv (1000000000000000:Int) t113)) then (some (0,false)) else ((qt.f (wrap64 (x0+(wrap64 (x1*x2))))).bind fun t114=>(some (wrap64 (x0+(wrap64 (x1*x2))),t114)))))))
def kV.f (k:Nat) (a0:Int) (a1:Int) (a2:Int):Option (Int×Bool):=if a1=0 then (kV.j0 k a0 a1 a2 true) else (kV.j0 k a0 a1 a2 (a2 == 0))
set_option maxHeartbeats 8000000 in
set_option maxRecDepth 100000 in
theorem kV.calls (k:Nat) (a0:Int) (a1:Int) (a2:Int) (r1:Int) (r2:Bool) (w:World) (h:kV.f k a0 a1 a2=some (r1,r2)):
  Calls Try.prog 168 #[.int .i64 a0, .int .i64 a1, .int .i64 a2] w fun e w'=>e= .returned (.tuple #[.int .i64 r1, .bool r2])∧Below w.heap.size w w':=by
 have HB:=m_ (Below.refl w.heap.size w);have H:=h;unfold kV.f at H;clear h;have uM:=m_ H;clear H;go_enter Try.func168,Try.ntmps168;go_upto_region 1 with (fail)
 go_cut [13] (fun p4 wc=>∃(kq:Nat) (U7:Bool),p4= .bool U7∧ah (kV.j0 kq a0 a1 a2 U7=some (r1,r2))∧ah (kq≤k)∧ah (Below w.heap.size w wc))
 case first=>
  have H:=uM.1;clear uM
  by_cases c5:a1=0
  ·rw[if_pos c5]at H
   obtain⟨gR,uT⟩:=dz c5;clear c5;(first | rw[gR] | (simp only[eE,iC];rw[gR]) | skip);have H':=m_ H;clear H;go_wp2;go_meet
   case rel=>exact⟨_,(true),aJ,H',⟨by first | omega | exact Nat.le_refl _⟩,⟨aq⟩⟩
  ·rw[if_neg c5]at H
   obtain⟨gR,uT⟩:=dN c5;(first | rw[gR] | (simp only[eE,iC];rw[gR]) | skip);have H':=m_ H;clear H;go_wp2;go_meet
   case rel=>exact⟨_,((a2 == 0)),aJ,H',⟨by first | omega | exact Nat.le_refl _⟩,⟨aq⟩⟩
 case rest=>
  clear uM;obtain⟨kq,U7,rfl,HA,Q0,HB⟩:=hcut;cases kq with
  | zero=>exact absurd HA.1 (by simp[kV.j0])
  | succ Ee=>
   have H:=HA.1;clear HA;simp only[kV.j0]at H
   by_cases c6:U7=true
   ·subst c6
    rw[if_pos rfl]at H;simp only[Option.some.injEq,Prod.mk.injEq]at H;obtain⟨rfl,rfl⟩:=H;go_wp2
    go_ret2
    exact⟨cH,aq⟩
   ·replace c6:=Bool.eq_false_iff.mpr c6
    subst c6;rw[if_neg (show ¬(false=true) by decide)]at H;obtain⟨t112,A7,H⟩:=bL H;obtain⟨t113,A8,H⟩:=bL H
    by_cases c9:t113=0
    ·rw[if_pos c9]at H
     exact absurd H (by simp)
    ·rw[if_neg c9]at H
     obtain⟨mo,yE⟩:=dN c9
     by_cases c10:t112>(wrap64 (Int.tdiv (1000000000000000:Int) t113))
     ·rw[if_pos c10]at H
      have mq:=decide_eq_true c10;clear c10;simp only[Option.some.injEq,Prod.mk.injEq]at H;obtain⟨rfl,rfl⟩:=H;go_wp2_with (first | ((with_reducible refine bF (f:=169) rfl ?_);refine bI (some 16) Try.func169 #[.int .i64 a1] ?_;(with_reducible refine(qu.calls a1 t112 _ A7.1).mono ?_);rintro e ux ⟨rfl,hb⟩;refine⟨_,rfl, ?_⟩;replace HB:=m_ (aH aq hb);clear hb) | ((with_reducible refine bF (f:=169) rfl ?_);refine bI (some 18) Try.func169 #[.int .i64 a2] ?_;(with_reducible refine(qu.calls a2 t113 _ A8.1).mono ?_);rintro e nB ⟨rfl,hb⟩;refine⟨_,rfl, ?_⟩;replace HB:=m_ (aH aq hb);clear hb))
      go_ret2
      exact⟨cH,aq⟩
     ·rw[if_neg c10]at H
      have mq:=decide_eq_false c10;clear c10;obtain⟨t114,vM,H⟩:=bL H;simp only[Option.some.injEq,Prod.mk.injEq]at H;obtain⟨rfl,rfl⟩:=H;go_wp2_with (first | ((with_reducible refine bF (f:=169) rfl ?_);refine bI (some 16) Try.func169 #[.int .i64 a1] ?_;(with_reducible refine(qu.calls a1 t112 _ A7.1).mono ?_);rintro e Bc ⟨rfl,hb⟩;refine⟨_,rfl, ?_⟩;replace HB:=m_ (aH aq hb);clear hb) | ((with_reducible refine bF (f:=169) rfl ?_);refine bI (some 18) Try.func169 #[.int .i64 a2] ?_;(with_reducible refine(qu.calls a2 t113 _ A8.1).mono ?_);rintro e vn ⟨rfl,hb⟩;refine⟨_,rfl, ?_⟩;replace HB:=m_ (aH aq hb);clear hb) | ((with_reducible refine bF (f:=167) rfl ?_);refine bI (some 28) Try.func167 #[.int .i64 (wrap64 (a0+(wrap64 (a1*a2))))] ?_;(with_reducible refine(qt.calls (wrap64 (a0+(wrap64 (a1*a2)))) t114 _ vM.1).mono ?_);rintro e w' ⟨rfl,⟨nd,rfl⟩⟩;refine⟨_,rfl, ?_⟩))
      go_ret2
      exact⟨cH,aq⟩

/-! ### impl_multiply: function 164 -/
mutual
def ep.j0:Nat→List Int→List Int→Bool→Option (List Int×Bool)
 | 0,_,_,_=>none
 | k+1,x0,x1,U7=>if U7=true then (some ((([]:List Int)),true)) else (if (wrap64 ((wrap64 ((x0.length:Int)+(x1.length:Int))) - 1))>40 then (some (([]:List Int),false)) else (ep.l0 k x0 x1 (([]:List Int)) (wrap64 ((wrap64 ((x0.length:Int)+(x1.length:Int))) - 1)) 0))
def ep.l0:Nat→List Int→List Int→List Int→Int→Int→Option (List Int×Bool)
 | 0,_,_,_,_,_=>none
 | k+1,x0,x1,x6,zX,qh=>if qh<zX then (ep.l1 k x0 x1 x6 qh 0 (mx 0 (wrap64 ((wrap64 (qh - (x1.length:Int)))+1))) zX qh) else (some (x6,true))
def ep.l1:Nat→List Int→List Int→List Int→Int→Int→Int→Int→Int→Option (List Int×Bool)
 | 0,_,_,_,_,_,_,_,_=>none
 | k+1,x0,x1,x6,x7,x8,cR,zX,qh=>if cR≤(mn x7 (wrap64 ((x0.length:Int) - 1))) then (if 0≤cR then (if cR<(x0.length:Int) then (if 0≤(wrap64 (x7 - cR)) then (if (wrap64 (x7 - cR))<(x1.length:Int) then ((kV.f k x8 (rd x0 cR) (rd x1 (wrap64 (x7 - cR)))).bind fun tA=>(if tA.2=true then (ep.l1 k x0 x1 x6 x7 tA.1 (wrap64 (cR+1)) zX qh) else (some (([]:List Int),false)))) else (none)) else (none)) else (none)) else (none)) else (if x6.length<17592186044416 then (ep.l0 k x0 x1 (x6++[x8]) zX (wrap64 (qh+1))) else (none))
end
def ep.f (k:Nat) (l0:List Int) (l1:List Int):Option (List Int×Bool):=if (l0.length:Int)=0 then (ep.j0 k l0 l1 true) else (ep.j0 k l0 l1 ((l1.length:Int) == 0))
def ep.Kb:Bool×List (List Nat×List Nat):=(true,[([],[]),([],[]),([],[]),([1,2],[1,2]),([3],[3]),([],[]),([],[]),([],[]),([6,7],[6,7]),([5,8],[5,8]),([9],[9]),([0,4,10],[0,4,10]),([11],[11]),([12],[12]),([12],[12]),([13,11,0,1,2,3,4,5,6,7,8,9,10,11,12,13],[0,13]),([14,15,0,1,2,3,4,5,6,7,8,9,10,11,12,13,14,15],[14])])
def ep.SJ:List Nat:=[0,0,0,6,14,0,0,0,192,480,992,2047,4095,8191,8191,16383,65535]
theorem ep.Ke:gG .any (opsOf Try.f164 13)=ep.Kb:=by kernel_rfl
theorem ep.Kf:ko ep.Kb.2 ep.SJ=true:=by kernel_rfl
set_option maxHeartbeats 8000000 in
set_option maxRecDepth 100000 in
theorem ep.calls (k:Nat) (A0:Option Addr) (c0:Nat) (l0:List Int) (A1:Option Addr) (c1:Nat) (l1:List Int) (r1:List Int) (r2:Bool) (w:World) (hr0:Kd.C (Kd.int .i64) w A0 l0.length l0) (hc0:l0.length≤c0) (hr1:Kd.C (Kd.int .i64) w A1 l1.length l1) (hc1:l1.length≤c1) (h:ep.f k l0 l1=some (r1,r2)):
  Calls Try.prog 164 #[.slice A0 l0.length c0, .slice A1 l1.length c1] w fun e w'=>∃cP:Value,e= .returned (.tuple #[cP, .bool r2])∧Kd.R (Kd.int .i64) 2 w' w.heap.size (fun _=>True) cP r1∧Below w.heap.size w w':=by
 have dG:=m_ hr0;have gi:=m_ hc0;clear hr0 hc0;have je:=m_ hr1;have pR:=m_ hc1;clear hr1 hc1;have HB:=m_ (Below.refl w.heap.size w);have H:=h;unfold ep.f at H;clear h;have mS:=m_ H;clear H;go_enter Try.func164,Try.ntmps164;go_upto_region 1 with (fail)
 go_cut [18] (fun Vw wc=>∃(kq:Nat) (Vn:Bool),Vw= .bool Vn∧ah (ep.j0 kq l0 l1 Vn=some (r1,r2))∧ah (kq≤k)∧ah (Below w.heap.size w wc))
 case first=>
  have H:=mS.1;clear mS
  by_cases c4:(l0.length:Int)=0
  ·rw[if_pos c4]at H
   obtain⟨eU,pS⟩:=dz c4;clear c4;(first | rw[eU] | (simp only[eE,iC];rw[eU]) | skip);have H':=m_ H;clear H;go_wp2;go_meet
   case rel=>exact⟨_,(true),aJ,H',⟨by first | omega | exact Nat.le_refl _⟩,⟨aq⟩⟩
  ·rw[if_neg c4]at H
   obtain⟨eU,pS⟩:=dN c4;have QF: ¬(l0= []):=fun h_=>c4 (by rw[h_];rfl)
   (first | rw[eU] | (simp only[eE,iC];rw[eU]) | skip);have H':=m_ H;clear H;go_wp2;go_meet
   case rel=>exact⟨_,(((l1.length:Int) == 0)),aJ,H',⟨by first | omega | exact Nat.le_refl _⟩,⟨aq⟩⟩
 case rest=>
  clear mS;obtain⟨kq,Vn,rfl,HA,pT,HB⟩:=hcut;cases kq with
  | zero=>exact absurd HA.1 (by simp[ep.j0])
  | succ mm=>
   have H:=HA.1;clear HA;simp only[ep.j0]at H
   by_cases c5:Vn=true
   ·subst c5
    rw[if_pos rfl]at H;obtain⟨Vq,Vy,H⟩: ∃Vq:List Int,ah (Vq=(([]:List Int)))∧(some (Vq,true))=some (r1,r2):=⟨_,⟨rfl⟩,H⟩;simp only[Option.some.injEq,Prod.mk.injEq]at H;obtain⟨rfl,rfl⟩:=H;go_wp2_with (first | ((with_reducible refine bG (N:=19) rfl ?_);(try (refine fQ (by rfl) ?_;dsimp only));refine Kd.eF (Kd.int .i64) _ 2 ?hg (N:=19) ?hd (xs:=([]:List Int)) (inner:=[]) (ok:=fun _=>True) (bQ:=fun _=>True) ?hr ?hp (fun _ hk=>hk) trivial (Below.refl _ _) (Nat.le_refl _) (by simp) ?_;(case hd=>rfl);(case hg=>rfl);(case hr=>first | (go_simp;done) | (go_simp;rfl));(case hp=>exact(aT.none _ _));intro VI w6 kI hb bO bP;clear bO bP;rw[← Vy.1]at kI;have Vv:=m_ (Kd.cx kI (aE aq));replace HB:=m_ (aH aq hb);clear hb kI))
    go_ret2
    exact⟨_,cH,(Kd.ax Vv.1 aa),aq⟩
   ·replace c5:=Bool.eq_false_iff.mpr c5
    subst c5;rw[if_neg (show ¬(false=true) by decide)]at H
    by_cases c8:(wrap64 ((wrap64 ((l0.length:Int)+(l1.length:Int))) - 1))>40
    ·rw[if_pos c8]at H
     have kE:=decide_eq_true c8;clear c8;simp only[Option.some.injEq,Prod.mk.injEq]at H;obtain⟨rfl,rfl⟩:=H;go_wp2
     go_ret2
     exact⟨_,cH,by first | exact Kd.kK _ _ _ _ _ | exact Kd.nH _ _ _ _ _ | exact Kd.nI _ _ _ _ _ | exact Kd.nJ _ _ _ _ _ | exact Kd.nK _ _ _ _ _,aq⟩
    ·rw[if_neg c8]at H
     have kE:=decide_eq_false c8;clear c8;obtain⟨Vm,Vx,H⟩: ∃Vm:List Int,ah (Vm=(([]:List Int)))∧(ep.l0 mm l0 l1 Vm (wrap64 ((wrap64 ((l0.length:Int)+(l1.length:Int))) - 1)) 0)=some (r1,r2):=⟨_,⟨rfl⟩,H⟩;have H':=m_ H;clear H;go_wp2_with (first | ((with_reducible refine bG (N:=27) rfl ?_);(try (refine fQ (by rfl) ?_;dsimp only));refine Kd.eF (Kd.int .i64) _ 2 ?hg (N:=27) ?hd (xs:=([]:List Int)) (inner:=[]) (ok:=fun _=>True) (bQ:=fun _=>True) ?hr ?hp (fun _ hk=>hk) trivial (Below.refl _ _) (Nat.le_refl _) (by simp) ?_;(case hd=>rfl);(case hg=>rfl);(case hr=>first | (go_simp;done) | (go_simp;rfl));(case hp=>exact(aT.none _ _));intro VD w9 rO hb bO bP;clear bO bP;rw[← Vx.1]at rO;have VC:=m_ (Kd.cx rO (aE aq));replace HB:=m_ (aH aq hb);clear hb rO));go_loopg [6,34] mm (fun kq v6 VA w'=>∃(bh:List Int) (U8:Int),VA= .int .i64 U8∧ah (ep.l0 kq l0 l1 bh (wrap64 ((wrap64 ((l0.length:Int)+(l1.length:Int))) - 1)) U8=some (r1,r2))∧ah (kq≤mm)∧ah (Kd.R (Kd.int .i64) 2 w' w.heap.size (fun _=>True) v6 bh)∧ah (Below w.heap.size w w'))
     case atStart=>exact⟨(Vm),(0),aJ,H',⟨Nat.le_refl _⟩,⟨Kd.ax VC.1 aa⟩,⟨aq⟩⟩
     case round=>
      clear H';obtain⟨bh,U8,rfl,HA,bX,bf,HB⟩:=hrel;cases gk with
      | zero=>exact absurd HA.1 (by simp[ep.l0])
      | succ k2=>
       have H:=HA.1;clear HA;simp only[ep.l0]at H
       by_cases c11:U8<(wrap64 ((wrap64 ((l0.length:Int)+(l1.length:Int))) - 1))
       ·rw[if_pos c11]at H
        have jh:=decide_eq_true c11;clear c11;obtain⟨Vu,Ve⟩: ∃j_:Int,(mx 0 (wrap64 ((wrap64 (U8 - (l1.length:Int)))+1)))=j_:=⟨_,rfl⟩;(try rw[Ve]);replace H:(ep.l1 k2 l0 l1 bh U8 0 Vu (wrap64 ((wrap64 ((l0.length:Int)+(l1.length:Int))) - 1)) U8)=some (r1,r2):=by first | (rw[Ve]at H;exact H) | (simp only[Ve]at H ⊢;exact H)
        have VG:(if 0<(wrap64 ((wrap64 (U8 - (l1.length:Int)))+1)) then (wrap64 ((wrap64 (U8 - (l1.length:Int)))+1)) else 0)=Vu:=Ve;have H':=m_ H;clear H;go_wp2;go_loopg [8,10] k2 (fun kq v8 v10 w'=>∃(jD:Int) (U7:Int),v8= .int .i64 jD∧v10= .int .i64 U7∧ah (ep.l1 kq l0 l1 bh U8 jD U7 (wrap64 ((wrap64 ((l0.length:Int)+(l1.length:Int))) - 1)) U8=some (r1,r2))∧ah (kq≤k2)∧ah (Kd.R (Kd.int .i64) 2 w' w.heap.size (fun _=>True) u6 bh)∧ah (Below w.heap.size w w'))
        case atStart=>exact⟨(0),(Vu),aJ,(by first | rfl | (simp;done) | (simp only[← Ve]<;>(first | rfl | simp)) | (simp[*];done)),H',⟨Nat.le_refl _⟩,⟨Kd.ax bf.1 aa⟩,⟨aq⟩⟩
        case round=>
         clear H';obtain⟨jD,U7,rfl,rfl,HA,eG,bf,HB⟩:=hrel;cases gk with
         | zero=>exact absurd HA.1 (by simp[ep.l1])
         | succ k3=>
          have H:=HA.1;clear HA;simp only[ep.l1]at H;obtain⟨Vo,Vh⟩: ∃j_:Int,(mn U8 (wrap64 ((l0.length:Int) - 1)))=j_:=⟨_,rfl⟩;(try rw[Vh]);replace H:(if U7≤(Vo) then (if 0≤U7 then (if U7<(l0.length:Int) then (if 0≤(wrap64 (U8 - U7)) then (if (wrap64 (U8 - U7))<(l1.length:Int) then ((kV.f k3 jD (rd l0 U7) (rd l1 (wrap64 (U8 - U7)))).bind fun tA=>(if tA.2=true then (ep.l1 k3 l0 l1 bh U8 tA.1 (wrap64 (U7+1)) (wrap64 ((wrap64 ((l0.length:Int)+(l1.length:Int))) - 1)) U8) else (some (([]:List Int),false)))) else (none)) else (none)) else (none)) else (none)) else (if bh.length<17592186044416 then (ep.l0 k3 l0 l1 (bh++[jD]) (wrap64 ((wrap64 ((l0.length:Int)+(l1.length:Int))) - 1)) (wrap64 (U8+1))) else (none)))=some (r1,r2):=by first | (rw[Vh]at H;exact H) | (simp only[Vh]at H ⊢;exact H)
          have VF:(if (wrap64 ((l0.length:Int) - 1))<U8 then (wrap64 ((l0.length:Int) - 1)) else U8)=Vo:=Vh
          by_cases c14:U7≤(Vo)
          ·rw[if_pos c14]at H
           have kW:=decide_eq_true c14;clear c14;obtain⟨c15,H⟩:=aU H;have iO:=decide_eq_true c15;clear c15;obtain⟨c16,H⟩:=aU H;have oM:=decide_eq_true c16;clear c16;obtain⟨U9,Vf⟩: ∃j_:Int,(wrap64 (U8 - U7))=j_:=⟨_,rfl⟩;(try rw[Vf]);replace H:(if 0≤(U9) then (if (U9)<(l1.length:Int) then ((kV.f k3 jD (rd l0 U7) (rd l1 (U9))).bind fun tA=>(if tA.2=true then (ep.l1 k3 l0 l1 bh U8 tA.1 (wrap64 (U7+1)) (wrap64 ((wrap64 ((l0.length:Int)+(l1.length:Int))) - 1)) U8) else (some (([]:List Int),false)))) else (none)) else (none))=some (r1,r2):=by first | (rw[Vf]at H;exact H) | (simp only[Vf]at H ⊢;exact H)
           have VH:(IntKind.i64.wrap (U8 - U7))=U9:=(eE _).trans Vf;obtain⟨c18,H⟩:=aU H;have oO:=decide_eq_true c18;clear c18;obtain⟨c19,H⟩:=aU H;have kY:=decide_eq_true c19;clear c19;obtain⟨⟨t123,t124⟩,qx,H⟩:=bL H;dsimp only at H
           by_cases gY:t124=true
           ·subst gY
            rw[if_pos rfl]at H;have H':=m_ H;clear H
            try go_wp2
            replace bf:=m_ (Kd.cK bf.1);replace HB:=m_ (gQ HB.1);have Vj:0≤(U7:Int):=ak;have Vk:U7<(l0.length:Int):=ak;obtain⟨Vs,Vt,Va⟩:=Kd.cD dG.1 U7 Vj Vk;have Vc:=Va;cases Vt;(try replace Va:=(HB.1.cell (World.block_lt_of_cell? w _ Va)).trans Va);replace Vj:=eq_true Vj;replace Vk:=eq_true Vk;have Vi:0≤((U9):Int):=ak;have Vg:(U9)<(l1.length:Int):=ak;obtain⟨Vr,Vp,Vb⟩:=Kd.cD je.1 (U9) Vi Vg;have Vd:=Vb;cases Vp;(try replace Vb:=(HB.1.cell (World.block_lt_of_cell? w _ Vb)).trans Vb);replace Vi:=eq_true Vi;replace Vg:=eq_true Vg;refine jr (n:=17) (S:=fun w'=>w'.cell? (Vs.add (U7).toNat)=some (.int .i64 (rd l0 U7))∧w'.cell? (Vr.add ((U9)).toNat)=some (.int .i64 (rd l1 (U9)))) (ds:=[]) #[false,false,false,false,false,false,false,false,false,false,false,false,false,false,false,false,false] (by kernel_rfl) rfl rfl ⟨((HB.1.cell (World.block_lt_of_cell? _ _ Vc)).trans Vc),((HB.1.cell (World.block_lt_of_cell? _ _ Vd)).trans Vd)⟩ (fun hHeld=> ?_);refine kr ep.Ke ep.Kf (fun eD ku=> ?_);generalize wr.drew=kZ at bf HB Va Vb hHeld ⊢;refine aQ 0 17 53 1 ?_;refine aQ 1 17 54 3 ?_;refine aQ 2 17 55 7 ?_;refine aQ 3 17 56 15 ?_;refine aQ 5 17 58 47 ?_;refine aQ 6 17 59 111 ?_;refine aQ 7 17 60 239 ?_;refine aQ 8 17 61 495 ?_;refine aQ 9 17 62 1007 ?_;refine dA 4 17 57 1023 hHeld ?_;refine dA 10 17 63 2047 hHeld ?_;refine kM 11 17 (some 64) 4095 (fun K hK=> ?_);refine kD Try.func168 (by kernel_rfl) rfl #[.int .i64 jD, .int .i64 (rd l0 U7), .int .i64 (rd l1 (U9))] (by rfl) rfl rfl (by(try simp only[List.map_toArray,List.map_cons,List.map_nil]);first | done | (simp only[Vf];rfl) | rfl | (simp only[List.length_drop,List.length_take];rfl)) ?_
            with_reducible refine(kV.calls k3 jD (rd l0 U7) (rd l1 (U9)) t123 true _ qx.1).mono ?_
            rintro e ry ⟨rfl,hb⟩;refine⟨_,rfl, ?_⟩;replace bf:=m_ (Kd.ax (Kd.ax bf.1 aa) hb);replace HB:=m_ (aH aq hb);refine hK.out _ _ ⟨((HB.1.cell (World.block_lt_of_cell? _ _ Vc)).trans Vc),((HB.1.cell (World.block_lt_of_cell? _ _ Vd)).trans Vd)⟩ (fun hHeld=> ?_);clear hK K;refine iH ?_;refine aQ 12 17 52 8191 ?_;refine aQ 13 17 65 16383 ?_;refine aQ 14 17 66 32767 ?_;refine aQ 15 17 8 65535 ?_;refine aQ 16 17 9 131071 ?_;refine js (kz eD.1 (by kernel_rfl)) ?_
            try go_wp2
            first | go_roundg k3 | ((try subst Vf);(try subst Vh);(try subst Ve);go_roundg k3)
            case measure=>have:=pT.1;have:=bX.1;have:=eG.1;omega
            case rel=>exact⟨(t123),(wrap64 (U7+1)),aJ,aJ,H',⟨by have:=pT.1;have:=bX.1;have:=eG.1;omega⟩,⟨Kd.ax bf.1 aa⟩,⟨aq⟩⟩
           ·replace gY:=Bool.eq_false_iff.mpr gY
            subst gY;rw[if_neg (show ¬(false=true) by decide)]at H;simp only[Option.some.injEq,Prod.mk.injEq]at H;obtain⟨rfl,rfl⟩:=H
            try go_wp2
            replace bf:=m_ (Kd.cK bf.1);replace HB:=m_ (gQ HB.1);have Vj:0≤(U7:Int):=ak;have Vk:U7<(l0.length:Int):=ak;obtain⟨Vs,Vt,Va⟩:=Kd.cD dG.1 U7 Vj Vk;have Vc:=Va;cases Vt;(try replace Va:=(HB.1.cell (World.block_lt_of_cell? w _ Va)).trans Va);replace Vj:=eq_true Vj;replace Vk:=eq_true Vk;have Vi:0≤((U9):Int):=ak;have Vg:(U9)<(l1.length:Int):=ak;obtain⟨Vr,Vp,Vb⟩:=Kd.cD je.1 (U9) Vi Vg;have Vd:=Vb;cases Vp;(try replace Vb:=(HB.1.cell (World.block_lt_of_cell? w _ Vb)).trans Vb);replace Vi:=eq_true Vi;replace Vg:=eq_true Vg;refine jr (n:=17) (S:=fun w'=>w'.cell? (Vs.add (U7).toNat)=some (.int .i64 (rd l0 U7))∧w'.cell? (Vr.add ((U9)).toNat)=some (.int .i64 (rd l1 (U9)))) (ds:=[]) #[false,false,false,false,false,false,false,false,false,false,false,false,false,false,false,false,false] (by kernel_rfl) rfl rfl ⟨((HB.1.cell (World.block_lt_of_cell? _ _ Vc)).trans Vc),((HB.1.cell (World.block_lt_of_cell? _ _ Vd)).trans Vd)⟩ (fun hHeld=> ?_);refine kr ep.Ke ep.Kf (fun eD ku=> ?_);generalize wr.drew=oL at bf HB Va Vb hHeld ⊢;refine aQ 0 17 53 1 ?_;refine aQ 1 17 54 3 ?_;refine aQ 2 17 55 7 ?_;refine aQ 3 17 56 15 ?_;refine aQ 5 17 58 47 ?_;refine aQ 6 17 59 111 ?_;refine aQ 7 17 60 239 ?_;refine aQ 8 17 61 495 ?_;refine aQ 9 17 62 1007 ?_;refine dA 4 17 57 1023 hHeld ?_;refine dA 10 17 63 2047 hHeld ?_;refine kM 11 17 (some 64) 4095 (fun K hK=> ?_);refine kD Try.func168 (by kernel_rfl) rfl #[.int .i64 jD, .int .i64 (rd l0 U7), .int .i64 (rd l1 (U9))] (by rfl) rfl rfl (by(try simp only[List.map_toArray,List.map_cons,List.map_nil]);first | done | (simp only[Vf];rfl) | rfl | (simp only[List.length_drop,List.length_take];rfl)) ?_
            with_reducible refine(kV.calls k3 jD (rd l0 U7) (rd l1 (U9)) t123 false _ qx.1).mono ?_
            rintro e wY ⟨rfl,hb⟩;refine⟨_,rfl, ?_⟩;replace bf:=m_ (Kd.ax (Kd.ax bf.1 aa) hb);replace HB:=m_ (aH aq hb);refine hK.out _ _ ⟨((HB.1.cell (World.block_lt_of_cell? _ _ Vc)).trans Vc),((HB.1.cell (World.block_lt_of_cell? _ _ Vd)).trans Vd)⟩ (fun hHeld=> ?_);clear hK K;refine iH ?_;refine aQ 12 17 52 8191 ?_;refine aQ 13 17 65 16383 ?_;refine aQ 14 17 66 32767 ?_;refine aQ 15 17 8 65535 ?_;refine aQ 16 17 9 131071 ?_;refine js (kz eD.1 (by kernel_rfl)) ?_
            try go_wp2
            go_ret2
            exact⟨_,by first | rfl | (simp[iR,iS]<;>rfl) | (simp only[← Ve,← Vh,← Vf];first | rfl | (simp[iR,iS]<;>rfl)) | (simp[*,iR,iS]<;>rfl),by first | exact Kd.kK _ _ _ _ _ | exact Kd.nH _ _ _ _ _ | exact Kd.nI _ _ _ _ _ | exact Kd.nJ _ _ _ _ _ | exact Kd.nK _ _ _ _ _,aq⟩
          ·rw[if_neg c14]at H
           have kW:=decide_eq_false c14;clear c14;obtain⟨jI,H⟩:=aU H;have FI:=m_ jI;clear jI;obtain⟨Vl,VB,H⟩: ∃Vl:List Int,ah (Vl=(bh++[jD]))∧(ep.l0 k3 l0 l1 Vl (wrap64 ((wrap64 ((l0.length:Int)+(l1.length:Int))) - 1)) (wrap64 (U8+1)))=some (r1,r2):=⟨_,⟨rfl⟩,H⟩;have H':=m_ H;clear H;go_wp2_with (first | ((with_reducible refine fG (b:= .append) (xs:= #[.tmp 69, .tmp 71]) rfl ?_);(try (refine fQ (by rfl) ?_;dsimp only));at_builtin;refine Kd.lP (Kd.int .i64) (w0:=w) w.heap.size rfl (.tmp 69) (.tmp 71) 29 2 (.int .i64 0) 8 rfl Try.underlying29 jf rfl (by decide) (by omega) u6 bh jD [.int .i64 jD] (fun _=>True) (fun _=>False) rfl rfl ?aP (fun _ hk=>hk.elim) ?aF ?aO ?aB ?aS ?aL ?_;(case aP=>exact rfl);(case aB=>exact aq);(case aF=>exact(fun _ _=>trivial));(case aO=>exact(Kd.ax bf.1 aa));(case aS=>exact(aE aq));(case aL=>have:=FI.1;omega);intro VE nG ho hb hg hat;rw[← VB.1]at ho;replace HB:=m_ (hb);have Vz:=m_ (ho);clear bf;clear ho hb hg hat))
           first | go_roundg k3 | ((try subst Vh);(try subst Ve);go_roundg k3)
           case measure=>have:=pT.1;have:=bX.1;have:=eG.1;omega
           case rel=>exact⟨(Vl),(wrap64 (U8+1)),aJ,H',⟨by have:=pT.1;have:=bX.1;have:=eG.1;omega⟩,⟨Kd.ax Vz.1 aa⟩,⟨aq⟩⟩
       ·rw[if_neg c11]at H
        have jh:=decide_eq_false c11;clear c11;simp only[Option.some.injEq,Prod.mk.injEq]at H;obtain⟨rfl,rfl⟩:=H;go_wp2
        go_ret2
        exact⟨_,cH,(Kd.ax bf.1 aa),aq⟩

/-! ### impl_MultiplyWhole: function 58 -/
def pN.f (k:Nat) (l0:List Int) (l1:List Int):Option (List Int×Int):=(qv.f k (([l0,l1]:List (List Int)))).bind fun t131=>(if t131=true then ((ep.f k l0 l1).bind fun U7=>(if U7.2=true then (some (U7.1,0)) else (some (([]:List Int),3)))) else (some (([]:List Int),1)))
set_option maxHeartbeats 8000000 in
set_option maxRecDepth 100000 in
theorem pN.calls (k:Nat) (gU:Nat→Prop) (A0:Option Addr) (c0:Nat) (l0:List Int) (U8:Nat→Prop) (A1:Option Addr) (c1:Nat) (l1:List Int) (r1:List Int) (r2:Int) (w:World) (hs0:Kd.V (Kd.int .i64) 2 w w.heap.size (fun k_=>gU k_) (.slice A0 l0.length c0) l0) (hs1:Kd.V (Kd.int .i64) 2 w w.heap.size (fun k_=>U8 k_) (.slice A1 l1.length c1) l1) (h:pN.f k l0 l1=some (r1,r2)):
  Calls Try.prog 58 #[.slice A0 l0.length c0, .slice A1 l1.length c1] w fun e w'=>∃cP:Value,e= .returned (.tuple #[cP, .int .i64 r2])∧Kd.R (Kd.int .i64) 2 w' w.heap.size (fun k_=>(w.heap.size≤k_)) cP r1∧Below w.heap.size w w':=by
 have iI:=m_ (show Kd.V (Kd.int .i64) 2 w w.heap.size (fun k_=>((gU k_∨U8 k_)∨w.heap.size≤k_)) (.slice A0 l0.length c0) l0 from Kd.bT hs0 (fun k_ hk=> .inl (.inl hk)));have U7:=m_ (show Kd.V (Kd.int .i64) 2 w w.heap.size (fun k_=>((gU k_∨U8 k_)∨w.heap.size≤k_)) (.slice A1 l1.length c1) l1 from Kd.bT hs1 (fun k_ hk=> .inl (.inr hk)));have HB:=m_ (Below.refl w.heap.size w);have H:=h;unfold pN.f at H;clear h;obtain⟨Va,Vc⟩: ∃y_,ah (y_=([l0,l1]:List (List Int))):=⟨_,⟨rfl⟩⟩;rw[← Vc.1]at H;obtain⟨t131,A3,H⟩:=bL H
 by_cases c4:t131=true
 ·subst c4
  rw[if_pos rfl]at H;obtain⟨⟨t132,t133⟩,A5,H⟩:=bL H;dsimp only at H
  by_cases c6:t133=true
  ·subst c6
   rw[if_pos rfl]at H;simp only[Option.some.injEq,Prod.mk.injEq]at H;obtain⟨rfl,rfl⟩:=H;go_enter Try.func58,Try.ntmps58;go_wp2_with (first | ((with_reducible refine bG (N:=10) rfl ?_);refine Kd.FJ (Kd.slice 2 (Kd.int .i64)) _ 29 ?hg (N':=10) ?hd (xs:=([l0,l1]:List (List Int))) (inner:=[.slice A0 l0.length c0, .slice A1 l1.length c1]) (ok:=(fun k_=>((gU k_∨U8 k_)∨w.heap.size≤k_))) (bQ:=(fun k_=>((gU k_∨U8 k_)∨w.heap.size≤k_))) ?hr ?hp (fun _ hk=>hk) ((show ∀k_,w.heap.size≤k_→(fun k_=>((gU k_∨U8 k_)∨w.heap.size≤k_)) k_ from fun k_ hk=>(.inr (Nat.le_trans (aE aq) hk))) _ (Nat.le_refl _)) (Below.refl _ _) (Nat.le_refl _) (by simp) ?_;(case hd=>rfl);(case hg=>rfl);(case hr=>first | (go_simp;done) | (go_simp;rfl));(case hp=>exact(aT.one (show Kd.FK (Kd.slice 2 (Kd.int .i64)) _ _ l0 [.slice A0 l0.length c0] from(Kd.xF (Kd.dQ (Kd.bT (ok':=(fun k_=>((gU k_∨U8 k_)∨w.heap.size≤k_))) (iI.1) (fun k_ hk=>hk))).2.1 (Kd.xG (Kd.bT (ok':=(fun k_=>((gU k_∨U8 k_)∨w.heap.size≤k_))) (iI.1) (fun k_ hk=>hk))))) (aT.one (show Kd.FK (Kd.slice 2 (Kd.int .i64)) _ _ l1 [.slice A1 l1.length c1] from(Kd.xF (Kd.dQ (Kd.bT (ok':=(fun k_=>((gU k_∨U8 k_)∨w.heap.size≤k_))) (U7.1) (fun k_ hk=>hk))).2.1 (Kd.xG (Kd.bT (ok':=(fun k_=>((gU k_∨U8 k_)∨w.heap.size≤k_))) (U7.1) (fun k_ hk=>hk))))) (aT.none _ _))));intro Ve w7 jN hb bO bP;clear bO bP;rw[← Vc.1]at jN;replace iI:=m_ (Kd.ez (Kd.bz iI.1 aa) (Kd.xH jN) hb);replace U7:=m_ (Kd.ez (Kd.bz U7.1 aa) (Kd.xH jN) hb);have U9:=m_ (Kd.FL jN (aE aq));replace HB:=m_ (aH aq hb);clear hb jN;obtain⟨rN,oF,vD⟩:=Kd.FM U9.1;subst vD) | ((with_reducible refine bF (f:=163) rfl ?_);refine bI (some 11) Try.func163 #[.slice rN Va.length oF] ?_;(with_reducible refine(qv.calls k _ _ Va true _ ?aA ?aC A3.1).mono ?_);(case aA=>exact Kd.aN (Kd.xI U9.1).2.2 aa);(case aC=>exact(Kd.xI U9.1).2.1);rintro e jJ ⟨rfl,hb⟩;refine⟨_,rfl, ?_⟩;replace iI:=m_ (Kd.bz (Kd.bz iI.1 aa) hb);replace U7:=m_ (Kd.bz (Kd.bz U7.1 aa) hb);replace U9:=m_ (Kd.rT (Kd.rT U9.1 aa) hb);replace HB:=m_ (aH aq hb);clear hb) | ((with_reducible refine bF (f:=164) rfl ?_);refine bI (some 16) Try.func164 #[.slice A0 l0.length c0, .slice A1 l1.length c1] ?_;(with_reducible refine(ep.calls k _ _ l0 _ _ l1 t132 true _ ?aA ?aC ?eA ?eX A5.1).mono ?_);(case aA=>exact Kd.aN (Kd.dQ iI.1).2.2 aa);(case aC=>exact(Kd.dQ iI.1).2.1);(case eA=>exact Kd.aN (Kd.dQ U7.1).2.2 aa);(case eX=>exact(Kd.dQ U7.1).2.1);rintro e ux ⟨Vf,rfl,az,hb⟩;refine⟨_,rfl, ?_⟩;replace iI:=m_ (Kd.ez (Kd.bz iI.1 aa) (Kd.bu az) hb);replace U7:=m_ (Kd.ez (Kd.bz U7.1 aa) (Kd.bu az) hb);replace U9:=m_ (Kd.Kg (Kd.rT U9.1 aa) (Kd.bu az) hb);have Vd:=m_ (Kd.cx (Kd.rM (M:=fun k_=>(w.heap.size≤k_)) az (aE aq) (fun k_ h_=>h_)) (aE aq));replace HB:=m_ (aH aq hb);clear hb;(try clear az)))
   go_ret2
   exact⟨_,cH,by(with_reducible repeat (first | apply Kd.dB | apply Kd.dD | apply Kd.cK));exact Kd.bg Vd.1 (fun _ hk=>hk.1),aq⟩
  ·replace c6:=Bool.eq_false_iff.mpr c6
   subst c6;rw[if_neg (show ¬(false=true) by decide)]at H;simp only[Option.some.injEq,Prod.mk.injEq]at H;obtain⟨rfl,rfl⟩:=H;go_enter Try.func58,Try.ntmps58;go_wp2_with (first | ((with_reducible refine bG (N:=10) rfl ?_);refine Kd.FJ (Kd.slice 2 (Kd.int .i64)) _ 29 ?hg (N':=10) ?hd (xs:=([l0,l1]:List (List Int))) (inner:=[.slice A0 l0.length c0, .slice A1 l1.length c1]) (ok:=(fun k_=>((gU k_∨U8 k_)∨w.heap.size≤k_))) (bQ:=(fun k_=>((gU k_∨U8 k_)∨w.heap.size≤k_))) ?hr ?hp (fun _ hk=>hk) ((show ∀k_,w.heap.size≤k_→(fun k_=>((gU k_∨U8 k_)∨w.heap.size≤k_)) k_ from fun k_ hk=>(.inr (Nat.le_trans (aE aq) hk))) _ (Nat.le_refl _)) (Below.refl _ _) (Nat.le_refl _) (by simp) ?_;(case hd=>rfl);(case hg=>rfl);(case hr=>first | (go_simp;done) | (go_simp;rfl));(case hp=>exact(aT.one (show Kd.FK (Kd.slice 2 (Kd.int .i64)) _ _ l0 [.slice A0 l0.length c0] from(Kd.xF (Kd.dQ (Kd.bT (ok':=(fun k_=>((gU k_∨U8 k_)∨w.heap.size≤k_))) (iI.1) (fun k_ hk=>hk))).2.1 (Kd.xG (Kd.bT (ok':=(fun k_=>((gU k_∨U8 k_)∨w.heap.size≤k_))) (iI.1) (fun k_ hk=>hk))))) (aT.one (show Kd.FK (Kd.slice 2 (Kd.int .i64)) _ _ l1 [.slice A1 l1.length c1] from(Kd.xF (Kd.dQ (Kd.bT (ok':=(fun k_=>((gU k_∨U8 k_)∨w.heap.size≤k_))) (U7.1) (fun k_ hk=>hk))).2.1 (Kd.xG (Kd.bT (ok':=(fun k_=>((gU k_∨U8 k_)∨w.heap.size≤k_))) (U7.1) (fun k_ hk=>hk))))) (aT.none _ _))));intro Ve nB nS hb bO bP;clear bO bP;rw[← Vc.1]at nS;replace iI:=m_ (Kd.ez (Kd.bz iI.1 aa) (Kd.xH nS) hb);replace U7:=m_ (Kd.ez (Kd.bz U7.1 aa) (Kd.xH nS) hb);have U9:=m_ (Kd.FL nS (aE aq));replace HB:=m_ (aH aq hb);clear hb nS;obtain⟨fR,fM,ru⟩:=Kd.FM U9.1;subst ru) | ((with_reducible refine bF (f:=163) rfl ?_);refine bI (some 11) Try.func163 #[.slice fR Va.length fM] ?_;(with_reducible refine(qv.calls k _ _ Va true _ ?aA ?aC A3.1).mono ?_);(case aA=>exact Kd.aN (Kd.xI U9.1).2.2 aa);(case aC=>exact(Kd.xI U9.1).2.1);rintro e vn ⟨rfl,hb⟩;refine⟨_,rfl, ?_⟩;replace iI:=m_ (Kd.bz (Kd.bz iI.1 aa) hb);replace U7:=m_ (Kd.bz (Kd.bz U7.1 aa) hb);replace U9:=m_ (Kd.rT (Kd.rT U9.1 aa) hb);replace HB:=m_ (aH aq hb);clear hb) | ((with_reducible refine bF (f:=164) rfl ?_);refine bI (some 16) Try.func164 #[.slice A0 l0.length c0, .slice A1 l1.length c1] ?_;(with_reducible refine(ep.calls k _ _ l0 _ _ l1 t132 false _ ?aA ?aC ?eA ?eX A5.1).mono ?_);(case aA=>exact Kd.aN (Kd.dQ iI.1).2.2 aa);(case aC=>exact(Kd.dQ iI.1).2.1);(case eA=>exact Kd.aN (Kd.dQ U7.1).2.2 aa);(case eX=>exact(Kd.dQ U7.1).2.1);rintro e BC ⟨Vf,rfl,az,hb⟩;refine⟨_,rfl, ?_⟩;replace iI:=m_ (Kd.ez (Kd.bz iI.1 aa) (Kd.bu az) hb);replace U7:=m_ (Kd.ez (Kd.bz U7.1 aa) (Kd.bu az) hb);replace U9:=m_ (Kd.Kg (Kd.rT U9.1 aa) (Kd.bu az) hb);have Vd:=m_ (Kd.cx (Kd.rM (M:=fun k_=>(w.heap.size≤k_)) az (aE aq) (fun k_ h_=>h_)) (aE aq));replace HB:=m_ (aH aq hb);clear hb;(try clear az)))
   go_ret2
   exact⟨_,cH,by first | exact Kd.kK _ _ _ _ _ | exact Kd.nH _ _ _ _ _ | exact Kd.nI _ _ _ _ _ | exact Kd.nJ _ _ _ _ _ | exact Kd.nK _ _ _ _ _,aq⟩
 ·replace c4:=Bool.eq_false_iff.mpr c4
  subst c4;rw[if_neg (show ¬(false=true) by decide)]at H;simp only[Option.some.injEq,Prod.mk.injEq]at H;obtain⟨rfl,rfl⟩:=H;go_enter Try.func58,Try.ntmps58;go_wp2_with (first | ((with_reducible refine bG (N:=10) rfl ?_);refine Kd.FJ (Kd.slice 2 (Kd.int .i64)) _ 29 ?hg (N':=10) ?hd (xs:=([l0,l1]:List (List Int))) (inner:=[.slice A0 l0.length c0, .slice A1 l1.length c1]) (ok:=(fun k_=>((gU k_∨U8 k_)∨w.heap.size≤k_))) (bQ:=(fun k_=>((gU k_∨U8 k_)∨w.heap.size≤k_))) ?hr ?hp (fun _ hk=>hk) ((show ∀k_,w.heap.size≤k_→(fun k_=>((gU k_∨U8 k_)∨w.heap.size≤k_)) k_ from fun k_ hk=>(.inr (Nat.le_trans (aE aq) hk))) _ (Nat.le_refl _)) (Below.refl _ _) (Nat.le_refl _) (by simp) ?_;(case hd=>rfl);(case hg=>rfl);(case hr=>first | (go_simp;done) | (go_simp;rfl));(case hp=>exact(aT.one (show Kd.FK (Kd.slice 2 (Kd.int .i64)) _ _ l0 [.slice A0 l0.length c0] from(Kd.xF (Kd.dQ (Kd.bT (ok':=(fun k_=>((gU k_∨U8 k_)∨w.heap.size≤k_))) (iI.1) (fun k_ hk=>hk))).2.1 (Kd.xG (Kd.bT (ok':=(fun k_=>((gU k_∨U8 k_)∨w.heap.size≤k_))) (iI.1) (fun k_ hk=>hk))))) (aT.one (show Kd.FK (Kd.slice 2 (Kd.int .i64)) _ _ l1 [.slice A1 l1.length c1] from(Kd.xF (Kd.dQ (Kd.bT (ok':=(fun k_=>((gU k_∨U8 k_)∨w.heap.size≤k_))) (U7.1) (fun k_ hk=>hk))).2.1 (Kd.xG (Kd.bT (ok':=(fun k_=>((gU k_∨U8 k_)∨w.heap.size≤k_))) (U7.1) (fun k_ hk=>hk))))) (aT.none _ _))));intro Ve Bn Vb hb bO bP;clear bO bP;rw[← Vc.1]at Vb;replace iI:=m_ (Kd.ez (Kd.bz iI.1 aa) (Kd.xH Vb) hb);replace U7:=m_ (Kd.ez (Kd.bz U7.1 aa) (Kd.xH Vb) hb);have U9:=m_ (Kd.FL Vb (aE aq));replace HB:=m_ (aH aq hb);clear hb Vb;obtain⟨pX,eV,pY⟩:=Kd.FM U9.1;subst pY) | ((with_reducible refine bF (f:=163) rfl ?_);refine bI (some 11) Try.func163 #[.slice pX Va.length eV] ?_;(with_reducible refine(qv.calls k _ _ Va false _ ?aA ?aC A3.1).mono ?_);(case aA=>exact Kd.aN (Kd.xI U9.1).2.2 aa);(case aC=>exact(Kd.xI U9.1).2.1);rintro e pZ ⟨rfl,hb⟩;refine⟨_,rfl, ?_⟩;replace iI:=m_ (Kd.bz (Kd.bz iI.1 aa) hb);replace U7:=m_ (Kd.bz (Kd.bz U7.1 aa) hb);replace U9:=m_ (Kd.rT (Kd.rT U9.1 aa) hb);replace HB:=m_ (aH aq hb);clear hb))
  go_ret2
  exact⟨_,cH,by first | exact Kd.kK _ _ _ _ _ | exact Kd.nH _ _ _ _ _ | exact Kd.nI _ _ _ _ _ | exact Kd.nJ _ _ _ _ _ | exact Kd.nK _ _ _ _ _,aq⟩

/-! ### impl_IsGraph: function 136 -/
def iA.l0:Nat→List (List Int)→Int→Int→Int→List (List Int)→Option (Bool)
 | 0,_,_,_,_,_=>none
 | k+1,x6,x7,x8,U7,U8=>if x8<x7 then (if 0≤x8 then (if x8<(x6.length:Int) then (if ((af x6 x8).length:Int)=2 then (if 0<((af x6 x8).length:Int) then ((iz.f (rd (af x6 x8) 0) 0 (wrap64 (U7 - 1))).bind fun t140=>(if t140=true then (if 1<((af x6 x8).length:Int) then ((iz.f (rd (af x6 x8) 1) 0 (wrap64 (U7 - 1))).bind fun t142=>(if t142=true then (iA.l0 k x6 x7 (wrap64 (x8+1)) U7 U8) else (some false))) else (none)) else (some false))) else (none)) else (some false)) else (none)) else (none)) else ((iz.f U7 1 8).bind fun t137=>(if t137=true then (some (decide ((U8.length:Int)≤10))) else (some false)))
def iA.f (k:Nat) (au:Int) (ag:List (List Int)):Option (Bool):=iA.l0 k ag (ag.length:Int) 0 au ag
set_option maxHeartbeats 8000000 in
set_option maxRecDepth 100000 in
theorem iA.calls (k:Nat) (au:Int) (bn:Option Addr) (bk:Nat) (ag:List (List Int)) (r:Bool) (w:World) (cZ:Kd.C (Kd.slice 2 (Kd.int .i64)) w bn ag.length ag) (dh:ag.length≤bk) (h:iA.f k au ag=some r):
  Calls Try.prog 136 #[.agg #[.int .i64 au, .slice bn ag.length bk]] w fun e w'=>e= .returned (.bool r)∧Below w.heap.size w w':=by
 have gX:=Try.underlying26;have cE:=m_ cZ;have dw:=m_ dh;clear cZ dh;have HB:=m_ (Below.refl w.heap.size w);have H:=h;unfold iA.f at H;clear h;have H':=m_ H;clear H;go_enter Try.func136,Try.ntmps136;go_wp2_with (first | ((with_reducible refine bG (N:=1) rfl ?_);(try (refine fQ (by rfl) ?_;dsimp only));refine cO (N:=1) (cs:= #[.int .i64 au, .slice bn ag.length bk]) (t:=26) ?_;intro Vh hg w2 aM hb;have U7:=m_ (aM);have Vv:=m_ ((by rw[hg];exact(aE aq):w.heap.size≤Vh));have Vw:=m_ ((by rw[hg];exact(aE aq):w.heap.size≤Vh));replace HB:=m_ (aH aq hb);clear hb aM hg;have FN:=aY U7.1;have FO:=aV U7.1;have FP:=ay U7.1 0;have FQ:=ay U7.1 1))
 repeat (go_quiet (first | ((with_reducible refine bG (N:=1) rfl ?_);(try (refine fQ (by rfl) ?_;dsimp only));refine cO (N:=1) (cs:= #[.int .i64 au, .slice bn ag.length bk]) (t:=26) ?_;intro Vh hg w2 aM hb;have U7:=m_ (aM);have Vv:=m_ ((by rw[hg];exact(aE aq):w.heap.size≤Vh));have Vw:=m_ ((by rw[hg];exact(aE aq):w.heap.size≤Vh));replace HB:=m_ (aH aq hb);clear hb aM hg;have FN:=aY U7.1;have FO:=aV U7.1;have FP:=ay U7.1 0;have FQ:=ay U7.1 1));try go_wp2_with (first | ((with_reducible refine bG (N:=1) rfl ?_);(try (refine fQ (by rfl) ?_;dsimp only));refine cO (N:=1) (cs:= #[.int .i64 au, .slice bn ag.length bk]) (t:=26) ?_;intro Vh hg w2 aM hb;have U7:=m_ (aM);have Vv:=m_ ((by rw[hg];exact(aE aq):w.heap.size≤Vh));have Vw:=m_ ((by rw[hg];exact(aE aq):w.heap.size≤Vh));replace HB:=m_ (aH aq hb);clear hb aM hg;have FN:=aY U7.1;have FO:=aV U7.1;have FP:=ay U7.1 0;have FQ:=ay U7.1 1)))
 go_loopg [8] k (fun kq v8 w'=>∃(di:Int),v8= .int .i64 di∧ah (iA.l0 kq ag (ag.length:Int) di au ag=some r)∧ah (kq≤k)∧ah (w'.heap[Vh]? =some (.cells #[.int .i64 au,(.slice bn ag.length bk)] 26 (0,0)))∧ah (Below w.heap.size w w'))
 case atStart=>exact⟨(0),aJ,H',⟨Nat.le_refl _⟩,⟨aD U7.1 aa⟩,⟨aj⟩⟩
 case round=>
  clear H';obtain⟨di,rfl,HA,bp,U7,HB⟩:=hrel;cases gk with
  | zero=>exact absurd HA.1 (by simp[iA.l0])
  | succ k1=>
   have H:=HA.1;clear HA;simp only[iA.l0]at H
   by_cases c4:di<(ag.length:Int)
   ·rw[if_pos c4]at H
    have eU:=decide_eq_true c4;clear c4;obtain⟨c5,H⟩:=aU H;have gR:=decide_eq_true c5;clear c5;obtain⟨c6,H⟩:=aU H;have ij:=decide_eq_true c6;clear c6
    by_cases c7:((af ag di).length:Int)=2
    ·rw[if_pos c7]at H
     obtain⟨jX,o4⟩:=dz c7;clear c7;obtain⟨c8,H⟩:=aU H;have kE:=decide_eq_true c8;have ou:decide (0<(af ag di).length)=true:=decide_eq_true (by omega);clear c8;obtain⟨t140,A9,H⟩:=bL H
     by_cases c10:t140=true
     ·subst c10
      rw[if_pos rfl]at H;obtain⟨c11,H⟩:=aU H;have jh:=decide_eq_true c11;have oU:decide (1<(af ag di).length)=true:=decide_eq_true (by omega);clear c11;obtain⟨t142,qz,H⟩:=bL H
      by_cases c13:t142=true
      ·subst c13
       rw[if_pos rfl]at H;have H':=m_ H;clear H;have Vb:0≤(di:Int):=ak;have Va:di<(ag.length:Int):=ak;obtain⟨Vp,Vo,Vr,Vk,U9,Vc,Vd⟩:=dV cE.1 di Vb Va;cases Vk;(try replace U9:=(HB.1.cell (World.block_lt_of_cell? w _ U9)).trans U9);have Vi:=m_ Vd;have Vq:=m_ Vc;clear Vd Vc;replace Vb:=eq_true Vb;replace Va:=eq_true Va;have Vg:0≤(0:Int):=(by omega);have Vf:0<((af ag di).length:Int):=ak;obtain⟨Vn,Vm,U8⟩:=Kd.cD Vi.1 0 Vg Vf;cases Vm;have Vu:(0<(af ag di).length)=True:=eq_true (by omega);(try rw[show((0:Int)).toNat=0 from rfl]at U8);(try rw[Addr.add_zero']at U8);(try replace U8:=(HB.1.cell (World.block_lt_of_cell? w _ U8)).trans U8);replace Vg:=eq_true Vg;replace Vf:=eq_true Vf;have vq:=aY U7.1;have vr:=aV U7.1;have vv:=ay U7.1 0;have vw:=ay U7.1 1;have Vl:0≤(1:Int):=(by omega);have Vj:1<((af ag di).length:Int):=ak;obtain⟨Vt,Vs,Ve⟩:=Kd.cD Vi.1 1 Vl Vj;obtain rfl:Vn=Vt:=(by injection Vs);(try simp only[show(1:Int).toNat=1 from rfl,Nat.reduceMul,Nat.reduceEqDiff,Go.Addr.add,↓reduceIte]at Ve);have Vx:(1<(af ag di).length)=True:=eq_true (by omega);(try rw[show((1:Int)).toNat=1 from rfl]at Ve);(try replace Ve:=(HB.1.cell (World.block_lt_of_cell? w _ Ve)).trans Ve);replace Vl:=eq_true Vl;replace Vj:=eq_true Vj;go_wp2_with (first | (go_at_call 106;(with_reducible refine(iz.calls (rd (af ag di) 0) 0 (wrap64 (au - 1)) true _ A9.1).mono ?_);rintro e w' ⟨rfl,⟨nd,rfl⟩⟩;(try first | exact⟨rfl,_,World.drewN_drewN _ _ _⟩ | exact⟨rfl,_,Eq.trans (World.drewN_drewN _ _ _) (congrArg (World.drewN _) (Nat.add_assoc _ _ _))⟩)) | (go_at_call 106;(with_reducible refine(iz.calls (rd (af ag di) 1) 0 (wrap64 (au - 1)) true _ qz.1).mono ?_);rintro e w' ⟨rfl,⟨nd,rfl⟩⟩;(try first | exact⟨rfl,_,World.drewN_drewN _ _ _⟩ | exact⟨rfl,_,Eq.trans (World.drewN_drewN _ _ _) (congrArg (World.drewN _) (Nat.add_assoc _ _ _))⟩)))
       repeat (go_quiet (first | (go_at_call 106;(with_reducible refine(iz.calls (rd (af ag di) 0) 0 (wrap64 (au - 1)) true _ A9.1).mono ?_);rintro e w' ⟨rfl,⟨nd,rfl⟩⟩;(try first | exact⟨rfl,_,World.drewN_drewN _ _ _⟩ | exact⟨rfl,_,Eq.trans (World.drewN_drewN _ _ _) (congrArg (World.drewN _) (Nat.add_assoc _ _ _))⟩)) | (go_at_call 106;(with_reducible refine(iz.calls (rd (af ag di) 1) 0 (wrap64 (au - 1)) true _ qz.1).mono ?_);rintro e w' ⟨rfl,⟨nd,rfl⟩⟩;(try first | exact⟨rfl,_,World.drewN_drewN _ _ _⟩ | exact⟨rfl,_,Eq.trans (World.drewN_drewN _ _ _) (congrArg (World.drewN _) (Nat.add_assoc _ _ _))⟩)));try go_wp2_with (first | (go_at_call 106;(with_reducible refine(iz.calls (rd (af ag di) 0) 0 (wrap64 (au - 1)) true _ A9.1).mono ?_);rintro e w' ⟨rfl,⟨nd,rfl⟩⟩;(try first | exact⟨rfl,_,World.drewN_drewN _ _ _⟩ | exact⟨rfl,_,Eq.trans (World.drewN_drewN _ _ _) (congrArg (World.drewN _) (Nat.add_assoc _ _ _))⟩)) | (go_at_call 106;(with_reducible refine(iz.calls (rd (af ag di) 1) 0 (wrap64 (au - 1)) true _ qz.1).mono ?_);rintro e w' ⟨rfl,⟨nd,rfl⟩⟩;(try first | exact⟨rfl,_,World.drewN_drewN _ _ _⟩ | exact⟨rfl,_,Eq.trans (World.drewN_drewN _ _ _) (congrArg (World.drewN _) (Nat.add_assoc _ _ _))⟩))))
       go_roundg k1
       case measure=>have:=bp.1;omega
       case rel=>exact⟨(wrap64 (di+1)),aJ,H',⟨by have:=bp.1;omega⟩,⟨aD U7.1 aa⟩,⟨aj⟩⟩
      ·replace c13:=Bool.eq_false_iff.mpr c13
       subst c13;rw[if_neg (show ¬(false=true) by decide)]at H;obtain rfl:=Option.some.inj H;have Vb:0≤(di:Int):=ak;have Va:di<(ag.length:Int):=ak;obtain⟨Vp,Vo,Vr,Vk,U9,Vc,Vd⟩:=dV cE.1 di Vb Va;cases Vk;(try replace U9:=(HB.1.cell (World.block_lt_of_cell? w _ U9)).trans U9);have Vi:=m_ Vd;have Vq:=m_ Vc;clear Vd Vc;replace Vb:=eq_true Vb;replace Va:=eq_true Va;have Vg:0≤(0:Int):=(by omega);have Vf:0<((af ag di).length:Int):=ak;obtain⟨Vn,Vm,U8⟩:=Kd.cD Vi.1 0 Vg Vf;cases Vm;have Vu:(0<(af ag di).length)=True:=eq_true (by omega);(try rw[show((0:Int)).toNat=0 from rfl]at U8);(try rw[Addr.add_zero']at U8);(try replace U8:=(HB.1.cell (World.block_lt_of_cell? w _ U8)).trans U8);replace Vg:=eq_true Vg;replace Vf:=eq_true Vf;have I6:=aY U7.1;have I7:=aV U7.1;have I8:=ay U7.1 0;have I9:=ay U7.1 1;have Vl:0≤(1:Int):=(by omega);have Vj:1<((af ag di).length:Int):=ak;obtain⟨Vt,Vs,Ve⟩:=Kd.cD Vi.1 1 Vl Vj;obtain rfl:Vn=Vt:=(by injection Vs);(try simp only[show(1:Int).toNat=1 from rfl,Nat.reduceMul,Nat.reduceEqDiff,Go.Addr.add,↓reduceIte]at Ve);have Vx:(1<(af ag di).length)=True:=eq_true (by omega);(try rw[show((1:Int)).toNat=1 from rfl]at Ve);(try replace Ve:=(HB.1.cell (World.block_lt_of_cell? w _ Ve)).trans Ve);replace Vl:=eq_true Vl;replace Vj:=eq_true Vj;go_wp2_with (first | (go_at_call 106;(with_reducible refine(iz.calls (rd (af ag di) 0) 0 (wrap64 (au - 1)) true _ A9.1).mono ?_);rintro e w' ⟨rfl,⟨nd,rfl⟩⟩;(try first | exact⟨rfl,_,World.drewN_drewN _ _ _⟩ | exact⟨rfl,_,Eq.trans (World.drewN_drewN _ _ _) (congrArg (World.drewN _) (Nat.add_assoc _ _ _))⟩)) | (go_at_call 106;(with_reducible refine(iz.calls (rd (af ag di) 1) 0 (wrap64 (au - 1)) false _ qz.1).mono ?_);rintro e w' ⟨rfl,⟨nd,rfl⟩⟩;(try first | exact⟨rfl,_,World.drewN_drewN _ _ _⟩ | exact⟨rfl,_,Eq.trans (World.drewN_drewN _ _ _) (congrArg (World.drewN _) (Nat.add_assoc _ _ _))⟩)))
       repeat (go_quiet (first | (go_at_call 106;(with_reducible refine(iz.calls (rd (af ag di) 0) 0 (wrap64 (au - 1)) true _ A9.1).mono ?_);rintro e w' ⟨rfl,⟨nd,rfl⟩⟩;(try first | exact⟨rfl,_,World.drewN_drewN _ _ _⟩ | exact⟨rfl,_,Eq.trans (World.drewN_drewN _ _ _) (congrArg (World.drewN _) (Nat.add_assoc _ _ _))⟩)) | (go_at_call 106;(with_reducible refine(iz.calls (rd (af ag di) 1) 0 (wrap64 (au - 1)) false _ qz.1).mono ?_);rintro e w' ⟨rfl,⟨nd,rfl⟩⟩;(try first | exact⟨rfl,_,World.drewN_drewN _ _ _⟩ | exact⟨rfl,_,Eq.trans (World.drewN_drewN _ _ _) (congrArg (World.drewN _) (Nat.add_assoc _ _ _))⟩)));try go_wp2_with (first | (go_at_call 106;(with_reducible refine(iz.calls (rd (af ag di) 0) 0 (wrap64 (au - 1)) true _ A9.1).mono ?_);rintro e w' ⟨rfl,⟨nd,rfl⟩⟩;(try first | exact⟨rfl,_,World.drewN_drewN _ _ _⟩ | exact⟨rfl,_,Eq.trans (World.drewN_drewN _ _ _) (congrArg (World.drewN _) (Nat.add_assoc _ _ _))⟩)) | (go_at_call 106;(with_reducible refine(iz.calls (rd (af ag di) 1) 0 (wrap64 (au - 1)) false _ qz.1).mono ?_);rintro e w' ⟨rfl,⟨nd,rfl⟩⟩;(try first | exact⟨rfl,_,World.drewN_drewN _ _ _⟩ | exact⟨rfl,_,Eq.trans (World.drewN_drewN _ _ _) (congrArg (World.drewN _) (Nat.add_assoc _ _ _))⟩))))
       go_ret;exact⟨cH,aj⟩
     ·replace c10:=Bool.eq_false_iff.mpr c10
      subst c10;rw[if_neg (show ¬(false=true) by decide)]at H;obtain rfl:=Option.some.inj H;have Vb:0≤(di:Int):=ak;have Va:di<(ag.length:Int):=ak;obtain⟨Vp,Vo,Vr,Vk,U9,Vc,Vd⟩:=dV cE.1 di Vb Va;cases Vk;(try replace U9:=(HB.1.cell (World.block_lt_of_cell? w _ U9)).trans U9);have Vi:=m_ Vd;have Vq:=m_ Vc;clear Vd Vc;replace Vb:=eq_true Vb;replace Va:=eq_true Va;have Vg:0≤(0:Int):=(by omega);have Vf:0<((af ag di).length:Int):=ak;obtain⟨Vn,Vm,U8⟩:=Kd.cD Vi.1 0 Vg Vf;cases Vm;have Vu:(0<(af ag di).length)=True:=eq_true (by omega);(try rw[show((0:Int)).toNat=0 from rfl]at U8);(try rw[Addr.add_zero']at U8);(try replace U8:=(HB.1.cell (World.block_lt_of_cell? w _ U8)).trans U8);replace Vg:=eq_true Vg;replace Vf:=eq_true Vf;have JX:=aY U7.1;have JY:=aV U7.1;have JZ:=ay U7.1 0;have J0:=ay U7.1 1;go_wp2_with (first | (go_at_call 106;(with_reducible refine(iz.calls (rd (af ag di) 0) 0 (wrap64 (au - 1)) false _ A9.1).mono ?_);rintro e w' ⟨rfl,⟨nd,rfl⟩⟩;(try first | exact⟨rfl,_,World.drewN_drewN _ _ _⟩ | exact⟨rfl,_,Eq.trans (World.drewN_drewN _ _ _) (congrArg (World.drewN _) (Nat.add_assoc _ _ _))⟩)))
      repeat (go_quiet (first | (go_at_call 106;(with_reducible refine(iz.calls (rd (af ag di) 0) 0 (wrap64 (au - 1)) false _ A9.1).mono ?_);rintro e w' ⟨rfl,⟨nd,rfl⟩⟩;(try first | exact⟨rfl,_,World.drewN_drewN _ _ _⟩ | exact⟨rfl,_,Eq.trans (World.drewN_drewN _ _ _) (congrArg (World.drewN _) (Nat.add_assoc _ _ _))⟩)));try go_wp2_with (first | (go_at_call 106;(with_reducible refine(iz.calls (rd (af ag di) 0) 0 (wrap64 (au - 1)) false _ A9.1).mono ?_);rintro e w' ⟨rfl,⟨nd,rfl⟩⟩;(try first | exact⟨rfl,_,World.drewN_drewN _ _ _⟩ | exact⟨rfl,_,Eq.trans (World.drewN_drewN _ _ _) (congrArg (World.drewN _) (Nat.add_assoc _ _ _))⟩))))
      go_ret;exact⟨cH,aj⟩
    ·rw[if_neg c7]at H
     obtain⟨jX,o4⟩:=dN c7;obtain rfl:=Option.some.inj H;have Vb:0≤(di:Int):=ak;have Va:di<(ag.length:Int):=ak;obtain⟨Vp,Vo,Vr,Vk,U9,Vc,Vd⟩:=dV cE.1 di Vb Va;cases Vk;(try replace U9:=(HB.1.cell (World.block_lt_of_cell? w _ U9)).trans U9);have Vi:=m_ Vd;have Vq:=m_ Vc;clear Vd Vc;replace Vb:=eq_true Vb;replace Va:=eq_true Va;go_wp2
     repeat (go_quiet (fail);try go_wp2)
     go_ret;exact⟨cH,aj⟩
   ·rw[if_neg c4]at H
    have eU:=decide_eq_false c4;clear c4;obtain⟨t137,sO,H⟩:=bL H
    by_cases c18:t137=true
    ·subst c18
     rw[if_pos rfl]at H;obtain rfl:=Option.some.inj H;have Fc:=aY U7.1;have Fe:=aV U7.1;have Ff:=ay U7.1 0;have Fg:=ay U7.1 1;go_wp2_with (first | (go_at_call 106;(with_reducible refine(iz.calls au 1 8 true _ sO.1).mono ?_);rintro e w' ⟨rfl,⟨nd,rfl⟩⟩;(try first | exact⟨rfl,_,World.drewN_drewN _ _ _⟩ | exact⟨rfl,_,Eq.trans (World.drewN_drewN _ _ _) (congrArg (World.drewN _) (Nat.add_assoc _ _ _))⟩)))
     repeat (go_quiet (first | (go_at_call 106;(with_reducible refine(iz.calls au 1 8 true _ sO.1).mono ?_);rintro e w' ⟨rfl,⟨nd,rfl⟩⟩;(try first | exact⟨rfl,_,World.drewN_drewN _ _ _⟩ | exact⟨rfl,_,Eq.trans (World.drewN_drewN _ _ _) (congrArg (World.drewN _) (Nat.add_assoc _ _ _))⟩)));try go_wp2_with (first | (go_at_call 106;(with_reducible refine(iz.calls au 1 8 true _ sO.1).mono ?_);rintro e w' ⟨rfl,⟨nd,rfl⟩⟩;(try first | exact⟨rfl,_,World.drewN_drewN _ _ _⟩ | exact⟨rfl,_,Eq.trans (World.drewN_drewN _ _ _) (congrArg (World.drewN _) (Nat.add_assoc _ _ _))⟩))))
     go_ret;exact⟨cH,aj⟩
    ·replace c18:=Bool.eq_false_iff.mpr c18
     subst c18;rw[if_neg (show ¬(false=true) by decide)]at H;obtain rfl:=Option.some.inj H;have IB:=aY U7.1;have IC:=aV U7.1;have ID:=ay U7.1 0;have IE:=ay U7.1 1;go_wp2_with (first | (go_at_call 106;(with_reducible refine(iz.calls au 1 8 false _ sO.1).mono ?_);rintro e w' ⟨rfl,⟨nd,rfl⟩⟩;(try first | exact⟨rfl,_,World.drewN_drewN _ _ _⟩ | exact⟨rfl,_,Eq.trans (World.drewN_drewN _ _ _) (congrArg (World.drewN _) (Nat.add_assoc _ _ _))⟩)))
     repeat (go_quiet (first | (go_at_call 106;(with_reducible refine(iz.calls au 1 8 false _ sO.1).mono ?_);rintro e w' ⟨rfl,⟨nd,rfl⟩⟩;(try first | exact⟨rfl,_,World.drewN_drewN _ _ _⟩ | exact⟨rfl,_,Eq.trans (World.drewN_drewN _ _ _) (congrArg (World.drewN _) (Nat.add_assoc _ _ _))⟩)));try go_wp2_with (first | (go_at_call 106;(with_reducible refine(iz.calls au 1 8 false _ sO.1).mono ?_);rintro e w' ⟨rfl,⟨nd,rfl⟩⟩;(try first | exact⟨rfl,_,World.drewN_drewN _ _ _⟩ | exact⟨rfl,_,Eq.trans (World.drewN_drewN _ _ _) (congrArg (World.drewN _) (Nat.add_assoc _ _ _))⟩))))
     go_ret;exact⟨cH,aj⟩

/-! ### impl_Graph_ends: function 108 -/
def pM.f (au:Int) (ag:List (List Int)) (a1:Int):Option (Int×Int):=if 0≤(wrap64 (Int.tdiv a1 2)) then (if (wrap64 (Int.tdiv a1 2))<(ag.length:Int) then (if 0≤(Int.tmod a1 2) then (if (Int.tmod a1 2)<((af ag (wrap64 (Int.tdiv a1 2))).length:Int) then (if 0≤(wrap64 (1 - (Int.tmod a1 2))) then (if (wrap64 (1 - (Int.tmod a1 2)))<((af ag (wrap64 (Int.tdiv a1 2))).length:Int) then (some (rd (af ag (wrap64 (Int.tdiv a1 2))) (Int.tmod a1 2),rd (af ag (wrap64 (Int.tdiv a1 2))) (wrap64 (1 - (Int.tmod a1 2))))) else (none)) else (none)) else (none)) else (none)) else (none)) else (none)
set_option maxHeartbeats 8000000 in
set_option maxRecDepth 100000 in
theorem pM.calls (au:Int) (bn:Option Addr) (bk:Nat) (ag:List (List Int)) (a1:Int) (r1:Int) (r2:Int) (w:World) (cZ:Kd.C (Kd.slice 2 (Kd.int .i64)) w bn ag.length ag) (dh:ag.length≤bk) (h:pM.f au ag a1=some (r1,r2)):
  Calls Try.prog 108 #[.agg #[.int .i64 au, .slice bn ag.length bk], .int .i64 a1] w fun e w'=>e= .returned (.tuple #[.int .i64 r1, .int .i64 r2])∧Below w.heap.size w w':=by
 have gX:=Try.underlying26;have cE:=m_ cZ;have dw:=m_ dh;clear cZ dh;have HB:=m_ (Below.refl w.heap.size w);have H:=h;unfold pM.f at H;clear h;obtain⟨bJ,fc⟩: ∃j_:Int,(wrap64 (Int.tdiv a1 2))=j_:=⟨_,rfl⟩;(try rw[fc]);replace H:(if 0≤(bJ) then (if (bJ)<(ag.length:Int) then (if 0≤(Int.tmod a1 2) then (if (Int.tmod a1 2)<((af ag (bJ)).length:Int) then (if 0≤(wrap64 (1 - (Int.tmod a1 2))) then (if (wrap64 (1 - (Int.tmod a1 2)))<((af ag (bJ)).length:Int) then (some (rd (af ag (bJ)) (Int.tmod a1 2),rd (af ag (bJ)) (wrap64 (1 - (Int.tmod a1 2))))) else (none)) else (none)) else (none)) else (none)) else (none)) else (none))=some (r1,r2):=by first | (rw[fc]at H;exact H) | (simp only[fc]at H ⊢;exact H)
 have E6:(IntKind.i64.wrap (Int.tdiv a1 2))=bJ:=(eE _).trans fc
 by_cases c4:0≤(bJ)
 ·rw[if_pos c4]at H
  have eU:=decide_eq_true c4;clear c4;obtain⟨c5,H⟩:=aU H;have gR:=decide_eq_true c5;clear c5;obtain⟨U7,Vr⟩: ∃j_:Int,(Int.tmod a1 2)=j_:=⟨_,rfl⟩;(try rw[Vr]);replace H:(if 0≤(U7) then (if (U7)<((af ag (bJ)).length:Int) then (if 0≤(wrap64 (1 - (U7))) then (if (wrap64 (1 - (U7)))<((af ag (bJ)).length:Int) then (some (rd (af ag (bJ)) (U7),rd (af ag (bJ)) (wrap64 (1 - (U7))))) else (none)) else (none)) else (none)) else (none))=some (r1,r2):=by first | (rw[Vr]at H;exact H) | (simp only[Vr]at H ⊢;exact H)
  obtain⟨c7,H⟩:=aU H;have jX:=decide_eq_true c7;clear c7;obtain⟨c8,H⟩:=aU H;have kE:=decide_eq_true c8;clear c8;obtain⟨jZ,qg⟩: ∃j_:Int,(wrap64 (1 - (U7)))=j_:=⟨_,rfl⟩;(try rw[qg]);replace H:(if 0≤(jZ) then (if (jZ)<((af ag (bJ)).length:Int) then (some (rd (af ag (bJ)) (U7),rd (af ag (bJ)) (jZ))) else (none)) else (none))=some (r1,r2):=by first | (rw[qg]at H;exact H) | (simp only[qg]at H ⊢;exact H)
  have SI:(IntKind.i64.wrap (1 - (U7)))=jZ:=(eE _).trans qg;obtain⟨c10,H⟩:=aU H;have mq:=decide_eq_true c10;clear c10;obtain⟨c11,H⟩:=aU H;have jh:=decide_eq_true c11;clear c11;simp only[Option.some.injEq,Prod.mk.injEq]at H;obtain⟨rfl,rfl⟩:=H;go_enter Try.func108,Try.ntmps108;go_wp2_with (first | ((with_reducible refine bG (N:=2) rfl ?_);refine cO (N:=2) (cs:= #[.int .i64 au, .slice bn ag.length bk]) (t:=26) ?_;intro Vi hg nB aM hb;have U8:=m_ (aM);have Vw:=m_ ((by rw[hg];exact(aE aq):w.heap.size≤Vi));have Vt:=m_ ((by rw[hg];exact(aE aq):w.heap.size≤Vi));replace HB:=m_ (aH aq hb);clear hb aM hg;have wF:=aY U8.1;have wG:=aV U8.1;have wH:=ay U8.1 0;have wI:=ay U8.1 1;have Vg:0≤((bJ):Int):=ak;have U9:(bJ)<(ag.length:Int):=ak;obtain⟨Vs,Vu,Vv,Vp,Vd,Vk,Vl⟩:=dV cE.1 (bJ) Vg U9;cases Vp;replace Vd:=(HB.1.cell (World.block_lt_of_cell? w _ Vd)).trans Vd;have Vj:=m_ Vl;have Vx:=m_ Vk;clear Vl Vk;replace Vg:=eq_true Vg;replace U9:=eq_true U9;have Vb:0≤((U7):Int):=ak;have Vf:(U7)<((af ag (bJ)).length:Int):=ak;obtain⟨Vo,Vn,Va⟩:=Kd.cD Vj.1 (U7) Vb Vf;cases Vn;replace Va:=(HB.1.cell (World.block_lt_of_cell? w _ Va)).trans Va;replace Vb:=eq_true Vb;replace Vf:=eq_true Vf;have Vh:0≤((jZ):Int):=ak;have Vc:(jZ)<((af ag (bJ)).length:Int):=ak;obtain⟨Vq,Vm,Ve⟩:=Kd.cD Vj.1 (jZ) Vh Vc;obtain rfl:Vo=Vq:=(by injection Vm);replace Ve:=(HB.1.cell (World.block_lt_of_cell? w _ Ve)).trans Ve;replace Vh:=eq_true Vh;replace Vc:=eq_true Vc))
  repeat (go_quiet (first | ((with_reducible refine bG (N:=2) rfl ?_);refine cO (N:=2) (cs:= #[.int .i64 au, .slice bn ag.length bk]) (t:=26) ?_;intro Vi hg nB aM hb;have U8:=m_ (aM);have Vw:=m_ ((by rw[hg];exact(aE aq):w.heap.size≤Vi));have Vt:=m_ ((by rw[hg];exact(aE aq):w.heap.size≤Vi));replace HB:=m_ (aH aq hb);clear hb aM hg;have wF:=aY U8.1;have wG:=aV U8.1;have wH:=ay U8.1 0;have wI:=ay U8.1 1;have Vg:0≤((bJ):Int):=ak;have U9:(bJ)<(ag.length:Int):=ak;obtain⟨Vs,Vu,Vv,Vp,Vd,Vk,Vl⟩:=dV cE.1 (bJ) Vg U9;cases Vp;replace Vd:=(HB.1.cell (World.block_lt_of_cell? w _ Vd)).trans Vd;have Vj:=m_ Vl;have Vx:=m_ Vk;clear Vl Vk;replace Vg:=eq_true Vg;replace U9:=eq_true U9;have Vb:0≤((U7):Int):=ak;have Vf:(U7)<((af ag (bJ)).length:Int):=ak;obtain⟨Vo,Vn,Va⟩:=Kd.cD Vj.1 (U7) Vb Vf;cases Vn;replace Va:=(HB.1.cell (World.block_lt_of_cell? w _ Va)).trans Va;replace Vb:=eq_true Vb;replace Vf:=eq_true Vf;have Vh:0≤((jZ):Int):=ak;have Vc:(jZ)<((af ag (bJ)).length:Int):=ak;obtain⟨Vq,Vm,Ve⟩:=Kd.cD Vj.1 (jZ) Vh Vc;obtain rfl:Vo=Vq:=(by injection Vm);replace Ve:=(HB.1.cell (World.block_lt_of_cell? w _ Ve)).trans Ve;replace Vh:=eq_true Vh;replace Vc:=eq_true Vc));try go_wp2_with (first | ((with_reducible refine bG (N:=2) rfl ?_);refine cO (N:=2) (cs:= #[.int .i64 au, .slice bn ag.length bk]) (t:=26) ?_;intro Vi hg nB aM hb;have U8:=m_ (aM);have Vw:=m_ ((by rw[hg];exact(aE aq):w.heap.size≤Vi));have Vt:=m_ ((by rw[hg];exact(aE aq):w.heap.size≤Vi));replace HB:=m_ (aH aq hb);clear hb aM hg;have wF:=aY U8.1;have wG:=aV U8.1;have wH:=ay U8.1 0;have wI:=ay U8.1 1;have Vg:0≤((bJ):Int):=ak;have U9:(bJ)<(ag.length:Int):=ak;obtain⟨Vs,Vu,Vv,Vp,Vd,Vk,Vl⟩:=dV cE.1 (bJ) Vg U9;cases Vp;replace Vd:=(HB.1.cell (World.block_lt_of_cell? w _ Vd)).trans Vd;have Vj:=m_ Vl;have Vx:=m_ Vk;clear Vl Vk;replace Vg:=eq_true Vg;replace U9:=eq_true U9;have Vb:0≤((U7):Int):=ak;have Vf:(U7)<((af ag (bJ)).length:Int):=ak;obtain⟨Vo,Vn,Va⟩:=Kd.cD Vj.1 (U7) Vb Vf;cases Vn;replace Va:=(HB.1.cell (World.block_lt_of_cell? w _ Va)).trans Va;replace Vb:=eq_true Vb;replace Vf:=eq_true Vf;have Vh:0≤((jZ):Int):=ak;have Vc:(jZ)<((af ag (bJ)).length:Int):=ak;obtain⟨Vq,Vm,Ve⟩:=Kd.cD Vj.1 (jZ) Vh Vc;obtain rfl:Vo=Vq:=(by injection Vm);replace Ve:=(HB.1.cell (World.block_lt_of_cell? w _ Ve)).trans Ve;replace Vh:=eq_true Vh;replace Vc:=eq_true Vc)))
  go_ret2
  exact⟨by first | rfl | (simp[iR,iS]<;>rfl) | (simp only[← fc,← Vr,← qg];first | rfl | (simp[iR,iS]<;>rfl)) | (simp[*,iR,iS]<;>rfl),aj⟩
 ·rw[if_neg c4]at H
  exact absurd H (by simp)

/-! ### impl_Graph_size: function 204 -/
def oK.f (au:Int) (ag:List (List Int)):Option (Int):=some (ag.length:Int)
set_option maxHeartbeats 8000000 in
set_option maxRecDepth 100000 in
theorem oK.calls (au:Int) (bn:Option Addr) (bk:Nat) (ag:List (List Int)) (r:Int) (w:World) (cZ:Kd.C (Kd.slice 2 (Kd.int .i64)) w bn ag.length ag) (dh:ag.length≤bk) (h:oK.f au ag=some r):
  Calls Try.prog 204 #[.agg #[.int .i64 au, .slice bn ag.length bk]] w fun e w'=>e= .returned (.int .i64 r)∧Below w.heap.size w w':=by
 have gX:=Try.underlying26;have cE:=m_ cZ;have dw:=m_ dh;clear cZ dh;have HB:=m_ (Below.refl w.heap.size w);have H:=h;unfold oK.f at H;clear h;obtain rfl:=Option.some.inj H;go_enter Try.func204,Try.ntmps204;go_wp2_with (first | ((with_reducible refine bG (N:=1) rfl ?_);refine cO (N:=1) (cs:= #[.int .i64 au, .slice bn ag.length bk]) (t:=26) ?_;intro U8 hg w2 aM hb;have U7:=m_ (aM);have Va:=m_ ((by rw[hg];exact(aE aq):w.heap.size≤U8));have U9:=m_ ((by rw[hg];exact(aE aq):w.heap.size≤U8));replace HB:=m_ (aH aq hb);clear hb aM hg;have FN:=aY U7.1;have FO:=aV U7.1;have FP:=ay U7.1 0;have FQ:=ay U7.1 1));go_ret;exact⟨cH,aj⟩

/-! ### impl_square: function 221 -/
def jw.l0:Nat→Int→List (List Int)→Int→Int→Option ((List (List Int)))
 | 0,_,_,_,_=>none
 | k+1,x0,x3,x5,x6=>if x6<x5 then (if 0≤x0 then (if (x0:Int).toNat≤35184372088832 then (if x3.length<5864062014805 then (jw.l0 k x0 (x3++[(List.replicate (x0:Int).toNat 0)]) x5 (wrap64 (x6+1))) else (none)) else (none)) else (none)) else (some x3)
def jw.f (k:Nat) (a0:Int):Option ((List (List Int))):=jw.l0 k a0 (([]:List (List Int))) a0 0
set_option maxHeartbeats 8000000 in
set_option maxRecDepth 100000 in
theorem jw.calls (k:Nat) (a0:Int) (r:List (List Int)) (w:World) (h:jw.f k a0=some r):
  Calls Try.prog 221 #[.int .i64 a0] w fun e w'=>∃cP:Value,e= .returned (cP)∧Kd.S (Kd.slice 2 (Kd.int .i64)) 29 w' w.heap.size (fun _=>True) cP r∧Below w.heap.size w w':=by
 have HB:=m_ (Below.refl w.heap.size w);have H:=h;unfold jw.f at H;clear h;obtain⟨Va,Vg,H⟩: ∃Va:List (List Int),ah (Va=(([]:List (List Int))))∧(jw.l0 k a0 Va a0 0)=some r:=⟨_,⟨rfl⟩,H⟩;have H':=m_ H;clear H;go_enter Try.func221,Try.ntmps221;go_wp2_with (first | ((with_reducible refine bG (N:=4) rfl ?_);refine Kd.qC (Kd.slice 2 (Kd.int .i64)) _ 29 ?hg (N:=4) ?hd (xs:=([]:List (List Int))) (inner:=[]) (ok:=fun _=>True) (bQ:=fun _=>True) ?hr ?hp (fun _ hk=>hk) trivial (Below.refl _ _) (Nat.le_refl _) (by simp) ?_;(case hd=>rfl);(case hg=>rfl);(case hr=>first | (go_simp;done) | (go_simp;rfl));(case hp=>exact(aT.none _ _));intro Vh w2 pg hb bO bP;clear bO bP;rw[← Vg.1]at pg;have Vc:=m_ (Kd.gj pg (aE aq));replace HB:=m_ (aH aq hb);clear hb pg));go_loopg [3,6] k (fun kq v3 v6 w'=>∃(bD:List (List Int)) (cr:Int),v6= .int .i64 cr∧ah (jw.l0 kq a0 bD a0 cr=some r)∧ah (kq≤k)∧ah (Kd.S (Kd.slice 2 (Kd.int .i64)) 29 w' w.heap.size (fun _=>True) v3 bD)∧ah (Below w.heap.size w w'))
 case atStart=>exact⟨(Va),(0),aJ,H',⟨Nat.le_refl _⟩,⟨Kd.aG Vc.1 aa⟩,⟨aq⟩⟩
 case round=>
  clear H';obtain⟨bD,cr,rfl,HA,bp,aZ,HB⟩:=hrel;cases gk with
  | zero=>exact absurd HA.1 (by simp[jw.l0])
  | succ k1=>
   have H:=HA.1;clear HA;simp only[jw.l0]at H
   by_cases c4:cr<a0
   ·rw[if_pos c4]at H
    have eU:=decide_eq_true c4;clear c4;obtain⟨c5,H⟩:=aU H;have gR:=eq_true c5;have uT:=decide_eq_true c5;clear c5;obtain⟨c6,H⟩:=aU H;have ij:=eq_true c6;have mV:=decide_eq_true c6;clear c6;obtain⟨U7,Vb,H⟩: ∃U7:List Int,ah (U7=(List.replicate (a0:Int).toNat 0))∧(if bD.length<5864062014805 then (jw.l0 k1 a0 (bD++[U7]) a0 (wrap64 (cr+1))) else (none))=some r:=⟨_,⟨rfl⟩,H⟩;obtain⟨c7,H⟩:=aU H;have Vd:=m_ c7;clear c7;obtain⟨U9,Vf,H⟩: ∃U9:List (List Int),ah (U9=(bD++[U7]))∧(jw.l0 k1 a0 U9 a0 (wrap64 (cr+1)))=some r:=⟨_,⟨rfl⟩,H⟩;have H':=m_ H;clear H;go_wp2_with (first | ((with_reducible refine bG (N:=10) rfl ?_);refine Kd.sF (Kd.int .i64) _ 2 rfl (N:=10) rfl 29 _ _ rfl a0 rfl rfl Try.underlying29 (.int .i64 0) 8 jf rfl (by decide) (by omega) 0 (ok:=fun _=>True) (bQ:=fun _=>True) rfl (fun _ hk=>hk) trivial (ak) (Nat.le_trans (Nat.mul_le_mul_right _ (ak:a0.toNat≤35184372088832)) (by omega)) (Below.refl _ _) (Nat.le_refl _) ?_;intro Vi w8 sQ hb bO bP;clear bO bP;rw[← Vb.1]at sQ;replace aZ:=m_ (Kd.dU (Kd.aG aZ.1 aa) (Kd.bu sQ) hb);have U8:=m_ (Kd.cx sQ (aE aq));replace HB:=m_ (aH aq hb);clear hb sQ;obtain⟨fu,dX,q4⟩:=Kd.cJ U8.1;subst q4) | ((with_reducible refine fG (b:= .append) (xs:= #[.tmp 8, .tmp 11]) rfl ?_);at_builtin;refine Kd.jn (Kd.slice 2 (Kd.int .i64)) (w0:=w) w.heap.size rfl (.tmp 8) (.tmp 11) 24 29 (.slice none 0 0) 24 rfl Try.underlying24 iT rfl (by decide) (by omega) u3 bD U7 [.slice fu U7.length dX] (fun _=>True) (fun k_=>some k_=(.slice fu U7.length dX:Value).ownBlock) rfl rfl ?aP (fun k_ cn=>((Kd.bg (ok':=fun k_=>((fun _=>True)) k_∧some k_≠(u3:Value).ownBlock) (Kd.cM (U8.1) (Kd.cI aZ.1) (by decide)) (fun k_ hk=>⟨trivial,hk.2⟩))).1 k_ cn.symm) ?aF ?aO ?aB ?aS ?aL ?_;(case aP=>exact Kd.gb (Kd.bg (Kd.fI rfl (Kd.bg (ok':=fun k_=>((fun _=>True)) k_∧some k_≠(u3:Value).ownBlock) (Kd.cM (U8.1) (Kd.cI aZ.1) (by decide)) (fun k_ hk=>⟨trivial,hk.2⟩))) (fun _ h_=>h_)));(case aB=>exact aq);(case aF=>exact(fun _ _=>trivial));(case aO=>exact(Kd.aG (Kd.cu aZ.1 (fun k_ hk=>⟨trivial,fun e_=>hk.2 e_⟩)) aa));(case aS=>exact(aE aq));(case aL=>have:=Vd.1;omega);intro Vj jJ ho hb hg hat;rw[← Vf.1]at ho;replace HB:=m_ (hb);have Ve:=m_ (ho);clear aZ U8;clear ho hb hg hat));go_roundg k1
    case measure=>have:=bp.1;omega
    case rel=>exact⟨(U9),(wrap64 (cr+1)),aJ,H',⟨by have:=bp.1;omega⟩,⟨Kd.aG Ve.1 aa⟩,⟨aq⟩⟩
   ·rw[if_neg c4]at H
    have eU:=decide_eq_false c4;clear c4;obtain rfl:=Option.some.inj H;go_wp2;go_ret;exact⟨_,cH,(Kd.aG aZ.1 aa),aq⟩

/-! ### impl_Graph_edgeMatrix: function 128 -/
mutual
def gW.l0:Nat→List (List Int)→Int→Int→Int→List (List Int)→Option ((List (List Int)))
 | 0,_,_,_,_,_=>none
 | k+1,x3,dJ,eW,rU,rV=>if eW<dJ then ((pM.f rU rV eW).bind fun U7=>((oK.f rU rV).bind fun t165=>(gW.l1 k x3 eW U7.2 dJ eW (wrap64 (2*t165)) 0 rU rV))) else (some x3)
def gW.l1:Nat→List (List Int)→Int→Int→Int→Int→Int→Int→Int→List (List Int)→Option ((List (List Int)))
 | 0,_,_,_,_,_,_,_,_,_=>none
 | k+1,x3,x4,x6,dJ,eW,fP,U7,rU,rV=>if U7<fP then ((pM.f rU rV U7).bind fun U8=>(if U8.1=x6 then (if U7=(Go.bits .xor .i64 x4 1) then (gW.l1 k x3 x4 x6 dJ eW fP (wrap64 (U7+1)) rU rV) else (if 0≤x4 then (if x4<(x3.length:Int) then (if 0≤U7 then (if U7<((af x3 x4).length:Int) then (gW.l1 k (x3.set (x4:Int).toNat ((af x3 x4).set (U7:Int).toNat 1)) x4 x6 dJ eW fP (wrap64 (U7+1)) rU rV) else (none)) else (none)) else (none)) else (none))) else (gW.l1 k x3 x4 x6 dJ eW fP (wrap64 (U7+1)) rU rV))) else (gW.l0 k x3 dJ (wrap64 (eW+1)) rU rV)
end
def gW.f (k:Nat) (au:Int) (ag:List (List Int)):Option ((List (List Int))):=(oK.f au ag).bind fun t158=>((jw.f k (wrap64 (2*t158))).bind fun t159=>((oK.f au ag).bind fun t162=>(gW.l0 k t159 (wrap64 (2*t162)) 0 au ag)))
set_option maxHeartbeats 8000000 in
set_option maxRecDepth 100000 in
theorem gW.calls (k:Nat) (au:Int) (bn:Option Addr) (bk:Nat) (ag:List (List Int)) (r:List (List Int)) (w:World) (cZ:Kd.C (Kd.slice 2 (Kd.int .i64)) w bn ag.length ag) (dh:ag.length≤bk) (h:gW.f k au ag=some r):
  Calls Try.prog 128 #[.agg #[.int .i64 au, .slice bn ag.length bk]] w fun e w'=>∃cP:Value,e= .returned (cP)∧Kd.S (Kd.slice 2 (Kd.int .i64)) 29 w' w.heap.size (fun _=>True) cP r∧Below w.heap.size w w':=by
 have gX:=Try.underlying26;have cE:=m_ cZ;have dw:=m_ dh;clear cZ dh;have HB:=m_ (Below.refl w.heap.size w);have H:=h;unfold gW.f at H;clear h;obtain⟨t158,A2,H⟩:=bL H;obtain⟨t159,A3,H⟩:=bL H;obtain⟨t162,A4,H⟩:=bL H;have H':=m_ H;clear H;go_enter Try.func128,Try.ntmps128;go_wp2_with (first | ((with_reducible refine bG (N:=1) rfl ?_);refine cO (N:=1) (cs:= #[.int .i64 au, .slice bn ag.length bk]) (t:=26) ?_;intro Vd hg w5 aM hb;have U7:=m_ (aM);have V3:=m_ ((by rw[hg];exact(aE aq):w.heap.size≤Vd));have V2:=m_ ((by rw[hg];exact(aE aq):w.heap.size≤Vd));replace HB:=m_ (aH aq hb);clear hb aM hg;have oQ:=aY U7.1;have oR:=aV U7.1;have oS:=ay U7.1 0;have oT:=ay U7.1 1) | ((with_reducible refine bF (f:=204) rfl ?_);refine bI (some 11) Try.func204 #[.agg #[.int .i64 au, .slice bn ag.length bk]] ?_;(with_reducible refine(oK.calls au _ _ ag t158 _ ?aA ?aC A2.1).mono ?_);(case aA=>exact Kd.aN (Kd.aN cE.1 HB.1) aa);(case aC=>exact dw.1);rintro e w7 ⟨rfl,hb⟩;refine⟨_,rfl, ?_⟩;replace U7:=m_ (aI U7.1 hb);replace HB:=m_ (aH aj hb);clear hb) | ((with_reducible refine bF (f:=221) rfl ?_);refine bI (some 13) Try.func221 #[.int .i64 (wrap64 (2*t158))] ?_;(with_reducible refine(jw.calls k (wrap64 (2*t158)) t159 _ A3.1).mono ?_);rintro e w8 ⟨Vw,rfl,az,hb⟩;refine⟨_,rfl, ?_⟩;have Vk:=m_ (Kd.gj az (aE aj));replace U7:=m_ (aI U7.1 hb);replace HB:=m_ (aH aj hb);clear hb;(try clear az);have zh:=aY U7.1;have zi:=aV U7.1;have BM:=ay U7.1 0;have zj:=ay U7.1 1) | ((with_reducible refine bF (f:=204) rfl ?_);refine bI (some 15) Try.func204 #[.agg #[.int .i64 au, .slice bn ag.length bk]] ?_;(with_reducible refine(oK.calls au _ _ ag t162 _ ?aA ?aC A4.1).mono ?_);(case aA=>exact Kd.aN (Kd.aN cE.1 HB.1) aa);(case aC=>exact dw.1);rintro e jJ ⟨rfl,hb⟩;refine⟨_,rfl, ?_⟩;replace Vk:=m_ (Kd.aG (Kd.aG Vk.1 aa) hb);replace U7:=m_ (aI U7.1 hb);replace HB:=m_ (aH aj hb);clear hb));go_loopg [17] k (fun kq zk w'=>∃(bD:List (List Int)) (bU:Int),zk= .int .i64 bU∧ah (gW.l0 kq bD (wrap64 (2*t162)) bU au ag=some r)∧ah (kq≤k)∧ah (Kd.S (Kd.slice 2 (Kd.int .i64)) 29 w' w.heap.size (fun _=>True) Vw bD)∧ah (w'.heap[Vd]? =some (.cells #[.int .i64 au,(.slice bn ag.length bk)] 26 (0,0)))∧ah (Below w.heap.size w w'))
 case atStart=>exact⟨(t159),(0),aJ,H',⟨Nat.le_refl _⟩,⟨Kd.aG Vk.1 aa⟩,⟨aD U7.1 aa⟩,⟨aj⟩⟩
 case round=>
  clear H';obtain⟨bD,bU,rfl,HA,bp,aZ,U7,HB⟩:=hrel;cases gk with
  | zero=>exact absurd HA.1 (by simp[gW.l0])
  | succ k1=>
   have H:=HA.1;clear HA;simp only[gW.l0]at H
   by_cases c11:bU<(wrap64 (2*t162))
   ·rw[if_pos c11]at H
    have jh:=decide_eq_true c11;clear c11;obtain⟨⟨t163,t164⟩,qz,H⟩:=bL H;dsimp only at H;obtain⟨t165,vM,H⟩:=bL H;have H':=m_ H;clear H;have vq:=aY U7.1;have vr:=aV U7.1;have vv:=ay U7.1 0;have vw:=ay U7.1 1;go_wp2_with (first | ((with_reducible refine bF (f:=108) rfl ?_);refine bI (some 23) Try.func108 #[.agg #[.int .i64 au, .slice bn ag.length bk], .int .i64 bU] ?_;(with_reducible refine(pM.calls au _ _ ag bU t163 t164 _ ?aA ?aC qz.1).mono ?_);(case aA=>exact Kd.aN (Kd.aN cE.1 HB.1) aa);(case aC=>exact dw.1);rintro e vn ⟨rfl,hb⟩;refine⟨_,rfl, ?_⟩;replace aZ:=m_ (Kd.aG (Kd.aG aZ.1 aa) hb);replace U7:=m_ (aI U7.1 hb);replace HB:=m_ (aH aj hb);clear hb;have JX:=aY U7.1;have JY:=aV U7.1;have JZ:=ay U7.1 0;have J0:=ay U7.1 1) | ((with_reducible refine bF (f:=204) rfl ?_);refine bI (some 27) Try.func204 #[.agg #[.int .i64 au, .slice bn ag.length bk]] ?_;(with_reducible refine(oK.calls au _ _ ag t165 _ ?aA ?aC vM.1).mono ?_);(case aA=>exact Kd.aN (Kd.aN cE.1 HB.1) aa);(case aC=>exact dw.1);rintro e Bn ⟨rfl,hb⟩;refine⟨_,rfl, ?_⟩;replace aZ:=m_ (Kd.aG (Kd.aG aZ.1 aa) hb);replace U7:=m_ (aI U7.1 hb);replace HB:=m_ (aH aj hb);clear hb));go_loopg [29] k1 (fun kq VJ w'=>∃(bW:List (List Int)) (U8:Int),VJ= .int .i64 U8∧ah (gW.l1 kq bW bU t164 (wrap64 (2*t162)) bU (wrap64 (2*t165)) U8 au ag=some r)∧ah (kq≤k1)∧ah (Kd.S (Kd.slice 2 (Kd.int .i64)) 29 w' w.heap.size (fun _=>True) Vw bW)∧ah (w'.heap[Vd]? =some (.cells #[.int .i64 au,(.slice bn ag.length bk)] 26 (0,0)))∧ah (Below w.heap.size w w'))
    case atStart=>exact⟨(bD),(0),aJ,H',⟨Nat.le_refl _⟩,⟨Kd.aG aZ.1 aa⟩,⟨aD U7.1 aa⟩,⟨aj⟩⟩
    case round=>
     clear H';obtain⟨bW,U8,rfl,HA,bX,aZ,U7,HB⟩:=hrel;cases gk with
     | zero=>exact absurd HA.1 (by simp[gW.l1])
     | succ k2=>
      have H:=HA.1;clear HA;simp only[gW.l1]at H
      by_cases c18:U8<(wrap64 (2*t165))
      ·rw[if_pos c18]at H
       have oO:=decide_eq_true c18;clear c18;obtain⟨⟨t166,t167⟩,uO,H⟩:=bL H;dsimp only at H
       by_cases jg:t166=t164
       ·rw[if_pos jg]at H
        obtain⟨uy,BG⟩:=dz jg;clear jg
        by_cases gY:U8=(Go.bits .xor .i64 bU 1)
        ·rw[if_pos gY]at H
         obtain⟨wV,VC⟩:=dz gY;clear gY;have H':=m_ H;clear H;have Jv:=aY U7.1;have Jw:=aV U7.1;have Jx:=ay U7.1 0;have Jy:=ay U7.1 1;go_wp2_with (first | ((with_reducible refine bF (f:=108) rfl ?_);refine bI (some 35) Try.func108 #[.agg #[.int .i64 au, .slice bn ag.length bk], .int .i64 U8] ?_;(with_reducible refine(pM.calls au _ _ ag U8 t166 t167 _ ?aA ?aC uO.1).mono ?_);(case aA=>exact Kd.aN (Kd.aN cE.1 HB.1) aa);(case aC=>exact dw.1);rintro e ry ⟨rfl,hb⟩;refine⟨_,rfl, ?_⟩;replace aZ:=m_ (Kd.aG (Kd.aG aZ.1 aa) hb);replace U7:=m_ (aI U7.1 hb);replace HB:=m_ (aH aj hb);clear hb));go_roundg k2
         case measure=>have:=bp.1;have:=bX.1;omega
         case rel=>exact⟨(bW),(wrap64 (U8+1)),aJ,H',⟨by have:=bp.1;have:=bX.1;omega⟩,⟨Kd.aG aZ.1 aa⟩,⟨aD U7.1 aa⟩,⟨aj⟩⟩
        ·rw[if_neg gY]at H
         obtain⟨wV,VC⟩:=dN gY;obtain⟨lf,H⟩:=aU H;have yP:=decide_eq_true lf;clear lf;obtain⟨jV,H⟩:=aU H;have yQ:=decide_eq_true jV;clear jV;obtain⟨jI,H⟩:=aU H;have yR:=decide_eq_true jI;clear jI;obtain⟨pP,H⟩:=aU H;have Be:=decide_eq_true pP;clear pP;obtain⟨Vb,VM,H⟩: ∃Vb:List Int,ah (Vb=((af bW bU).set (U8:Int).toNat 1))∧(gW.l1 k2 (bW.set (bU:Int).toNat Vb) bU t164 (wrap64 (2*t162)) bU (wrap64 (2*t165)) (wrap64 (U8+1)) au ag)=some r:=⟨_,⟨rfl⟩,H⟩;obtain⟨Va,VE,H⟩: ∃Va:List (List Int),ah (Va=(bW.set (bU:Int).toNat Vb))∧(gW.l1 k2 Va bU t164 (wrap64 (2*t162)) bU (wrap64 (2*t165)) (wrap64 (U8+1)) au ag)=some r:=⟨_,⟨rfl⟩,H⟩;have H':=m_ H;clear H;have R7:=aY U7.1;have R8:=aV U7.1;have R9:=ay U7.1 0;have Sa:=ay U7.1 1;go_wp2_with (first | ((with_reducible refine bF (f:=108) rfl ?_);refine bI (some 35) Try.func108 #[.agg #[.int .i64 au, .slice bn ag.length bk], .int .i64 U8] ?_;(with_reducible refine(pM.calls au _ _ ag U8 t166 t167 _ ?aA ?aC uO.1).mono ?_);(case aA=>exact Kd.aN (Kd.aN cE.1 HB.1) aa);(case aC=>exact dw.1);rintro e qI ⟨rfl,hb⟩;refine⟨_,rfl, ?_⟩;replace aZ:=m_ (Kd.aG (Kd.aG aZ.1 aa) hb);replace U7:=m_ (aI U7.1 hb);replace HB:=m_ (aH aj hb);clear hb;obtain⟨xg,vF,vG⟩:=Kd.eT aZ.1;subst vG;have Ve:0≤(bU:Int):=ak;have Vc:bU<(bW.length:Int):=ak;obtain⟨VB,VW,Vz,VL,Vv,Vo,Vt⟩:=dV (Kd.cG aZ.1).2.2 bU Ve Vc;cases VL;obtain⟨VS,VK,VD,Vy⟩:=Kd.lg aZ.1 [] bU Ve (by first | exact Vc | exact ak | (have e_:=(Kd.cG aZ.1).1;omega));obtain⟨VU,rfl,Vn⟩:=VD;have U9:=Vy 0 _ rfl;rw[Nat.add_zero,show((Kd.slice 2 (Kd.int .i64))).sz=1 from rfl,Nat.mul_one]at U9;replace U9:=Option.some.inj (U9.symm.trans Vv);rw[U9]at Vn;have Vg:=m_ (show Kd.R (Kd.int .i64) 2 _ _ _ _ (af bW bU) from Vn);clear U9 Vn;have VA:=m_ Vv;clear Vy VK;have VV:=m_ Vt;have VO:=m_ Vo;clear Vt Vo;replace Ve:=eq_true Ve;replace Vc:=eq_true Vc;have Vl:0≤(U8:Int):=ak;have Vm:(U8:Int)<(((af bW bU).length:Int):Int):=ak;obtain⟨Vi,mA,oP,Vp,VN,V1,Vr⟩:=Kd.nE Vg.1 (by omega);(first | cases oP | (injection oP with cC fC fD;(first | subst cC | (injection cC with cC;subst cC));subst fD;clear fC));have VG:=m_ Vp;have VZ:=m_ Vr;clear Vp VN Vr;obtain⟨VR,VT⟩:=Kd.lN 0 Vg.1 (U8:Int) Vl Vm;replace Vl:=eq_true Vl;replace Vm:=eq_true Vm;have Vu:(bU:Int)<(bW.length:Int):=(by have h_:(bU:Int)<((bW.length:Int):Int):=ak;first | exact h_ | (have e_:=(Kd.cG aZ.1).1;omega) | simpa only[List.length_set,List.length_set] using h_);obtain⟨VF,VP,VI,VH,Vs,Vx,Vq⟩:=Kd.uZ aZ.1 [] (bU:Int) (ak) (by first | exact Vu | (have e_:=(Kd.cG aZ.1).1;have h_:=Vu;omega));obtain⟨V0,rfl,Vh⟩:=VH;have Vf:=Vs 0 _ rfl;rw[Nat.add_zero,show((Kd.slice 2 (Kd.int .i64))).sz=1 from rfl,Nat.mul_one]at Vf;replace Vf:=Option.some.inj (Vf.symm.trans VA.1);subst Vf;clear Vs VI;replace Vh:=(show Kd.R (Kd.int .i64) 2 _ _ _ _ (af bW bU) from Vh);have Vj:=Kd.p8 Vh (U8:Int) 1) | ((with_reducible refine rC (t:=2) (p:=52) rfl ?_);refine rD (t:=2) (p:=52) (v:= ?VX) (w1:=(qI.setCell ⟨Vi,(U8:Int).toNat,none⟩ (.int .i64 1))) ?hg ?ho ?hn ?hr ?_;(case ho=>rfl);(case hg=>rfl);(case hn=>rfl);(case hr=>first | (go_simp;done) | (go_simp;rfl));intro sU hw;have hg:qI.grownBy sU (some Vi):=(by rw[hw];exact Vj.2);have p9:Kd.R (Kd.int .i64) 2 sU w.heap.size VF (.slice (some ⟨Vi,0,none⟩) (af bW bU).length Vz) Vb:=(by rw[hw,VM.1];exact Vj.1);have jo:Kd.S (Kd.slice 2 (Kd.int .i64)) 29 sU w.heap.size (fun _=>True) (.slice (some VB) bW.length vF) Va:=(by rw[VE.1];exact Vq hg (fun k_ e_=>by injection e_ with e_;subst e_;exact Vh.1 _ rfl) (Kd.gb p9));have qa:=Kd.bg p9 Vx;clear Vj Vq;replace aZ:=m_ (jo);replace U7:=m_ (dF (aD U7.1 aa) hg (Kd.kO Vg.1 U7.1 (by decide)));replace HB:=m_ ((by rw[hw];exact kC (HB.1) VG.1:Below w.heap.size w sU));have VY:=m_ (qa);have VQ:=m_ ((Kd.cF qa).2.1);clear Vg;clear hg hw jo p9 qa Vx));go_roundg k2
         case measure=>have:=bp.1;have:=bX.1;omega
         case rel=>exact⟨(Va),(wrap64 (U8+1)),aJ,H',⟨by have:=bp.1;have:=bX.1;omega⟩,⟨Kd.aG aZ.1 aa⟩,⟨aD U7.1 aa⟩,⟨aj⟩⟩
       ·rw[if_neg jg]at H
        obtain⟨uy,BG⟩:=dN jg;have H':=m_ H;clear H;have Ry:=aY U7.1;have Rz:=aV U7.1;have RA:=ay U7.1 0;have RB:=ay U7.1 1;go_wp2_with (first | ((with_reducible refine bF (f:=108) rfl ?_);refine bI (some 35) Try.func108 #[.agg #[.int .i64 au, .slice bn ag.length bk], .int .i64 U8] ?_;(with_reducible refine(pM.calls au _ _ ag U8 t166 t167 _ ?aA ?aC uO.1).mono ?_);(case aA=>exact Kd.aN (Kd.aN cE.1 HB.1) aa);(case aC=>exact dw.1);rintro e JQ ⟨rfl,hb⟩;refine⟨_,rfl, ?_⟩;replace aZ:=m_ (Kd.aG (Kd.aG aZ.1 aa) hb);replace U7:=m_ (aI U7.1 hb);replace HB:=m_ (aH aj hb);clear hb));go_roundg k2
        case measure=>have:=bp.1;have:=bX.1;omega
        case rel=>exact⟨(bW),(wrap64 (U8+1)),aJ,H',⟨by have:=bp.1;have:=bX.1;omega⟩,⟨Kd.aG aZ.1 aa⟩,⟨aD U7.1 aa⟩,⟨aj⟩⟩
      ·rw[if_neg c18]at H
       have oO:=decide_eq_false c18;clear c18;have H':=m_ H;clear H;go_wp2;go_roundg k2
       case measure=>have:=bp.1;have:=bX.1;omega
       case rel=>exact⟨(bW),(wrap64 (bU+1)),aJ,H',⟨by have:=bp.1;have:=bX.1;omega⟩,⟨Kd.aG aZ.1 aa⟩,⟨aD U7.1 aa⟩,⟨aj⟩⟩
   ·rw[if_neg c11]at H
    have jh:=decide_eq_false c11;clear c11;obtain rfl:=Option.some.inj H;go_wp2;go_ret;exact⟨_,cH,(Kd.aG aZ.1 aa),aj⟩

/-! ### slices_Clone_int64_int64: function 213 -/
def qp.f (l0:List Int):Option (List Int):=if l0.length<17592186044416 then some l0 else none
set_option maxHeartbeats 8000000 in
set_option maxRecDepth 100000 in
theorem qp.calls (A0:Option Addr) (c0:Nat) (l0:List Int) (r:List Int) (w:World) (hr0:Kd.C (Kd.int .i64) w A0 l0.length l0) (hc0:l0.length≤c0) (h:qp.f l0=some r):
  Calls Try.prog 213 #[.slice A0 l0.length c0] w fun e w'=>∃cP:Value,e= .returned (cP)∧Kd.R (Kd.int .i64) 2 w' w.heap.size (fun _=>True) cP r∧Below w.heap.size w w':=by
 have dG:=m_ hr0;have gi:=m_ hc0;have hlen:l0.length<17592186044416:=by
  by_cases hh:l0.length<17592186044416
  ·exact hh
  ·rw[qp.f,if_neg hh]at h;cases h
 have U7:r=l0:=by rw[qp.f,if_pos hlen]at h;exact(Option.some.inj h).symm
 clear h;have HB:=m_ (Below.refl w.heap.size w);cases A0 with
 | none=>
  have hnil:l0= []:=by
   cases l0 with
   | nil=>rfl
   | cons x xs=>
    obtain⟨_,_,hh⟩:=hr0;obtain⟨_,e,_⟩:=hh (by simp);cases e
  subst hnil;subst U7;have qe: ∀W:World,(binOp .eql 29 (.slice none 0 c0) (.slice none 0 0)).run Try.prog W= .ok (.bool true) W:=fun W=>Lib.run_eql_slice_nil W 29 2 none 0 c0 0 0 Try.underlying29
  clear hr0 hc0;go_enter Try.func213,Try.ntmps213;go_wp2;go_ret;exact⟨_,rfl,Kd.kK _ _ _ _ _,aq⟩
 | some a=>
  have qe: ∀W:World,(binOp .eql 29 (.slice (some a) l0.length c0) (.slice none 0 0)).run Try.prog W= .ok (.bool false) W:=fun W=>Lib.run_eql_slice_nil W 29 2 (some a) l0.length c0 0 0 Try.underlying29
  clear hr0 hc0;have LM:=m_ hlen;clear hlen;obtain⟨y1,hy1⟩: ∃y_:List Int,y_=(([]:List Int)):=⟨_,rfl⟩;have sA:r=y1++l0:=by rw[hy1,U7];rfl
  have hz1:y1.length=0:=by rw[hy1];rfl
  have U9:=m_ hy1;have Nr:=m_ sA;have Nz:=m_ hz1;clear hy1 sA hz1 U7;go_enter Try.func213,Try.ntmps213;go_wp2_with (first | ((with_reducible refine bG (N:=5) rfl ?_);refine Kd.eF (Kd.int .i64) _ 2 ?hg (N:=5) ?hd (xs:=([]:List Int)) (inner:=[]) (ok:=fun _=>True) (bQ:=fun _=>True) ?hr ?hp (fun _ hk=>hk) trivial (Below.refl _ _) (Nat.le_refl _) (by simp) ?_;(case hd=>rfl);(case hg=>rfl);(case hr=>first | (go_simp;done) | (go_simp;rfl));(case hp=>exact(aT.none _ _));intro Kh w3 kP hb bO bP;clear bO bP;rw[← U9.1]at kP;have Cj:=m_ (Kd.cx kP (aE aq));replace HB:=m_ (aH aq hb);clear hb kP) | ((with_reducible refine fG (b:= .append) (xs:= #[.tmp 5, .tmp 6]) rfl ?_);at_builtin;refine Kd.Ki (Kd.int .i64) (w0:=w) w.heap.size rfl (.tmp 5) (.tmp 6) 29 2 (.int .i64 0) 8 rfl Try.underlying29 jf rfl (by decide) (by omega) Kh y1 l0 _ _ _ (fun _=>True) (fun _=>False) rfl rfl ?aO ?aR (fun _ _ h=>h) (fun _ h=>h.elim) ?aF ?aB ?aS ?aL ?_;(case aR=>repeat (first | exact(Kd.aN dG.1 HB.1) | (with_reducible refine Kd.fK ?_ _) | (with_reducible refine Kd.fL ?_ _) | (with_reducible refine Kd.fH ?_)));(case aB=>exact aq);(case aF=>exact(fun _ _=>trivial));(case aO=>exact(Kd.ax Cj.1 aa));(case aS=>exact(aE aq));(case aL=>have:=LM.out;have:=Nz.out;omega);intro Va w5 ho hb hg hat;rw[← Nr.out]at ho;replace HB:=m_ (hb);have U8:=m_ (ho);clear Cj;clear ho hb hg hat));go_ret;exact⟨_,rfl,(Kd.ax U8.1 aa),aq⟩

/-! ### impl_trimmed: function 170 -/
def jl.l0:Nat→List Int→Option (List Int)
 | 0,_=>none
 | k+1,x0=>if (x0.length:Int)>0 then (if 0≤(wrap64 ((x0.length:Int) - 1)) then (if (wrap64 ((x0.length:Int) - 1))<(x0.length:Int) then (if (rd x0 (wrap64 ((x0.length:Int) - 1)))=0 then (if (wrap64 ((x0.length:Int) - 1))≤(x0.length:Int) then (jl.l0 k (x0.take ((wrap64 ((x0.length:Int) - 1)):Int).toNat)) else (none)) else ((qp.f x0).bind fun t179=>(some t179))) else (none)) else (none)) else ((qp.f x0).bind fun t182=>(some t182))
def jl.f (k:Nat) (l0:List Int):Option (List Int):=jl.l0 k l0
set_option maxHeartbeats 8000000 in
set_option maxRecDepth 100000 in
theorem jl.calls (k:Nat) (gU:Nat→Prop) (A0:Option Addr) (c0:Nat) (l0:List Int) (r:List Int) (w:World) (hs0:Kd.V (Kd.int .i64) 2 w w.heap.size (fun k_=>gU k_) (.slice A0 l0.length c0) l0) (h:jl.f k l0=some r):
  Calls Try.prog 170 #[.slice A0 l0.length c0] w fun e w'=>∃cP:Value,e= .returned (cP)∧Kd.R (Kd.int .i64) 2 w' w.heap.size (fun k_=>(w.heap.size≤k_)) cP r∧Below w.heap.size w w':=by
 have iI:=m_ (show Kd.V (Kd.int .i64) 2 w w.heap.size (fun k_=>(gU k_∨w.heap.size≤k_)) (.slice A0 l0.length c0) l0 from Kd.bT hs0 (fun k_ hk=> .inl hk));have HB:=m_ (Below.refl w.heap.size w);have H:=h;unfold jl.f at H;clear h;have H':=m_ H;clear H;go_enter Try.func170,Try.ntmps170;go_wp2;go_loopg [0] k (fun kq v0 w'=>∃(fE:List Int),ah (jl.l0 kq fE=some r)∧ah (kq≤k)∧ah (Kd.V (Kd.int .i64) 2 w' w.heap.size (fun k_=>(gU k_∨w.heap.size≤k_)) v0 fE)∧ah (Below w.heap.size w w'))
 case atStart=>exact⟨(l0),H',⟨Nat.le_refl _⟩,⟨Kd.bz iI.1 aa⟩,⟨aq⟩⟩
 case round=>
  clear H';obtain⟨fE,HA,bp,iZ,HB⟩:=hrel;cases gk with
  | zero=>exact absurd HA.1 (by simp[jl.l0])
  | succ k1=>
   have H:=HA.1;clear HA;simp only[jl.l0]at H
   by_cases c2:(fE.length:Int)>0
   ·rw[if_pos c2]at H
    have qJ:=decide_eq_true c2;have B0:decide (0<fE.length)=true:=decide_eq_true (by omega);clear c2;obtain⟨bJ,fc⟩: ∃j_:Int,(wrap64 ((fE.length:Int) - 1))=j_:=⟨_,rfl⟩;(try rw[fc]);replace H:(if 0≤(bJ) then (if (bJ)<(fE.length:Int) then (if (rd fE (bJ))=0 then (if (bJ)≤(fE.length:Int) then (jl.l0 k1 (fE.take ((bJ):Int).toNat)) else (none)) else ((qp.f fE).bind fun t179=>(some t179))) else (none)) else (none))=some r:=by first | (rw[fc]at H;exact H) | (simp only[fc]at H ⊢;exact H)
    have E6:(IntKind.i64.wrap ((fE.length:Int) - 1))=bJ:=(eE _).trans fc;obtain⟨c4,H⟩:=aU H;have eU:=decide_eq_true c4;clear c4;obtain⟨c5,H⟩:=aU H;have gR:=decide_eq_true c5;clear c5
    by_cases c6:(rd fE (bJ))=0
    ·rw[if_pos c6]at H
     obtain⟨ij,mV⟩:=dz c6;clear c6;have jX:=eq_true (ak:0≤(bJ));obtain⟨c8,H⟩:=aU H;have kE:=eq_true c8;have ou:=decide_eq_true c8;clear c8;obtain⟨U7,Vg,H⟩: ∃U7:List Int,ah (U7=(fE.take ((bJ):Int).toNat))∧(jl.l0 k1 U7)=some r:=⟨_,⟨rfl⟩,H⟩;have H':=m_ H;clear H;obtain⟨rN,oF,vD⟩:=Kd.pO iZ.1;subst vD;have U8:0≤((bJ):Int):=ak;have U9:(bJ)<(fE.length:Int):=ak;obtain⟨Va,Vd,Vi⟩:=Kd.cD (Kd.dQ iZ.1).2.2 (bJ) U8 U9;cases Vd;replace U8:=eq_true U8;replace U9:=eq_true U9;have Vb:((bJ):Int)≤((fE.length:Int):Int):=ak;obtain⟨RJ,zB,_,Cc,_⟩:=info_parts jf;have Vf:fE.length≤oF:=(Kd.dQ iZ.1).2.1;have zC:Kd.F (Kd.int .i64) _ _ (some Va) fE.length fE:=(Kd.zY (base:=w.heap.size) iZ.1).2.2;have JK:=SK (P:=Try.prog) 29 2 .i64 Try.underlying29 zB (some Va) fE.length oF (bJ) (ak) Vb Vf;have Ve:=Kd.SL (m:=((bJ):Int).toNat) zC (by omega);have Vc:U7.length=((bJ):Int).toNat:=(by rw[Vg.1,List.length_take];omega);rw[← Vg.1]at Ve;rw[← Vc]at JK;have Vk:=m_ (show Kd.V (Kd.int .i64) 2 _ w.heap.size _ (.slice (some Va) U7.length oF) U7 from Kd.SM (by omega) Ve);have Vm:=m_ (show U7.length≤oF from by omega);clear Ve zC Vf zB Cc;have Vp:=m_ Vc;clear Vc;replace Vb:=eq_true Vb;go_wp2
     first | go_roundg k1 | ((try subst fc);go_roundg k1)
     case measure=>have:=bp.1;omega
     case rel=>exact⟨(U7),H',⟨by have:=bp.1;omega⟩,⟨Kd.bz Vk.1 aa⟩,⟨aq⟩⟩
    ·rw[if_neg c6]at H
     obtain⟨ij,mV⟩:=dN c6;obtain⟨t179,EZ,H⟩:=bL H;obtain rfl:=Option.some.inj H;obtain⟨rq,qA,pW⟩:=Kd.pO iZ.1;subst pW;have U8:0≤((bJ):Int):=ak;have U9:(bJ)<(fE.length:Int):=ak;obtain⟨Va,Vd,Vi⟩:=Kd.cD (Kd.dQ iZ.1).2.2 (bJ) U8 U9;cases Vd;replace U8:=eq_true U8;replace U9:=eq_true U9;go_wp2_with (first | ((with_reducible refine bF (f:=213) rfl ?_);refine bI (some 21) Try.func213 #[.slice (some Va) fE.length qA] ?_;(with_reducible refine(qp.calls _ _ fE t179 _ ?aA ?aC EZ.1).mono ?_);(case aA=>exact Kd.aN (Kd.dQ iZ.1).2.2 aa);(case aC=>exact(Kd.dQ iZ.1).2.1);rintro e nO ⟨Vo,rfl,az,hb⟩;refine⟨_,rfl, ?_⟩;replace iZ:=m_ (Kd.ez (Kd.bz iZ.1 aa) (Kd.bu az) hb);have Vj:=m_ (Kd.cx (Kd.rM (M:=fun k_=>(w.heap.size≤k_)) az (aE aq) (fun k_ h_=>h_)) (aE aq));replace HB:=m_ (aH aq hb);clear hb;(try clear az)));go_ret;exact⟨_,by first | rfl | (simp[iR,iS]<;>rfl) | (simp only[← fc];first | rfl | (simp[iR,iS]<;>rfl)) | (simp[*,iR,iS]<;>rfl),by(with_reducible repeat (first | apply Kd.dB | apply Kd.dD | apply Kd.cK));exact Kd.bg Vj.1 (fun _ hk=>hk.1),aq⟩
   ·rw[if_neg c2]at H
    have qJ:=decide_eq_false c2;have B0:decide (0<fE.length)=false:=decide_eq_false (by omega);clear c2;obtain⟨t182,qB,H⟩:=bL H;obtain rfl:=Option.some.inj H;obtain⟨Vh,JT,Ce⟩:=Kd.pO iZ.1;subst Ce;go_wp2_with (first | ((with_reducible refine bF (f:=213) rfl ?_);refine bI (some 21) Try.func213 #[.slice Vh fE.length JT] ?_;(with_reducible refine(qp.calls _ _ fE t182 _ ?aA ?aC qB.1).mono ?_);(case aA=>exact Kd.aN (Kd.dQ iZ.1).2.2 aa);(case aC=>exact(Kd.dQ iZ.1).2.1);rintro e BC ⟨Vn,rfl,az,hb⟩;refine⟨_,rfl, ?_⟩;replace iZ:=m_ (Kd.ez (Kd.bz iZ.1 aa) (Kd.bu az) hb);have Vl:=m_ (Kd.cx (Kd.rM (M:=fun k_=>(w.heap.size≤k_)) az (aE aq) (fun k_ h_=>h_)) (aE aq));replace HB:=m_ (aH aq hb);clear hb;(try clear az)));go_ret;exact⟨_,cH,by(with_reducible repeat (first | apply Kd.dB | apply Kd.dD | apply Kd.cK));exact Kd.bg Vl.1 (fun _ hk=>hk.1),aq⟩

/-! ### impl_trace: function 219 -/
def lD.l0:Nat→Int→List (List Int)→Int→Int→Option (Int)
 | 0,_,_,_,_=>none
 | k+1,x3,x6,x7,x8=>if x8<x7 then (if 0≤x8 then (if x8<(x6.length:Int) then (if x8<((af x6 x8).length:Int) then (lD.l0 k (wrap64 (x3+(rd (af x6 x8) x8))) x6 x7 (wrap64 (x8+1))) else (none)) else (none)) else (none)) else (some x3)
def lD.f (k:Nat) (l0:List (List Int)):Option (Int):=lD.l0 k 0 l0 (l0.length:Int) 0
set_option maxHeartbeats 8000000 in
set_option maxRecDepth 100000 in
theorem lD.calls (k:Nat) (A0:Option Addr) (c0:Nat) (l0:List (List Int)) (r:Int) (w:World) (hr0:Kd.C (Kd.slice 2 (Kd.int .i64)) w A0 l0.length l0) (hc0:l0.length≤c0) (h:lD.f k l0=some r):
  Calls Try.prog 219 #[.slice A0 l0.length c0] w fun e w'=>e= .returned (.int .i64 r)∧bB w w':=by
 have dG:=m_ hr0;have gi:=m_ hc0;clear hr0 hc0;have H:=h;unfold lD.f at H;clear h;have H':=m_ H;clear H;go_enter Try.func219,Try.ntmps219;go_wp2;go_loopg [3,8] k (fun kq v3 v8 w'=>∃(bD:Int) (di:Int),v3= .int .i64 bD∧v8= .int .i64 di∧ah (lD.l0 kq bD l0 (l0.length:Int) di=some r)∧ah (kq≤k)∧bB w w')
 case atStart=>exact⟨(0),(0),aJ,aJ,H',⟨Nat.le_refl _⟩,by repeat (first | exact bB.refl _ | apply bB.step)⟩
 case round=>
  clear H';obtain⟨bD,di,rfl,rfl,HA,bp,⟨m1,rfl⟩⟩:=hrel;cases gk with
  | zero=>exact absurd HA.1 (by simp[lD.l0])
  | succ k1=>
   have H:=HA.1;clear HA;simp only[lD.l0]at H
   by_cases c2:di<(l0.length:Int)
   ·rw[if_pos c2]at H
    have qJ:=decide_eq_true c2;clear c2;obtain⟨c3,H⟩:=aU H;have ig:=decide_eq_true c3;clear c3;obtain⟨c4,H⟩:=aU H;have eU:=decide_eq_true c4;clear c4;obtain⟨c5,H⟩:=aU H;have gR:=decide_eq_true c5;clear c5;have H':=m_ H;clear H;have Va:0≤(di:Int):=ak;have U7:di<(l0.length:Int):=ak;obtain⟨Vh,Vg,Vk,Vd,Vm,Vb,Vc⟩:=dV dG.1 di Va U7;cases Vd;have Vf:=m_ Vc;have Vl:=m_ Vb;clear Vc Vb;replace Va:=eq_true Va;replace U7:=eq_true U7;have U9:0≤(di:Int):=ak;have U8:di<((af l0 di).length:Int):=ak;obtain⟨Vj,Ve,Vi⟩:=Kd.cD Vf.1 di U9 U8;cases Ve;replace U9:=eq_true U9;replace U8:=eq_true U8;go_wp2;go_roundg k1
    case measure=>have:=bp.1;omega
    case rel=>exact⟨(wrap64 (bD+(rd (af l0 di) di))),(wrap64 (di+1)),aJ,aJ,H',⟨by have:=bp.1;omega⟩,by repeat (first | exact bB.refl _ | apply bB.step)⟩
   ·rw[if_neg c2]at H
    have qJ:=decide_eq_false c2;clear c2;obtain rfl:=Option.some.inj H;go_wp2;go_ret;exact⟨aJ,by repeat (first | exact bB.refl _ | apply bB.step)⟩

/-! ### impl_rowsTimes: function 220 -/
mutual
def fO.l0:Nat→List (List Int)→List (List Int)→List (List Int)→Int→Int→Option ((List (List Int)))
 | 0,_,_,_,_,_=>none
 | k+1,x1,x5,fJ,dJ,eW=>if eW<dJ then (if 0≤eW then (if eW<(fJ.length:Int) then (fO.l1 k x1 x5 eW fJ dJ eW (af fJ eW) ((af fJ eW).length:Int) 0) else (none)) else (none)) else (some x5)
def fO.l1:Nat→List (List Int)→List (List Int)→Int→List (List Int)→Int→Int→List Int→Int→Int→Option ((List (List Int)))
 | 0,_,_,_,_,_,_,_,_,_=>none
 | k+1,x1,x5,x6,fJ,dJ,eW,jy,nA,lR=>if lR<nA then (if 0≤lR then (if lR<(jy.length:Int) then (if (rd jy lR)=0 then (fO.l1 k x1 x5 x6 fJ dJ eW jy nA (wrap64 (lR+1))) else (if lR<(x1.length:Int) then (fO.l2 k x1 x5 x6 (rd jy lR) fJ dJ eW jy nA lR (af x1 lR) ((af x1 lR).length:Int) 0) else (none))) else (none)) else (none)) else (fO.l0 k x1 x5 fJ dJ (wrap64 (eW+1)))
def fO.l2:Nat→List (List Int)→List (List Int)→Int→Int→List (List Int)→Int→Int→List Int→Int→Int→List Int→Int→Int→Option ((List (List Int)))
 | 0,_,_,_,_,_,_,_,_,_,_,_,_,_=>none
 | k+1,x1,x5,x6,x9,fJ,dJ,eW,jy,nA,lR,qh,yz,U7=>if U7<yz then (if 0≤U7 then (if U7<(qh.length:Int) then (if 0≤x6 then (if x6<(x5.length:Int) then (if U7<((af x5 x6).length:Int) then (fO.l2 k x1 (x5.set (x6:Int).toNat ((af x5 x6).set (U7:Int).toNat (wrap64 ((rd (af x5 x6) U7)+(wrap64 (x9*(rd qh U7))))))) x6 x9 fJ dJ eW jy nA lR qh yz (wrap64 (U7+1))) else (none)) else (none)) else (none)) else (none)) else (none)) else (fO.l1 k x1 x5 x6 fJ dJ eW jy nA (wrap64 (lR+1)))
end
def fO.f (k:Nat) (l0:List (List Int)) (l1:List (List Int)):Option ((List (List Int))):=(jw.f k (l0.length:Int)).bind fun t187=>(fO.l0 k l1 t187 l0 (l0.length:Int) 0)
set_option maxHeartbeats 8000000 in
set_option maxRecDepth 100000 in
theorem fO.calls (k:Nat) (A0:Option Addr) (c0:Nat) (l0:List (List Int)) (A1:Option Addr) (c1:Nat) (l1:List (List Int)) (r:List (List Int)) (w:World) (hr0:Kd.C (Kd.slice 2 (Kd.int .i64)) w A0 l0.length l0) (hc0:l0.length≤c0) (hr1:Kd.C (Kd.slice 2 (Kd.int .i64)) w A1 l1.length l1) (hc1:l1.length≤c1) (h:fO.f k l0 l1=some r):
  Calls Try.prog 220 #[.slice A0 l0.length c0, .slice A1 l1.length c1] w fun e w'=>∃cP:Value,e= .returned (cP)∧Kd.S (Kd.slice 2 (Kd.int .i64)) 29 w' w.heap.size (fun _=>True) cP r∧Below w.heap.size w w':=by
 have dG:=m_ hr0;have gi:=m_ hc0;clear hr0 hc0;have je:=m_ hr1;have pR:=m_ hc1;clear hr1 hc1;have HB:=m_ (Below.refl w.heap.size w);have H:=h;unfold fO.f at H;clear h;obtain⟨t187,A3,H⟩:=bL H;have H':=m_ H;clear H;go_enter Try.func220,Try.ntmps220;go_wp2_with (first | ((with_reducible refine bF (f:=221) rfl ?_);refine bI (some 14) Try.func221 #[.int .i64 (l0.length:Int)] ?_;(with_reducible refine(jw.calls k (l0.length:Int) t187 _ A3.1).mono ?_);rintro e w4 ⟨Vh,rfl,az,hb⟩;refine⟨_,rfl, ?_⟩;have VU:=m_ (Kd.gj az (aE aq));replace HB:=m_ (aH aq hb);clear hb;(try clear az)));go_loopg [17] k (fun kq zk w'=>∃(bN:List (List Int)) (bU:Int),zk= .int .i64 bU∧ah (fO.l0 kq l1 bN l0 (l0.length:Int) bU=some r)∧ah (kq≤k)∧ah (Kd.S (Kd.slice 2 (Kd.int .i64)) 29 w' w.heap.size (fun _=>True) Vh bN)∧ah (Below w.heap.size w w'))
 case atStart=>exact⟨(t187),(0),aJ,H',⟨Nat.le_refl _⟩,⟨Kd.aG VU.1 aa⟩,⟨aq⟩⟩
 case round=>
  clear H';obtain⟨bN,bU,rfl,HA,bp,aK,HB⟩:=hrel;cases gk with
  | zero=>exact absurd HA.1 (by simp[fO.l0])
  | succ k1=>
   have H:=HA.1;clear HA;simp only[fO.l0]at H
   by_cases c5:bU<(l0.length:Int)
   ·rw[if_pos c5]at H
    have gR:=decide_eq_true c5;clear c5;obtain⟨c6,H⟩:=aU H;have ij:=decide_eq_true c6;clear c6;obtain⟨c7,H⟩:=aU H;have jX:=decide_eq_true c7;clear c7;have H':=m_ H;clear H;have Vn:0≤(bU:Int):=ak;have Vt:bU<(l0.length:Int):=ak;obtain⟨V7,V5,V6,VM,Vo,VF,VD⟩:=dV dG.1 bU Vn Vt;cases VM;(try replace Vo:=(HB.1.cell (World.block_lt_of_cell? w _ Vo)).trans Vo);have VE:=m_ VD;have We:=m_ VF;clear VD VF;replace Vn:=eq_true Vn;replace Vt:=eq_true Vt;go_wp2;go_loopg [24] k1 (fun kq VG w'=>∃(cY:List (List Int)) (U7:Int),VG= .int .i64 U7∧ah (fO.l1 kq l1 cY bU l0 (l0.length:Int) bU (af l0 bU) ((af l0 bU).length:Int) U7=some r)∧ah (kq≤k1)∧ah (Kd.S (Kd.slice 2 (Kd.int .i64)) 29 w' w.heap.size (fun _=>True) Vh cY)∧ah (Below w.heap.size w w'))
    case atStart=>exact⟨(bN),(0),aJ,H',⟨Nat.le_refl _⟩,⟨Kd.aG aK.1 aa⟩,⟨aq⟩⟩
    case round=>
     clear H';obtain⟨cY,U7,rfl,HA,bX,aK,HB⟩:=hrel;cases gk with
     | zero=>exact absurd HA.1 (by simp[fO.l1])
     | succ k2=>
      have H:=HA.1;clear HA;simp only[fO.l1]at H
      by_cases c8:U7<((af l0 bU).length:Int)
      ·rw[if_pos c8]at H
       have kE:=decide_eq_true c8;clear c8;obtain⟨c9,H⟩:=aU H;have mo:=decide_eq_true c9;clear c9;obtain⟨c10,H⟩:=aU H;have mq:=decide_eq_true c10;clear c10
       by_cases c11:(rd (af l0 bU) U7)=0
       ·rw[if_pos c11]at H
        obtain⟨jh,oU⟩:=dz c11;clear c11;have H':=m_ H;clear H;have U9:0≤(U7:Int):=ak;have Vb:U7<((af l0 bU).length:Int):=ak;obtain⟨VS,Vr,Va⟩:=Kd.cD VE.1 U7 U9 Vb;cases Vr;(try replace Va:=(HB.1.cell (World.block_lt_of_cell? w _ Va)).trans Va);replace U9:=eq_true U9;replace Vb:=eq_true Vb;go_wp2;go_roundg k2
        case measure=>have:=bp.1;have:=bX.1;omega
        case rel=>exact⟨(cY),(wrap64 (U7+1)),aJ,H',⟨by have:=bp.1;have:=bX.1;omega⟩,⟨Kd.aG aK.1 aa⟩,⟨aq⟩⟩
       ·rw[if_neg c11]at H
        obtain⟨jh,oU⟩:=dN c11;obtain⟨c12,H⟩:=aU H;have lO:=decide_eq_true c12;clear c12;have H':=m_ H;clear H;have U9:0≤(U7:Int):=ak;have Vb:U7<((af l0 bU).length:Int):=ak;obtain⟨VS,Vr,Va⟩:=Kd.cD VE.1 U7 U9 Vb;cases Vr;(try replace Va:=(HB.1.cell (World.block_lt_of_cell? w _ Va)).trans Va);replace U9:=eq_true U9;replace Vb:=eq_true Vb;have Vl:0≤(U7:Int):=ak;have Vi:U7<(l1.length:Int):=ak;obtain⟨Wc,V1,V2,VH,Vv,Vy,VA⟩:=dV je.1 U7 Vl Vi;cases VH;(try replace Vv:=(HB.1.cell (World.block_lt_of_cell? w _ Vv)).trans Vv);have VK:=m_ VA;have V8:=m_ Vy;clear VA Vy;replace Vl:=eq_true Vl;replace Vi:=eq_true Vi;go_wp2;go_loopg [36] k2 (fun kq VP w'=>∃(dY:List (List Int)) (U8:Int),VP= .int .i64 U8∧ah (fO.l2 kq l1 dY bU (rd (af l0 bU) U7) l0 (l0.length:Int) bU (af l0 bU) ((af l0 bU).length:Int) U7 (af l1 U7) ((af l1 U7).length:Int) U8=some r)∧ah (kq≤k2)∧ah (Kd.S (Kd.slice 2 (Kd.int .i64)) 29 w' w.heap.size (fun _=>True) Vh dY)∧ah (Below w.heap.size w w'))
        case atStart=>exact⟨(cY),(0),aJ,H',⟨Nat.le_refl _⟩,⟨Kd.aG aK.1 aa⟩,⟨aq⟩⟩
        case round=>
         clear H';obtain⟨dY,U8,rfl,HA,eG,aK,HB⟩:=hrel;cases gk with
         | zero=>exact absurd HA.1 (by simp[fO.l2])
         | succ k3=>
          have H:=HA.1;clear HA;simp only[fO.l2]at H
          by_cases c13:U8<((af l1 U7).length:Int)
          ·rw[if_pos c13]at H
           have kJ:=decide_eq_true c13;clear c13;obtain⟨c14,H⟩:=aU H;have kW:=decide_eq_true c14;clear c14;obtain⟨c15,H⟩:=aU H;have iO:=decide_eq_true c15;clear c15;obtain⟨c16,H⟩:=aU H;have oM:=decide_eq_true c16;clear c16;obtain⟨c17,H⟩:=aU H;have oN:=decide_eq_true c17;clear c17;obtain⟨c18,H⟩:=aU H;have oO:=decide_eq_true c18;clear c18;obtain⟨Ve,VX,H⟩: ∃Ve:List Int,ah (Ve=((af dY bU).set (U8:Int).toNat (wrap64 ((rd (af dY bU) U8)+(wrap64 ((rd (af l0 bU) U7)*(rd (af l1 U7) U8)))))))∧(fO.l2 k3 l1 (dY.set (bU:Int).toNat Ve) bU (rd (af l0 bU) U7) l0 (l0.length:Int) bU (af l0 bU) ((af l0 bU).length:Int) U7 (af l1 U7) ((af l1 U7).length:Int) (wrap64 (U8+1)))=some r:=⟨_,⟨rfl⟩,H⟩;obtain⟨Vc,VW,H⟩: ∃Vc:List (List Int),ah (Vc=(dY.set (bU:Int).toNat Ve))∧(fO.l2 k3 l1 Vc bU (rd (af l0 bU) U7) l0 (l0.length:Int) bU (af l0 bU) ((af l0 bU).length:Int) U7 (af l1 U7) ((af l1 U7).length:Int) (wrap64 (U8+1)))=some r:=⟨_,⟨rfl⟩,H⟩;have H':=m_ H;clear H;have Vj:0≤(U8:Int):=ak;have Vk:U8<((af l1 U7).length:Int):=ak;obtain⟨VY,VL,Vm⟩:=Kd.cD VK.1 U8 Vj Vk;cases VL;(try replace Vm:=(HB.1.cell (World.block_lt_of_cell? w _ Vm)).trans Vm);replace Vj:=eq_true Vj;replace Vk:=eq_true Vk;obtain⟨Fq,xp,vH⟩:=Kd.eT aK.1;subst vH;have Vg:0≤(bU:Int):=ak;have Vf:bU<(dY.length:Int):=ak;obtain⟨VI,V3,VR,VV,VB,Vz,Vw⟩:=dV (Kd.cG aK.1).2.2 bU Vg Vf;cases VV;obtain⟨V9,VT,VO,Vx⟩:=Kd.lg aK.1 [] bU Vg (by first | exact Vf | exact ak | (have e_:=(Kd.cG aK.1).1;omega));obtain⟨V0,rfl,Vp⟩:=VO;have Vd:=Vx 0 _ rfl;rw[Nat.add_zero,show((Kd.slice 2 (Kd.int .i64))).sz=1 from rfl,Nat.mul_one]at Vd;replace Vd:=Option.some.inj (Vd.symm.trans VB);rw[Vd]at Vp;have Vq:=m_ (show Kd.R (Kd.int .i64) 2 _ _ _ _ (af dY bU) from Vp);clear Vd Vp;have VJ:=m_ VB;clear Vx VT;have VC:=m_ Vw;have Wa:=m_ Vz;clear Vw Vz;replace Vg:=eq_true Vg;replace Vf:=eq_true Vf;have Vu:0≤(U8:Int):=ak;have Vs:U8<((af dY bU).length:Int):=ak;obtain⟨VZ,VN,VQ⟩:=Kd.cD (by repeat (first | (with_reducible exact VC.1) | (with_reducible refine Kd.fK ?_ _) | (with_reducible refine Kd.fL ?_ _) | (with_reducible refine Kd.fH ?_) | exact VC.1)) U8 Vu Vs;cases VN;replace Vu:=eq_true Vu;replace Vs:=eq_true Vs;have qd:0≤(U8:Int):=ak;have qf:(U8:Int)<(((af dY bU).length:Int):Int):=ak;obtain⟨xy,eV,pY,zK,Fv,R3,zL⟩:=Kd.nE Vq.1 (by omega);(first | cases pY | (injection pY with cC fC fD;(first | subst cC | (injection cC with cC;subst cC));subst fD;clear fC));have JU:=m_ zK;have JV:=m_ zL;clear zK Fv zL;(first | simp only[add_plain]at VQ | skip);obtain⟨Ft,Fu⟩:=Kd.lN 0 Vq.1 (U8:Int) qd qf;replace qd:=eq_true qd;replace qf:=eq_true qf;have zZ:(bU:Int)<(dY.length:Int):=(by have h_:(bU:Int)<((dY.length:Int):Int):=ak;first | exact h_ | (have e_:=(Kd.cG aK.1).1;omega) | simpa only[List.length_set,List.length_set] using h_);obtain⟨Kj,SN,FR,FT,z6,Cm,Aa⟩:=Kd.uZ aK.1 [] (bU:Int) (ak) (by first | exact zZ | (have e_:=(Kd.cG aK.1).1;have h_:=zZ;omega));obtain⟨SP,rfl,rW⟩:=FT;have rX:=z6 0 _ rfl;rw[Nat.add_zero,show((Kd.slice 2 (Kd.int .i64))).sz=1 from rfl,Nat.mul_one]at rX;replace rX:=Option.some.inj (rX.symm.trans VJ.1);subst rX;clear z6 FR;replace rW:=(show Kd.R (Kd.int .i64) 2 _ _ _ _ (af dY bU) from rW);have pq:=Kd.p8 rW (U8:Int) (wrap64 ((rd (af dY bU) U8)+(wrap64 ((rd (af l0 bU) U7)*(rd (af l1 U7) U8)))));go_wp2_with (first | ((with_reducible refine rC (t:=2) (p:=52) rfl ?_);refine rD (t:=2) (p:=52) (v:= ?R2) (w1:=(wr.setCell ⟨xy,(U8:Int).toNat,none⟩ (.int .i64 (wrap64 ((rd (af dY bU) U8)+(wrap64 ((rd (af l0 bU) U7)*(rd (af l1 U7) U8)))))))) ?hg ?ho ?hn ?hr ?_;(case ho=>rfl);(case hg=>rfl);(case hn=>rfl);(case hr=>first | (go_simp;done) | (go_simp;rfl));intro kZ hw;have hg:wr.grownBy kZ (some xy):=(by rw[hw];exact pq.2);have p9:Kd.R (Kd.int .i64) 2 kZ w.heap.size Kj (.slice (some ⟨xy,0,none⟩) (af dY bU).length VR) Ve:=(by rw[hw,VX.1];exact pq.1);have jo:Kd.S (Kd.slice 2 (Kd.int .i64)) 29 kZ w.heap.size (fun _=>True) (.slice (some VI) dY.length xp) Vc:=(by rw[VW.1];exact Aa hg (fun k_ e_=>by injection e_ with e_;subst e_;exact rW.1 _ rfl) (Kd.gb p9));have qa:=Kd.bg p9 Cm;clear pq Aa;replace aK:=m_ (jo);replace HB:=m_ ((by rw[hw];exact kC (HB.1) JU.1:Below w.heap.size w kZ));have Wf:=m_ (qa);have V4:=m_ ((Kd.cF qa).2.1);clear Vq;clear hg hw jo p9 qa Cm));go_roundg k3
           case measure=>have:=bp.1;have:=bX.1;have:=eG.1;omega
           case rel=>exact⟨(Vc),(wrap64 (U8+1)),aJ,H',⟨by have:=bp.1;have:=bX.1;have:=eG.1;omega⟩,⟨Kd.aG aK.1 aa⟩,⟨aq⟩⟩
          ·rw[if_neg c13]at H
           have kJ:=decide_eq_false c13;clear c13;have H':=m_ H;clear H;go_wp2;go_roundg k3
           case measure=>have:=bp.1;have:=bX.1;have:=eG.1;omega
           case rel=>exact⟨(dY),(wrap64 (U7+1)),aJ,H',⟨by have:=bp.1;have:=bX.1;have:=eG.1;omega⟩,⟨Kd.aG aK.1 aa⟩,⟨aq⟩⟩
      ·rw[if_neg c8]at H
       have kE:=decide_eq_false c8;clear c8;have H':=m_ H;clear H;go_wp2;go_roundg k2
       case measure=>have:=bp.1;have:=bX.1;omega
       case rel=>exact⟨(cY),(wrap64 (bU+1)),aJ,H',⟨by have:=bp.1;have:=bX.1;omega⟩,⟨Kd.aG aK.1 aa⟩,⟨aq⟩⟩
   ·rw[if_neg c5]at H
    have gR:=decide_eq_false c5;clear c5;obtain rfl:=Option.some.inj H;go_wp2;go_ret;exact⟨_,cH,(Kd.aG aK.1 aa),aq⟩

/-! ### impl_determinant: function 178 -/
mutual
def fU.l0:Nat→List (List Int)→List Int→List (List Int)→Int→Option (List Int)
 | 0,_,_,_,_=>none
 | k+1,x0,x3,x4,x5=>if x5≤(x0.length:Int) then ((fO.f k x0 x4).bind fun qi=>(fU.l1 k x0 x3 qi x5 (qi.length:Int) 0)) else ((jl.f k x3).bind fun FU=>(some FU))
def fU.l1:Nat→List (List Int)→List Int→List (List Int)→Int→Int→Int→Option (List Int)
 | 0,_,_,_,_,_,_=>none
 | k+1,x0,x3,x4,x5,U7,jy=>if jy<U7 then (if 0≤jy then (if jy<(x4.length:Int) then (if jy<((af x4 jy).length:Int) then (if 0≤(wrap64 (x5 - 1)) then (if (wrap64 (x5 - 1))<(x3.length:Int) then (fU.l1 k x0 x3 (x4.set (jy:Int).toNat ((af x4 jy).set (jy:Int).toNat (wrap64 ((rd (af x4 jy) jy)+(rd x3 (wrap64 (x5 - 1))))))) x5 U7 (wrap64 (jy+1))) else (none)) else (none)) else (none)) else (none)) else (none)) else ((fO.f k x0 x4).bind fun xJ=>((lD.f k xJ).bind fun xK=>(if x5=0 then (none) else (if x3.length<17592186044416 then (fU.l0 k x0 (x3++[wrap64 (Int.tdiv (wrap64 (-xK)) x5)]) x4 (wrap64 (x5+1))) else (none)))))
end
def fU.f (k:Nat) (l0:List (List Int)):Option (List Int):=(jw.f k (l0.length:Int)).bind fun Cn=>(fU.l0 k l0 (([1]:List Int)) Cn 1)
def fU.T9:Bool×List (List Nat×List Nat):=(true,[([],[]),([],[]),([0,1],[0,1]),([2],[2]),([],[]),([3,4],[3,4]),([5],[5]),([],[]),([],[]),([8],[8]),([7,9],[7,9]),([10],[10]),([6,11],[6,11]),([3,4,0,1,2,3,4,5,6,7,8,9,10,11,12],[3,4]),([13,12,0,1,2,3,4,5,6,7,8,9,10,11,12],[12,13])])
def fU.B9:List Nat:=[0,0,3,7,0,31,63,0,0,256,896,1920,4095,8191,16383]
theorem fU.SQ:gG .any (opsOf Try.f178 9)=fU.T9:=by kernel_rfl
theorem fU.SR:ko fU.T9.2 fU.B9=true:=by kernel_rfl
set_option maxHeartbeats 8000000 in
set_option maxRecDepth 100000 in
theorem fU.calls (k:Nat) (A0:Option Addr) (c0:Nat) (l0:List (List Int)) (r:List Int) (w:World) (hr0:Kd.C (Kd.slice 2 (Kd.int .i64)) w A0 l0.length l0) (hc0:l0.length≤c0) (h:fU.f k l0=some r):
  Calls Try.prog 178 #[.slice A0 l0.length c0] w fun e w'=>∃cP:Value,e= .returned (cP)∧Kd.R (Kd.int .i64) 2 w' w.heap.size (fun _=>True) cP r∧Below w.heap.size w w':=by
 have dG:=m_ hr0;have gi:=m_ hc0;clear hr0 hc0;have HB:=m_ (Below.refl w.heap.size w);have H:=h;unfold fU.f at H;clear h;obtain⟨V0,Vz⟩: ∃y_,ah (y_=([1]:List Int)):=⟨_,⟨rfl⟩⟩;rw[← Vz.1]at H;obtain⟨Cn,A2,H⟩:=bL H;have H':=m_ H;clear H;go_enter Try.func178,Try.ntmps178;go_wp2_with (first | ((with_reducible refine bG (N:=7) rfl ?_);refine Kd.eF (Kd.int .i64) _ 2 ?hg (N:=7) ?hd (xs:=([1]:List Int)) (inner:=[.int .i64 1]) (ok:=fun _=>True) (bQ:=fun _=>True) ?hr ?hp (fun _ hk=>hk) trivial (Below.refl _ _) (Nat.le_refl _) (by simp) ?_;(case hd=>rfl);(case hg=>rfl);(case hr=>first | (go_simp;done) | (go_simp;rfl));(case hp=>exact(aT.one (show Kd.M (Kd.int .i64) _ _ _ 1 [.int .i64 1] from rfl) (aT.none _ _)));intro V4 w3 kP hb bO bP;clear bO bP;rw[← Vz.1]at kP;have Vd:=m_ (Kd.cx kP (aE aq));replace HB:=m_ (aH aq hb);clear hb kP) | ((with_reducible refine bF (f:=221) rfl ?_);refine bI (some 10) Try.func221 #[.int .i64 (l0.length:Int)] ?_;(with_reducible refine(jw.calls k (l0.length:Int) Cn _ A2.1).mono ?_);rintro e w5 ⟨V7,rfl,az,hb⟩;refine⟨_,rfl, ?_⟩;have VV:=m_ (Kd.gj (Kd.kn az (Kd.cz (Kd.ax Vd.1 aa))) (aE aq));replace Vd:=m_ (Kd.ax (Kd.ax Vd.1 aa) hb);replace HB:=m_ (aH aq hb);clear hb;(try clear az)));go_loopg [3,4,5] k (fun kq v3 v4 v5 w'=>∃(bD:List Int) (bV:List (List Int)) (bN:Int),v5= .int .i64 bN∧ah (fU.l0 kq l0 bD bV bN=some r)∧ah (kq≤k)∧ah (Kd.R (Kd.int .i64) 2 w' w.heap.size (fun _=>True) v3 bD)∧ah (Kd.S (Kd.slice 2 (Kd.int .i64)) 29 w' w.heap.size (fun k_=>some k_≠(v3:Value).ownBlock) v4 bV)∧ah (Below w.heap.size w w'))
 case atStart=>exact⟨(V0),(Cn),(1),aJ,H',⟨Nat.le_refl _⟩,⟨Kd.ax Vd.1 aa⟩,⟨by(with_reducible repeat (first | apply Kd.dK | apply Kd.dL | apply Kd.cX));exact Kd.cu VV.1 (fun _ hk=>hk.2)⟩,⟨aq⟩⟩
 case round=>
  clear H';obtain⟨bD,bV,bN,rfl,HA,bp,aZ,bR,HB⟩:=hrel;cases gk with
  | zero=>exact absurd HA.1 (by simp[fU.l0])
  | succ k1=>
   have H:=HA.1;clear HA;simp only[fU.l0]at H
   by_cases c6:bN≤(l0.length:Int)
   ·rw[if_pos c6]at H
    have ij:=decide_eq_true c6;clear c6;obtain⟨qi,A7,H⟩:=bL H;have H':=m_ H;clear H;obtain⟨tf,tj,zR⟩:=Kd.eT bR.1;subst zR;go_wp2_with (first | ((with_reducible refine bF (f:=220) rfl ?_);refine bI (some 19) Try.func220 #[.slice A0 l0.length c0, .slice tf bV.length tj] ?_;(with_reducible refine(fO.calls k1 _ _ l0 _ _ bV qi _ ?aA ?aC ?eA ?eX A7.1).mono ?_);(case aA=>exact Kd.aN (Kd.aN dG.1 HB.1) aa);(case aC=>exact gi.1);(case eA=>exact Kd.aN (Kd.cG bR.1).2.2 aa);(case eX=>exact(Kd.cG bR.1).2.1);rintro e w9 ⟨We,rfl,az,hb⟩;refine⟨_,rfl, ?_⟩;have Vw:=m_ (Kd.gj (Kd.kn (Kd.kn az (Kd.cz (Kd.ax aZ.1 aa))) (Kd.iP (Kd.aG bR.1 aa))) (aE aq));replace aZ:=m_ (Kd.ax (Kd.ax aZ.1 aa) hb);replace bR:=m_ (Kd.dU (Kd.aG bR.1 aa) (Kd.lJ az) hb);replace HB:=m_ (aH aq hb);clear hb;(try clear az);obtain⟨xh,xj,E4⟩:=Kd.eT Vw.1;subst E4));go_loopg [22] k1 (fun kq FF w'=>∃(bW:List Int) (eK:List (List Int)) (U7:Int),FF= .int .i64 U7∧ah (fU.l1 kq l0 bW eK bN (qi.length:Int) U7=some r)∧ah (kq≤k1)∧ah (Kd.R (Kd.int .i64) 2 w' w.heap.size (fun _=>True) u3 bW)∧ah (Kd.S (Kd.slice 2 (Kd.int .i64)) 29 w' w.heap.size (fun k_=>some k_≠(u3:Value).ownBlock) (.slice xh qi.length xj) eK)∧ah (Below w.heap.size w w'))
    case atStart=>exact⟨(bD),(qi),(0),aJ,H',⟨Nat.le_refl _⟩,⟨Kd.ax aZ.1 aa⟩,⟨by(with_reducible repeat (first | apply Kd.dK | apply Kd.dL | apply Kd.cX));exact Kd.cu Vw.1 (fun _ hk=>hk.1.2)⟩,⟨aq⟩⟩
    case round=>
     clear H';obtain⟨bW,eK,U7,rfl,HA,bX,aZ,bR,HB⟩:=hrel;have U8:=(Kd.cG bR.1).1;rw[U8]at bR;(try simp only[U8]);(try simp only[U8]at aZ);cases gk with
     | zero=>exact absurd HA.1 (by simp[fU.l1])
     | succ k2=>
      have H:=HA.1;clear HA;simp only[fU.l1]at H
      by_cases c11:U7<(qi.length:Int)
      ·rw[if_pos c11]at H
       have jh:=decide_eq_true c11;(try (have Vj:=jh;simp only[U8]at Vj));clear c11;obtain⟨c12,H⟩:=aU H;have lO:=decide_eq_true c12;clear c12;obtain⟨c13,H⟩:=aU H;have kJ:=decide_eq_true c13;(try (have VP:=kJ;simp only[U8]at VP));clear c13;obtain⟨c14,H⟩:=aU H;have kW:=decide_eq_true c14;(try (have VY:=kW;simp only[U8]at VY));clear c14;obtain⟨fZ,kX⟩: ∃j_:Int,(wrap64 (bN - 1))=j_:=⟨_,rfl⟩;(try rw[kX]);replace H:(if 0≤(fZ) then (if (fZ)<(bW.length:Int) then (fU.l1 k2 l0 bW (eK.set (U7:Int).toNat ((af eK U7).set (U7:Int).toNat (wrap64 ((rd (af eK U7) U7)+(rd bW (fZ)))))) bN (qi.length:Int) (wrap64 (U7+1))) else (none)) else (none))=some r:=by first | (rw[kX]at H;exact H) | (simp only[kX]at H ⊢;exact H)
       have Ir:(IntKind.i64.wrap (bN - 1))=fZ:=(eE _).trans kX;obtain⟨c16,H⟩:=aU H;have oM:=decide_eq_true c16;clear c16;obtain⟨c17,H⟩:=aU H;have oN:=decide_eq_true c17;(try (have VL:=oN;simp only[U8]at VL));clear c17;obtain⟨Va,VJ,H⟩: ∃Va:List Int,ah (Va=((af eK U7).set (U7:Int).toNat (wrap64 ((rd (af eK U7) U7)+(rd bW (fZ))))))∧(fU.l1 k2 l0 bW (eK.set (U7:Int).toNat Va) bN (qi.length:Int) (wrap64 (U7+1)))=some r:=⟨_,⟨rfl⟩,H⟩;obtain⟨Vf,VM,H⟩: ∃Vf:List (List Int),ah (Vf=(eK.set (U7:Int).toNat Va))∧(fU.l1 k2 l0 bW Vf bN (qi.length:Int) (wrap64 (U7+1)))=some r:=⟨_,⟨rfl⟩,H⟩;have H':=m_ H;clear H
       try go_wp2
       replace aZ:=m_ (Kd.cK aZ.1);replace bR:=m_ (Kd.cX bR.1);replace HB:=m_ (gQ HB.1);have Vh:0≤(U7:Int):=ak;have Ve:U7<(eK.length:Int):=ak;obtain⟨VU,V1,VI,VO,Vc,Vy,VD⟩:=dV (Kd.cG bR.1).2.2 U7 Vh Ve;cases VO;obtain⟨V6,VF,VG,Vv⟩:=Kd.lg bR.1 [] U7 Vh (by first | exact Ve | exact ak | (have e_:=(Kd.cG bR.1).1;omega));obtain⟨Wa,rfl,Vk⟩:=VG;have Vb:=Vv 0 _ rfl;rw[Nat.add_zero,show((Kd.slice 2 (Kd.int .i64))).sz=1 from rfl,Nat.mul_one]at Vb;replace Vb:=Option.some.inj (Vb.symm.trans Vc);rw[Vb]at Vk;have Vg:=m_ (show Kd.R (Kd.int .i64) 2 _ _ _ _ (af eK U7) from Vk);clear Vb Vk;have VA:=m_ Vc;clear Vv VF;have Vu:=m_ VD;have V9:=m_ Vy;clear VD Vy;replace Vh:=eq_true Vh;replace Ve:=eq_true Ve;have Vr:0≤(U7:Int):=ak;have Vs:U7<((af eK U7).length:Int):=ak;obtain⟨Wf,VR,Vn⟩:=Kd.cD (by repeat (first | (with_reducible exact Vu.1) | (with_reducible refine Kd.fK ?_ _) | (with_reducible refine Kd.fL ?_ _) | (with_reducible refine Kd.fH ?_) | exact Vu.1)) U7 Vr Vs;cases VR;replace Vr:=eq_true Vr;replace Vs:=eq_true Vs;obtain⟨Fq,xp,vH⟩:=Kd.cJ aZ.1;subst vH;have Vm:0≤((fZ):Int):=ak;have Vl:(fZ)<(bW.length:Int):=ak;obtain⟨VW,VQ,VB⟩:=Kd.cD (Kd.cF aZ.1).2.2 (fZ) Vm Vl;cases VQ;replace Vm:=eq_true Vm;replace Vl:=eq_true Vl;have Vq:0≤(U7:Int):=ak;have Vp:(U7:Int)<(((af eK U7).length:Int):Int):=ak;obtain⟨Vt,Bd,sE,VC,VH,V5,Vx⟩:=Kd.nE Vg.1 (by omega);(first | cases sE | (injection sE with cC fC fD;(first | subst cC | (injection cC with cC;subst cC));subst fD;clear fC));have V8:=m_ VC;have VN:=m_ Vx;clear VC VH Vx;(first | simp only[add_plain]at Vn | skip);obtain⟨VZ,VX⟩:=Kd.lN 0 Vg.1 (U7:Int) Vq Vp;replace Vq:=eq_true Vq;replace Vp:=eq_true Vp;have zZ:(U7:Int)<(eK.length:Int):=(by have h_:(U7:Int)<((eK.length:Int):Int):=ak;first | exact h_ | (have e_:=(Kd.cG bR.1).1;omega) | simpa only[List.length_set,List.length_set] using h_);obtain⟨Kj,SN,FR,FT,z6,Cm,Aa⟩:=Kd.uZ bR.1 [] (U7:Int) (ak) (by first | exact zZ | (have e_:=(Kd.cG bR.1).1;have h_:=zZ;omega));obtain⟨SP,rfl,rW⟩:=FT;have rX:=z6 0 _ rfl;rw[Nat.add_zero,show((Kd.slice 2 (Kd.int .i64))).sz=1 from rfl,Nat.mul_one]at rX;replace rX:=Option.some.inj (rX.symm.trans VA.1);subst rX;clear z6 FR;replace rW:=(show Kd.R (Kd.int .i64) 2 _ _ _ _ (af eK U7) from rW);have pq:=Kd.p8 rW (U7:Int) (wrap64 ((rd (af eK U7) U7)+(rd bW (fZ))));rw[← VJ.1]at pq;have Vo:=Aa pq.2 (fun k_ e_=>by injection e_ with e_;subst e_;exact rW.1 _ rfl) (x':=Va) (Kd.gb pq.1);rw[← VM.1]at Vo;have VE:=m_ Vo;clear pq Vo Aa Cm;refine jr (n:=15) (S:=fun w'=>w'.cell? (VU.add (U7).toNat)=some (.slice (some ⟨Vt,0,none⟩) (af eK U7).length VI)∧w'.cell? ⟨Vt,(U7).toNat,none⟩=some (.int .i64 (rd (af eK U7) U7))∧w'.cell? (VW.add ((fZ)).toNat)=some (.int .i64 (rd bW (fZ)))) (ds:=[14]) #[false,false,false,false,false,false,false,false,false,false,false,false,false,false,false] (by kernel_rfl) rfl rfl ⟨Vc,Vn,VB⟩ (fun hHeld=> ?_);refine kr fU.SQ fU.SR (fun eD ku=> ?_);generalize wr.drew=D1 at aZ bR HB VN Vg VE Vu VA VX VZ Vc Vn VB hHeld ⊢;refine aQ 0 15 25 1 ?_;refine aQ 1 15 26 3 ?_;refine aQ 2 15 27 7 ?_;refine aQ 4 15 29 23 ?_;refine aQ 7 15 32 151 ?_;refine aQ 8 15 33 407 ?_;refine aQ 9 15 34 919 ?_;refine aQ 10 15 35 1943 ?_;refine dA 3 15 28 1951 hHeld ?_;refine aQ 5 15 30 1983 ?_;refine dA 6 15 31 2047 hHeld ?_;refine dA 11 15 36 4095 hHeld ?_;refine aQ 12 15 37 8191 ?_;refine aQ 13 15 38 16383 ?_;refine oo (i:=14) (N:=none) #[true,true,true,true,true,true,true,true,true,true,true,true,true,true,true] rfl rfl (nF eD.1 (by kernel_rfl)) (by decide) (fun K hK=> ?_);refine mT (w1:= ?_) (by rfl) rfl ?_ ?_
       rotate_left
       ·go_simp
        rfl
       refine hK.out _ _ ?_;clear hK K;refine js (kz eD.1 (by kernel_rfl)) ?_
       try go_wp2
       (try simp only[← U8])
       first | go_roundg k2 | ((try subst kX);go_roundg k2)
       case measure=>have:=bp.1;have:=bX.1;omega
       case rel=>exact⟨(bW),(Vf),(wrap64 (U7+1)),aJ,H',⟨by have:=bp.1;have:=bX.1;omega⟩,⟨by(try simp only[U8]);(with_reducible repeat (first | apply Kd.dB | apply Kd.dD | apply Kd.cK));exact Kd.bg (Kd.lM (p:=⟨Vt,(U7:Int).toNat,none⟩) (Kd.SS aZ.1 rfl ((Vg.1.1 _ rfl).1)) (fun _ hk=>hk.2) (.int .i64 (wrap64 ((rd (af eK U7) U7)+(rd bW (fZ)))))) (fun _ hk=>trivial)⟩,⟨by(try simp only[U8]);(with_reducible repeat (first | apply Kd.dK | apply Kd.dL | apply Kd.cX));exact VE.1⟩,⟨aj⟩⟩
      ·rw[if_neg c11]at H
       have jh:=decide_eq_false c11;(try (have Vj:=jh;simp only[U8]at Vj));clear c11;obtain⟨xJ,xd,H⟩:=bL H;obtain⟨xK,xe,H⟩:=bL H
       by_cases jV:bN=0
       ·rw[if_pos jV]at H
        exact absurd H (by simp)
       ·rw[if_neg jV]at H
        obtain⟨yQ,D6⟩:=dN jV;obtain⟨jI,H⟩:=aU H;have FI:=m_ jI;clear jI;obtain⟨Vi,VS,H⟩: ∃Vi:List Int,ah (Vi=(bW++[wrap64 (Int.tdiv (wrap64 (-xK)) bN)]))∧(fU.l0 k2 l0 Vi eK (wrap64 (bN+1)))=some r:=⟨_,⟨rfl⟩,H⟩;have H':=m_ H;clear H;go_wp2_with (first | ((with_reducible refine bF (f:=220) rfl ?_);refine bI (some 43) Try.func220 #[.slice A0 l0.length c0, .slice xh eK.length xj] ?_;(with_reducible refine(fO.calls k2 _ _ l0 _ _ eK xJ _ ?aA ?aC ?eA ?eX xd.1).mono ?_);(case aA=>exact Kd.aN (Kd.aN dG.1 HB.1) aa);(case aC=>exact gi.1);(case eA=>exact Kd.aN (Kd.cG bR.1).2.2 aa);(case eX=>exact(Kd.cG bR.1).2.1);rintro e nG ⟨Wc,rfl,az,hb⟩;refine⟨_,rfl, ?_⟩;have U9:=m_ (Kd.gj (Kd.kn (Kd.kn az (Kd.cz (Kd.ax aZ.1 aa))) (Kd.iP (Kd.aG bR.1 aa))) (aE aq));replace aZ:=m_ (Kd.ax (Kd.ax aZ.1 aa) hb);replace bR:=m_ (Kd.dU (Kd.aG bR.1 aa) (Kd.lJ az) hb);replace HB:=m_ (aH aq hb);clear hb;(try clear az);obtain⟨sI,mA,oP⟩:=Kd.eT U9.1;subst oP) | ((with_reducible refine bF (f:=219) rfl ?_);refine bI (some 44) Try.func219 #[.slice sI xJ.length mA] ?_;(with_reducible refine(lD.calls k2 _ _ xJ xK _ ?aA ?aC xe.1).mono ?_);(case aA=>exact Kd.aN (Kd.cG U9.1).2.2 aa);(case aC=>exact(Kd.cG U9.1).2.1);rintro e w' ⟨rfl,⟨nd,rfl⟩⟩;refine⟨_,rfl, ?_⟩) | ((with_reducible refine fG (b:= .append) (xs:= #[.tmp 40, .tmp 48]) rfl ?_);at_builtin;refine Kd.lP (Kd.int .i64) (w0:=w) w.heap.size rfl (.tmp 40) (.tmp 48) 29 2 (.int .i64 0) 8 rfl Try.underlying29 jf rfl (by decide) (by omega) u3 bW (wrap64 (Int.tdiv (wrap64 (-xK)) bN)) [.int .i64 (wrap64 (Int.tdiv (wrap64 (-xK)) bN))] (fun _=>True) (fun _=>False) rfl rfl ?aP (fun _ hk=>hk.elim) ?aF ?aO ?aB ?aS ?aL ?_;(case aP=>exact rfl);(case aB=>exact aq);(case aF=>exact(fun _ _=>trivial));(case aO=>exact(Kd.ax aZ.1 aa));(case aS=>exact(aE aq));(case aL=>have:=FI.1;omega);intro V3 BN ho hb hg hat;rw[← VS.1]at ho;replace bR:=m_ (Kd.jW (ok:=(fun k_=>some k_≠(.slice sI xJ.length mA:Value).ownBlock)) (Kd.aG (Kd.cu bR.1 (fun _ hk=>⟨hk.2,hk.1⟩)) aa) hg hat);replace U9:=m_ (Kd.jW (ok:=(fun k_=>some k_≠(.slice xh eK.length xj:Value).ownBlock)) (Kd.aG (Kd.cu U9.1 (fun _ hk=>⟨hk.2,hk.1.2⟩)) aa) hg hat);replace HB:=m_ (hb);have VK:=m_ (ho);clear aZ;clear ho hb hg hat));(try simp only[← U8]);go_roundg k2
        case measure=>have:=bp.1;have:=bX.1;omega
        case rel=>exact⟨(Vi),(eK),(wrap64 (bN+1)),aJ,H',⟨by have:=bp.1;have:=bX.1;omega⟩,⟨by(try simp only[U8]);(with_reducible repeat (first | apply Kd.dB | apply Kd.dD | apply Kd.cK));exact VK.1⟩,⟨by(try simp only[U8]);(with_reducible repeat (first | apply Kd.dK | apply Kd.dL | apply Kd.cX));exact Kd.cu bR.1 (fun _ hk=>hk.2)⟩,⟨aq⟩⟩
   ·rw[if_neg c6]at H
    have ij:=decide_eq_false c6;clear c6;obtain⟨FU,Ef,H⟩:=bL H;obtain rfl:=Option.some.inj H;obtain⟨xg,vF,vG⟩:=Kd.cJ aZ.1;subst vG;go_wp2_with (first | ((with_reducible refine bF (f:=170) rfl ?_);refine bI (some 51) Try.func170 #[.slice xg bD.length vF] ?_;(with_reducible refine(jl.calls k1 (fun k_=>some k_=(.slice xg bD.length vF:Value).ownBlock) _ _ bD FU _ ?aA Ef.1).mono ?_);(case aA=>exact Kd.nD (Kd.fI rfl (Kd.cM (aZ.1) (Kd.cI bR.1) (by decide))));rintro e qF ⟨V2,rfl,az,hb⟩;refine⟨_,rfl, ?_⟩;replace bR:=m_ (Kd.dU (Kd.aG bR.1 aa) (Kd.bu az) hb);have VT:=m_ (Kd.cx (Kd.cT (Kd.bg (ok':=fun k_=>True) az (fun _ cn=>trivial)) (Kd.cz (Kd.ax aZ.1 aa))) (aE aq));replace aZ:=m_ (Kd.cL (Kd.ax aZ.1 aa) (Kd.bu az) hb);replace HB:=m_ (aH aq hb);clear hb;(try clear az)));go_ret;exact⟨_,cH,by(with_reducible repeat (first | apply Kd.dB | apply Kd.dD | apply Kd.cK));exact Kd.bg VT.1 (fun _ hk=>trivial),aq⟩

/-! ### impl_Graph_reciprocal: function 139 -/
def nY.f (k:Nat) (au:Int) (ag:List (List Int)):Option (List Int):=(gW.f k au ag).bind fun Ab=>((fU.f k Ab).bind fun FV=>(some FV))
set_option maxHeartbeats 8000000 in
set_option maxRecDepth 100000 in
theorem nY.calls (k:Nat) (au:Int) (bn:Option Addr) (bk:Nat) (ag:List (List Int)) (r:List Int) (w:World) (cZ:Kd.C (Kd.slice 2 (Kd.int .i64)) w bn ag.length ag) (dh:ag.length≤bk) (h:nY.f k au ag=some r):
  Calls Try.prog 139 #[.agg #[.int .i64 au, .slice bn ag.length bk]] w fun e w'=>∃cP:Value,e= .returned (cP)∧Kd.R (Kd.int .i64) 2 w' w.heap.size (fun _=>True) cP r∧Below w.heap.size w w':=by
 have gX:=Try.underlying26;have cE:=m_ cZ;have dw:=m_ dh;clear cZ dh;have HB:=m_ (Below.refl w.heap.size w);have H:=h;unfold nY.f at H;clear h;obtain⟨Ab,A2,H⟩:=bL H;obtain⟨FV,A3,H⟩:=bL H;obtain rfl:=Option.some.inj H;go_enter Try.func139,Try.ntmps139;go_wp2_with (first | ((with_reducible refine bG (N:=1) rfl ?_);refine cO (N:=1) (cs:= #[.int .i64 au, .slice bn ag.length bk]) (t:=26) ?_;intro U9 hg w4 aM hb;have U7:=m_ (aM);have Vd:=m_ ((by rw[hg];exact(aE aq):w.heap.size≤U9));have Vb:=m_ ((by rw[hg];exact(aE aq):w.heap.size≤U9));replace HB:=m_ (aH aq hb);clear hb aM hg;have BU:=aY U7.1;have BV:=aV U7.1;have BW:=ay U7.1 0;have BX:=ay U7.1 1) | ((with_reducible refine bF (f:=128) rfl ?_);refine bI (some 4) Try.func128 #[.agg #[.int .i64 au, .slice bn ag.length bk]] ?_;(with_reducible refine(gW.calls k au _ _ ag Ab _ ?aA ?aC A2.1).mono ?_);(case aA=>exact Kd.aN (Kd.aN cE.1 HB.1) aa);(case aC=>exact dw.1);rintro e w6 ⟨Vc,rfl,az,hb⟩;refine⟨_,rfl, ?_⟩;have U8:=m_ (Kd.gj az (aE aj));replace U7:=m_ (aI U7.1 hb);replace HB:=m_ (aH aj hb);clear hb;(try clear az);obtain⟨Fm,nQ,wU⟩:=Kd.eT U8.1;subst wU) | ((with_reducible refine bF (f:=178) rfl ?_);refine bI (some 5) Try.func178 #[.slice Fm Ab.length nQ] ?_;(with_reducible refine(fU.calls k _ _ Ab FV _ ?aA ?aC A3.1).mono ?_);(case aA=>exact Kd.aN (Kd.cG U8.1).2.2 aa);(case aC=>exact(Kd.cG U8.1).2.1);rintro e w8 ⟨Ve,rfl,az,hb⟩;refine⟨_,rfl, ?_⟩;replace U8:=m_ (Kd.dU (Kd.aG U8.1 aa) (Kd.bu az) hb);have Va:=m_ (Kd.cx az (aE aj));replace U7:=m_ (aI U7.1 hb);replace HB:=m_ (aH aj hb);clear hb;(try clear az)));go_ret;exact⟨_,cH,(Kd.ax Va.1 aa),aj⟩

/-! ### impl_ReciprocalOf: function 89 -/
def pJ.f (k:Nat) (au:Int) (ag:List (List Int)):Option (List Int×Int):=(iA.f k au ag).bind fun FW=>(if FW=true then ((nY.f k au ag).bind fun FX=>(some (FX,0))) else (some (([]:List Int),1)))
set_option maxHeartbeats 8000000 in
set_option maxRecDepth 100000 in
theorem pJ.calls (k:Nat) (au:Int) (bn:Option Addr) (bk:Nat) (ag:List (List Int)) (r1:List Int) (r2:Int) (w:World) (cZ:Kd.C (Kd.slice 2 (Kd.int .i64)) w bn ag.length ag) (dh:ag.length≤bk) (h:pJ.f k au ag=some (r1,r2)):
  Calls Try.prog 89 #[.agg #[.int .i64 au, .slice bn ag.length bk]] w fun e w'=>∃cP:Value,e= .returned (.tuple #[cP, .int .i64 r2])∧Kd.R (Kd.int .i64) 2 w' w.heap.size (fun _=>True) cP r1∧Below w.heap.size w w':=by
 have gX:=Try.underlying26;have cE:=m_ cZ;have dw:=m_ dh;clear cZ dh;have HB:=m_ (Below.refl w.heap.size w);have H:=h;unfold pJ.f at H;clear h;obtain⟨FW,A2,H⟩:=bL H
 by_cases c3:FW=true
 ·subst c3
  rw[if_pos rfl]at H;obtain⟨FX,A4,H⟩:=bL H;simp only[Option.some.injEq,Prod.mk.injEq]at H;obtain⟨rfl,rfl⟩:=H;go_enter Try.func89,Try.ntmps89;go_wp2_with (first | ((with_reducible refine bG (N:=1) rfl ?_);refine cO (N:=1) (cs:= #[.int .i64 au, .slice bn ag.length bk]) (t:=26) ?_;intro U8 hg w5 aM hb;have U7:=m_ (aM);have Vb:=m_ ((by rw[hg];exact(aE aq):w.heap.size≤U8));have Va:=m_ ((by rw[hg];exact(aE aq):w.heap.size≤U8));replace HB:=m_ (aH aq hb);clear hb aM hg;have oQ:=aY U7.1;have oR:=aV U7.1;have oS:=ay U7.1 0;have oT:=ay U7.1 1) | ((with_reducible refine bF (f:=136) rfl ?_);refine bI (some 5) Try.func136 #[.agg #[.int .i64 au, .slice bn ag.length bk]] ?_;(with_reducible refine(iA.calls k au _ _ ag true _ ?aA ?aC A2.1).mono ?_);(case aA=>exact Kd.aN (Kd.aN cE.1 HB.1) aa);(case aC=>exact dw.1);rintro e w7 ⟨rfl,hb⟩;refine⟨_,rfl, ?_⟩;replace U7:=m_ (aI U7.1 hb);replace HB:=m_ (aH aj hb);clear hb;have q6:=aY U7.1;have q8:=aV U7.1;have q9:=ay U7.1 0;have rf:=ay U7.1 1) | ((with_reducible refine bF (f:=139) rfl ?_);refine bI (some 8) Try.func139 #[.agg #[.int .i64 au, .slice bn ag.length bk]] ?_;(with_reducible refine(nY.calls k au _ _ ag FX _ ?aA ?aC A4.1).mono ?_);(case aA=>exact Kd.aN (Kd.aN cE.1 HB.1) aa);(case aC=>exact dw.1);rintro e w9 ⟨Vc,rfl,az,hb⟩;refine⟨_,rfl, ?_⟩;have U9:=m_ (Kd.cx az (aE aj));replace U7:=m_ (aI U7.1 hb);replace HB:=m_ (aH aj hb);clear hb;(try clear az)))
  go_ret2
  exact⟨_,cH,(Kd.ax U9.1 aa),aj⟩
 ·replace c3:=Bool.eq_false_iff.mpr c3
  subst c3;rw[if_neg (show ¬(false=true) by decide)]at H;simp only[Option.some.injEq,Prod.mk.injEq]at H;obtain⟨rfl,rfl⟩:=H;go_enter Try.func89,Try.ntmps89;go_wp2_with (first | ((with_reducible refine bG (N:=1) rfl ?_);refine cO (N:=1) (cs:= #[.int .i64 au, .slice bn ag.length bk]) (t:=26) ?_;intro U8 hg jJ aM hb;have U7:=m_ (aM);have Vb:=m_ ((by rw[hg];exact(aE aq):w.heap.size≤U8));have Va:=m_ ((by rw[hg];exact(aE aq):w.heap.size≤U8));replace HB:=m_ (aH aq hb);clear hb aM hg;have sJ:=aY U7.1;have sK:=aV U7.1;have sL:=ay U7.1 0;have sM:=ay U7.1 1) | ((with_reducible refine bF (f:=136) rfl ?_);refine bI (some 5) Try.func136 #[.agg #[.int .i64 au, .slice bn ag.length bk]] ?_;(with_reducible refine(iA.calls k au _ _ ag false _ ?aA ?aC A2.1).mono ?_);(case aA=>exact Kd.aN (Kd.aN cE.1 HB.1) aa);(case aC=>exact dw.1);rintro e nB ⟨rfl,hb⟩;refine⟨_,rfl, ?_⟩;replace U7:=m_ (aI U7.1 hb);replace HB:=m_ (aH aj hb);clear hb))
  go_ret2
  exact⟨_,cH,by first | exact Kd.kK _ _ _ _ _ | exact Kd.nH _ _ _ _ _ | exact Kd.nI _ _ _ _ _ | exact Kd.nJ _ _ _ _ _ | exact Kd.nK _ _ _ _ _,aj⟩

def ai (w0 W:World) (g:Nat) (f0:List Int) (f1:Int) (f2:Int):Prop:=∃A0 c0,W.heap[g]? =some (.cells #[.slice A0 f0.length c0, .int .i64 f1, .int .u64 f2] 131 (0,0))∧w0.heap.size≤g∧Kd.C (Kd.int .u8) w0 A0 f0.length f0
theorem ai.grown {w0 W:World} {g:Nat} {f0:List Int} {f1:Int} {f2:Int} {W1:World} {row:Option Nat} (h:ai w0 W g f0 f1 f2) (hw:W.grownBy W1 row) (hne:some g≠row):ai w0 W1 g f0 f1 f2:=by
 obtain⟨A0,c0,hb,hg,hr0⟩:=h;exact⟨A0,c0,dF hb hw hne,hg,hr0⟩
theorem ai.fresh {w0 W:World} {g:Nat} {f0:List Int} {f1:Int} {f2:Int} (h:ai w0 W g f0 f1 f2): ∀k,W.heap.size≤k→k≠g:=by
 obtain⟨A0,c0,hb,hg,hr0⟩:=h;exact Kd.pQ hb
theorem ai.below {w0 W:World} {g:Nat} {f0:List Int} {f1:Int} {f2:Int} {W1:World} (h:ai w0 W g f0 f1 f2) (hw:Below W.heap.size W W1):ai w0 W1 g f0 f1 f2:=h.grown (Kk hw none) (by simp)
theorem ai.alloc {w0 W:World} {g:Nat} {f0:List Int} {f1:Int} {f2:Int} (h:ai w0 W g f0 f1 f2) (o:Obj):ai w0 (W.alloc o) g f0 f1 f2:=h.below (kB (Below.refl _ _) o)
theorem ai.drewN {w0 W:World} {g:Nat} {f0:List Int} {f1:Int} {f2:Int} (h:ai w0 W g f0 f1 f2) (m:Nat):ai w0 (W.drewN m) g f0 f1 f2:=h
theorem ai.drew {w0 W:World} {g:Nat} {f0:List Int} {f1:Int} {f2:Int} (h:ai w0 W g f0 f1 f2):ai w0 W.drew g f0 f1 f2:=h
theorem ai.apart {w0 W:World} {g:Nat} {f0:List Int} {f1:Int} {f2:Int} {α:Type} {d:Kd α} {e:Nat} {base:Nat} {ok:Nat→Prop} {v:Value} {xs:List α} (h:ai w0 W g f0 f1 f2) (ho:d.R e W base ok v xs) (ht: ∀q,q∈e :: d.E→q≠131):d.R e W base (fun k=>ok k∧k≠g) v xs:=by
 obtain⟨A0,c0,hb,hg,hr0⟩:=h;exact Kd.gP ho hb ht
theorem ai.sX {w0 W:World} {g:Nat} {f0:List Int} {f1:Int} {f2:Int} {α:Type} {d:Kd α} {e:Nat} {base:Nat} {ok:Nat→Prop} {v:Value} {xs:List α} (h:ai w0 W g f0 f1 f2) (ho:d.R e W base ok v xs) (ht:e≠131):some g≠v.ownBlock:=by
 obtain⟨A0,c0,hb,hg,hr0⟩:=h;exact Kd.kO ho hb ht
theorem ai.lV {w0 W:World} {g:Nat} {f0:List Int} {f1:Int} {f2:Int} {α:Type} {d:Kd α} {e:Nat} {base:Nat} {ok:Nat→Prop} {v:Value} {xs:List α} (h:ai w0 W g f0 f1 f2) (ho:d.S e W base ok v xs) (ht: ∀q,q∈e :: d.E→q≠131):d.S e W base (fun k=>ok k∧k≠g) v xs:=by
 obtain⟨A0,c0,hb,hg,hr0⟩:=h;exact Kd.gq ho hb ht
theorem ai.vI {w0 W:World} {g:Nat} {f0:List Int} {f1:Int} {f2:Int} {α:Type} {d:Kd α} {e:Nat} {base:Nat} {ok:Nat→Prop} {v:Value} {xs:List α} (h:ai w0 W g f0 f1 f2) (ho:d.S e W base ok v xs) (ht:e≠131):some g≠v.ownBlock:=by
 obtain⟨A0,c0,hb,hg,hr0⟩:=h;exact Kd.dW ho hb ht
theorem ai.lt {w0 W:World} {g:Nat} {f0:List Int} {f1:Int} {f2:Int} (h:ai w0 W g f0 f1 f2):g<W.heap.size:=by
 obtain⟨A0,c0,hb,hg,hr0⟩:=h;exact gF hb
theorem ai.ge {w0 W:World} {g:Nat} {f0:List Int} {f1:Int} {f2:Int} (h:ai w0 W g f0 f1 f2):w0.heap.size≤g:=by
 obtain⟨A0,c0,hb,hg,hr0⟩:=h;exact hg
theorem ai.wQ {w0 W:World} {g:Nat} {f0:List Int} {f1:Int} {f2:Int} {a:Nat} {cs:Array Value} {t:TypeId} {fr:Nat×Nat} (h:ai w0 W g f0 f1 f2) (hb2:W.heap[a]? =some (.cells cs t fr)) (ht:t≠131):g≠a:=by
 obtain⟨A0,c0,hb,hg,hr0⟩:=h;rintro rfl;rw[hb]at hb2
 injection hb2 with hb2
 injection hb2 with _ U7
 exact ht U7.symm
theorem ai.far {w0 W:World} {g:Nat} {f0:List Int} {f1:Int} {f2:Int} {p:Addr} (h:ai w0 W g f0 f1 f2) (hne:g≠p.block) (u:Value):ai w0 (W.setCell p u) g f0 f1 f2:=by
 obtain⟨A0,c0,hb,hg,hr0⟩:=h;exact⟨A0,c0,jq hb hne u,hg,hr0⟩
theorem Km {W:World} {g:Nat} {A0:Option Addr} {c0:Nat} {f0:List Int} {f1:Int} {f2:Int} (h:W.heap[g]? =some (.cells #[.slice A0 f0.length c0, .int .i64 f1, .int .u64 f2] 131 (0,0))):W.cell? ⟨g,0,none⟩=some (.slice A0 f0.length c0):=(nj h 0).trans rfl
theorem Kn {W:World} {g:Nat} {A0:Option Addr} {c0:Nat} {f0:List Int} {f1:Int} {f2:Int} (h:W.heap[g]? =some (.cells #[.slice A0 f0.length c0, .int .i64 f1, .int .u64 f2] 131 (0,0))):W.cell? ⟨g,1,none⟩=some (.int .i64 f1):=(nj h 1).trans rfl
theorem ai.Ko {w0 W:World} {g:Nat} {f0:List Int} {f1:Int} {f2:Int} (h:ai w0 W g f0 f1 f2) (x:Int):ai w0 (W.setCell ⟨g,1,none⟩ (.int .i64 x)) g f0 x f2:=by
 obtain⟨A0,c0,hb,hg,hr0⟩:=h;exact⟨A0,c0,by simpa using CA hb 1 (.int .i64 x),hg,hr0⟩
theorem Kp {W:World} {g:Nat} {A0:Option Addr} {c0:Nat} {f0:List Int} {f1:Int} {f2:Int} (h:W.heap[g]? =some (.cells #[.slice A0 f0.length c0, .int .i64 f1, .int .u64 f2] 131 (0,0))):W.cell? ⟨g,2,none⟩=some (.int .u64 f2):=(nj h 2).trans rfl
theorem ai.Kq {w0 W:World} {g:Nat} {f0:List Int} {f1:Int} {f2:Int} (h:ai w0 W g f0 f1 f2) (x:Int):ai w0 (W.setCell ⟨g,2,none⟩ (.int .u64 x)) g f0 f1 x:=by
 obtain⟨A0,c0,hb,hg,hr0⟩:=h;exact⟨A0,c0,by simpa using CA hb 2 (.int .u64 x),hg,hr0⟩
theorem ai.ju {w0 W:World} {g:Nat} {f0:List Int} {f1:Int} {f2:Int} (q:ai w0 W g f0 f1 f2:=by repeat (first | (with_reducible first | exact ah.out (by assumption) | apply ai.alloc | apply ai.drewN | apply ai.drew | apply ai.Ko | apply ai.Kq) | exact ah.out (by assumption))):ai w0 W g f0 f1 f2:=q
theorem ai.aq {b:Nat} {w W:World} (q:Below b w W:=by repeat (first | (with_reducible first | exact HB.1 | apply kB | apply m7 | apply gQ | refine kC ?_ (ai.ge (ah.out (by assumption)))) | exact HB.1)):Below b w W:=q
theorem ai.SU {w0 W:World} {g:Nat} {f0:List Int} {f1:Int} {f2:Int} {p:Addr} (vN:ai w0 W g f0 f1 f2) (U7:g≠p.block) (tB:Value):ai w0 (W.setCell p tB) g f0 f1 f2:=ai.far vN U7 tB
theorem ai.bY {w0 W:World} {g:Nat} {f0:List Int} {f1:Int} {f2:Int} (q:ai w0 W g f0 f1 f2:=by repeat (first | (with_reducible first | exact ah.out (by assumption) | apply ai.alloc | apply ai.drewN | apply ai.drew | apply ai.Ko | apply ai.Kq | apply ai.SU) | exact ah.out (by assumption))):ai w0 W g f0 f1 f2:=q
theorem ai.hs_ {b:Nat} {w W:World} (q:Below b w W:=by repeat (first | (with_reducible first | exact HB.1 | apply kB | apply m7 | apply gQ | exact ai.ge (ah.out (by assumption)) | exact ah.out (by assumption) | apply SV) | exact HB.1)):Below b w W:=q
/-! ### spec_l01From: function 102 -/
def jj.l0:Nat→List Int→Int→List Int→Int→Int→Option (List Int×Int×Int)
 | 0,_,_,_,_,_=>none
 | k+1,x0,x4,U8,U9,U7=>if x4<(x0.length:Int) then (if x4<4096 then (if 0≤x4 then (jj.l0 k x0 (wrap64 (x4+1)) U8 U9 (IntKind.u64.wrap ((IntKind.u64.wrap ((IntKind.u64.wrap (U7*1099511628211))+(IntKind.u64.wrap (rd x0 x4))))+109))) else (none)) else (some (U8,U9,U7))) else (some (U8,U9,U7))
def jj.f (k:Nat) (l0:List Int):Option (List Int×Int×Int):=jj.l0 k l0 0 l0 0 (IntKind.u64.wrap (12981+(IntKind.u64.wrap ((l0.length:Int)))))
def jj.T5:Bool×List (List Nat×List Nat):=(true,[([],[]),([],[]),([1],[1]),([2],[2]),([3],[3]),([4],[4]),([],[]),([],[]),([6,7],[6,7]),([8],[8]),([9],[9]),([5,10],[5,10]),([11],[11]),([0,0,1,2,3,4,5,6,7,8,9,10,11,12],[0]),([13,0,1,2,3,4,5,6,7,8,9,10,11,12],[13]),([14,12,0,1,2,3,4,5,6,7,8,9,10,11,12],[12,14])])
def jj.B5:List Nat:=[0,0,2,6,14,30,0,0,192,448,960,2046,4094,8191,16383,32767]
theorem jj.zI:gG .any (opsOf Try.f102 5)=jj.T5:=by kernel_rfl
theorem jj.zJ:ko jj.T5.2 jj.B5=true:=by kernel_rfl
set_option maxHeartbeats 8000000 in
set_option maxRecDepth 100000 in
theorem jj.calls (k:Nat) (A0:Option Addr) (c0:Nat) (l0:List Int) (r1:List Int) (r2:Int) (r3:Int) (w0 w:World) (hB:Below w0.heap.size w0 w) (hr0:Kd.C (Kd.int .u8) w0 A0 l0.length l0) (hc0:l0.length≤c0) (h:jj.f k l0=some (r1,r2,r3)):
  Calls Try.prog 102 #[.slice A0 l0.length c0] w fun e w'=>∃g_:Nat,e= .returned (.pointer (some ⟨g_,0,none⟩))∧ai w0 w' g_ r1 r2 r3∧Below w0.heap.size w0 w'∧Below w.heap.size w w':=by
 have Vi:=Try.underlying131;have dG:=m_ hr0;have gi:=m_ hc0;clear hr0 hc0;have tC:=m_ (Below.refl w.heap.size w);have jt:=m_ hB.size;have HB:=m_ hB;clear hB;have H:=h;unfold jj.f at H;clear h;have H':=m_ H;clear H;go_enter Try.func102,Try.ntmps102;go_wp2_with (first | ((with_reducible refine bG (N:=11) rfl ?_);refine cO (N:=11) (cs:= #[.slice A0 l0.length c0, .int .i64 0, .int .u64 (IntKind.u64.wrap (12981+(IntKind.u64.wrap ((l0.length:Int)))))]) (t:=131) ?_;intro U9 hg w2 aM hb;replace HB:=m_ (aH aq hb);have U7:=m_ (aM);have Vg:=m_ ((by rw[hg];exact(aE Ac):w.heap.size≤U9));have Vf:=m_ (Nat.le_trans jt.1 Vg.1);replace tC:=m_ (aH tC.1 hb);clear hb aM hg));go_loopg [4] k (fun kq v4 w'=>∃(bV:Int) (U8:Int),v4= .int .i64 bV∧ah (jj.l0 kq l0 bV l0 0 U8=some (r1,r2,r3))∧ah (kq≤k)∧ah (w'.heap[U9]? =some (.cells #[(.slice A0 l0.length c0), .int .i64 0, .int .u64 U8] 131 (0,0)))∧ah (Below w0.heap.size w0 w')∧ah (Below w.heap.size w w'))
 case atStart=>exact⟨(0),(IntKind.u64.wrap (12981+(IntKind.u64.wrap ((l0.length:Int))))),aJ,H',⟨Nat.le_refl _⟩,⟨aD U7.1 aa⟩,⟨aj⟩,⟨Ac⟩⟩
 case round=>
  clear H';obtain⟨bV,U8,rfl,HA,bp,U7,HB,tC⟩:=hrel;cases gk with
  | zero=>exact absurd HA.1 (by simp[jj.l0])
  | succ k1=>
   have H:=HA.1;clear HA;simp only[jj.l0]at H
   by_cases c3:bV<(l0.length:Int)
   ·rw[if_pos c3]at H
    have ig:=decide_eq_true c3;clear c3
    by_cases c4:bV<4096
    ·rw[if_pos c4]at H
     have eU:=decide_eq_true c4;clear c4;obtain⟨c5,H⟩:=aU H;have gR:=decide_eq_true c5;clear c5;have H':=m_ H;clear H
     try go_wp2
     replace U7:=m_ (bw U7.1);replace HB:=m_ (gQ HB.1);have Vb:0≤(bV:Int):=ak;have Vc:bV<(l0.length:Int):=ak;obtain⟨Vd,Vh,Va⟩:=Kd.cD dG.1 bV Vb Vc;have Ve:=Va;cases Vh;replace Va:=kN HB.1 Va;replace Vb:=eq_true Vb;replace Vc:=eq_true Vc;refine jr (n:=16) (S:=fun w'=>w'.cell? ⟨U9,0,none⟩=some (.slice (some Vd) l0.length c0)∧w'.cell? ⟨U9,1,none⟩=some (.int .i64 0)∧w'.cell? ⟨U9,2,none⟩=some (.int .u64 U8)∧w'.cell? (Vd.add (bV).toNat)=some (.int .u8 (rd l0 bV))) (ds:=[15]) #[false,false,false,false,false,false,false,false,false,false,false,false,false,false,false,false] (by kernel_rfl) rfl rfl ⟨aY U7.1,aV U7.1,Kr U7.1,((HB.1.cell (World.block_lt_of_cell? _ _ Ve)).trans Ve)⟩ (fun hHeld=> ?_);refine kr jj.zI jj.zJ (fun eD ku=> ?_);replace tC:=m_ (xL tC.1);generalize wr.drew=w6 at U7 HB tC Va hHeld ⊢;refine aQ 0 16 22 1 ?_;refine aQ 1 16 23 3 ?_;refine aQ 2 16 24 7 ?_;refine aQ 3 16 25 15 ?_;refine aQ 6 16 28 79 ?_;refine aQ 7 16 29 207 ?_;refine aQ 8 16 30 463 ?_;refine dA 4 16 26 479 hHeld ?_;refine aQ 5 16 27 511 ?_;refine dA 9 16 31 1023 hHeld ?_;refine aQ 10 16 32 2047 ?_;refine aQ 11 16 33 4095 ?_;refine aQ 12 16 34 8191 ?_;refine aQ 13 16 35 16383 ?_;refine aQ 14 16 36 32767 ?_;refine oo (i:=15) (N:=none) #[true,true,true,true,true,true,true,true,true,true,true,true,true,true,true,true] rfl rfl (nF eD.1 (by kernel_rfl)) (by decide) (fun K hK=> ?_);have hs7:w6.cell? ⟨U9,2,none⟩=some (.int .u64 U8):=Kr U7.1;have Vj:=ay U7.1 2;refine mT (w1:= ?_) (by rfl) rfl ?_ ?_
     rotate_left
     ·go_simp
      rfl
     refine hK.out _ _ ?_;clear hK K;refine js (kz eD.1 (by kernel_rfl)) ?_
     try go_wp2
     go_roundg k1
     case measure=>have:=bp.1;omega
     case rel=>exact⟨(wrap64 (bV+1)),(IntKind.u64.wrap ((IntKind.u64.wrap ((IntKind.u64.wrap (U8*1099511628211))+(IntKind.u64.wrap (rd l0 bV))))+109)),aJ,H',⟨by have:=bp.1;omega⟩,⟨by(with_reducible repeat (first | refine bM ?_ _ | refine bw ?_ | refine bH ?_ _));refine cW (cs:= #[.slice (some Vd) l0.length c0, .int .i64 0, .int .u64 U8]) ?_ 2 _ rfl;(with_reducible repeat (first | refine bM ?_ _ | refine bw ?_ | refine bH ?_ _));exact U7.1⟩,⟨aj⟩,⟨Ac⟩⟩
    ·rw[if_neg c4]at H
     have eU:=decide_eq_false c4;clear c4;simp only[Option.some.injEq,Prod.mk.injEq]at H;obtain⟨rfl,rfl,rfl⟩:=H;go_wp2;go_ret;exact⟨_,rfl,(show ai w0 _ U9 l0 0 U8 from⟨_,_,(aD U7.1 aa),Vf.1,dG.1⟩),aj,Ac⟩
   ·rw[if_neg c3]at H
    have ig:=decide_eq_false c3;clear c3;simp only[Option.some.injEq,Prod.mk.injEq]at H;obtain⟨rfl,rfl,rfl⟩:=H;go_wp2;go_ret;exact⟨_,rfl,(show ai w0 _ U9 l0 0 U8 from⟨_,_,(aD U7.1 aa),Vf.1,dG.1⟩),aj,Ac⟩

/-! ### spec_l01Next: function 171 -/
def fo.f (bS:List Int) (dM:Int) (dP:Int) (a1:Int):Option (Int×Int×Int):=if a1<1 then (some (0,dM,dP)) else (if dM<(bS.length:Int) then (if 0≤dM then (if a1=0 then (none) else (some (Int.tmod (wrap64 ((wrap64 (Go.bits .and .u64 ((IntKind.u64.wrap ((IntKind.u64.wrap (dP*6364136223846793005))+1442695040888963407)) / 2147483648) 1073741823))+(wrap64 (rd bS dM)))) a1,wrap64 (dM+1),IntKind.u64.wrap ((IntKind.u64.wrap (dP*6364136223846793005))+1442695040888963407)))) else (none)) else (if a1=0 then (none) else (some (Int.tmod (wrap64 (Go.bits .and .u64 ((IntKind.u64.wrap ((IntKind.u64.wrap (dP*6364136223846793005))+1442695040888963407)) / 2147483648) 1073741823)) a1,dM,IntKind.u64.wrap ((IntKind.u64.wrap (dP*6364136223846793005))+1442695040888963407)))))
set_option maxHeartbeats 8000000 in
set_option maxRecDepth 100000 in
theorem fo.calls (g:Nat) (bS:List Int) (dM:Int) (dP:Int) (a1:Int) (r1:Int) (r2:Int) (r3:Int) (w0 w:World) (hI:ai w0 w g bS dM dP) (hB:Below w0.heap.size w0 w) (h:fo.f bS dM dP a1=some (r1,r2,r3)):
  Calls Try.prog 171 #[.pointer (some ⟨g,0,none⟩), .int .i64 a1] w fun e w'=>e= .returned (.int .i64 r1)∧ai w0 w' g bS r2 r3∧Below w0.heap.size w0 w'∧aW w w' g none:=by
 have cB:=m_ hI;have HK:=m_ (aW.refl w g none);have HL:=m_ hB.size;clear hI;have jt:=m_ hB.size;have HB:=m_ hB;clear hB;have H:=h;unfold fo.f at H;clear h
 by_cases c3:a1<1
 ·rw[if_pos c3]at H
  have ig:=decide_eq_true c3;clear c3;simp only[Option.some.injEq,Prod.mk.injEq]at H;obtain⟨rfl,rfl,rfl⟩:=H;go_enter Try.func171,Try.ntmps171;go_wp2
  repeat (go_quiet (fail);try go_wp2)
  go_ret;exact⟨cH,ai.ju,ai.aq,bC⟩
 ·rw[if_neg c3]at H
  have ig:=decide_eq_false c3;clear c3
  by_cases c4:dM<(bS.length:Int)
  ·rw[if_pos c4]at H
   have eU:=decide_eq_true c4;clear c4;obtain⟨c5,H⟩:=aU H;have gR:=decide_eq_true c5;clear c5
   by_cases c6:a1=0
   ·rw[if_pos c6]at H
    exact absurd H (by simp)
   ·rw[if_neg c6]at H
    obtain⟨ij,mV⟩:=dN c6;simp only[Option.some.injEq,Prod.mk.injEq]at H;obtain⟨rfl,rfl,rfl⟩:=H;obtain⟨Vo,Vl,U7,Vf,Ve⟩:=cB.1;have EH:=Km U7;have EI:=Kn U7;have Vr:=Kp U7;have EJ:=ay U7 1;have Vq:=ay U7 2;clear U7 Vf;have Vc:0≤(dM:Int):=ak;have Vb:dM<(bS.length:Int):=ak;obtain⟨Vg,Vh,U8⟩:=Kd.cD Ve dM Vc Vb;cases Vh;have Va:Vg.block≠g:=Nat.ne_of_lt (Nat.lt_of_lt_of_le (by have:=World.block_lt_of_cell? _ _ U8;first | rwa [nT]at this | exact this) (ai.ge cB.1));replace U8:=kN HB.1 U8;replace U8:=(cell_far (p:=⟨g,2,none⟩) (by first | (rw[nT];exact Va) | (show(Addr.add _ _).block≠_;rw[nT];exact Va) | exact Va) (.int .u64 (IntKind.u64.wrap ((IntKind.u64.wrap (dP*6364136223846793005))+1442695040888963407)))).trans U8;(try have Vp:=fun (n_:Nat)=>(show(((w.drewN n_).setCell ⟨g,2,none⟩ (.int .u64 (IntKind.u64.wrap ((IntKind.u64.wrap (dP*6364136223846793005))+1442695040888963407))))).cell? _=some _ from U8));clear Va;replace Vc:=eq_true Vc;replace Vb:=eq_true Vb;go_enter Try.func171,Try.ntmps171;go_wp2
    repeat (go_quiet (fail);try go_wp2)
    go_ret;exact⟨cH,ai.ju,ai.aq,bC⟩
  ·rw[if_neg c4]at H
   have eU:=decide_eq_false c4;clear c4
   by_cases c8:a1=0
   ·rw[if_pos c8]at H
    exact absurd H (by simp)
   ·rw[if_neg c8]at H
    obtain⟨kE,ou⟩:=dN c8;simp only[Option.some.injEq,Prod.mk.injEq]at H;obtain⟨rfl,rfl,rfl⟩:=H;obtain⟨Vn,Vm,U9,Vd,Vj⟩:=cB.1;have zh:=Km U9;have zi:=Kn U9;have Vk:=Kp U9;have zj:=ay U9 1;have Vi:=ay U9 2;clear U9 Vd;go_enter Try.func171,Try.ntmps171;go_wp2
    repeat (go_quiet (fail);try go_wp2)
    go_ret;exact⟨cH,ai.ju,ai.aq,bC⟩

/-! ### spec_l01Pick: function 144 -/
def pK.f (bS:List Int) (dM:Int) (dP:Int) (l1:List Int):Option (Int×Int×Int):=(fo.f bS dM dP (l1.length:Int)).bind fun U7=>(if 0≤U7.1 then (if U7.1<(l1.length:Int) then (some (rd l1 U7.1,U7.2.1,U7.2.2)) else (none)) else (none))
set_option maxHeartbeats 8000000 in
set_option maxRecDepth 100000 in
theorem pK.calls (g:Nat) (bS:List Int) (dM:Int) (dP:Int) (A1:Option Addr) (c1:Nat) (l1:List Int) (r1:Int) (r2:Int) (r3:Int) (w0 w:World) (hI:ai w0 w g bS dM dP) (hB:Below w0.heap.size w0 w) (hr1:Kd.C (Kd.int .i64) w A1 l1.length l1) (hc1:l1.length≤c1) (U9: ∀ad,A1=some ad→0<l1.length→ad.block≠g) (h:pK.f bS dM dP l1=some (r1,r2,r3)):
  Calls Try.prog 144 #[.pointer (some ⟨g,0,none⟩), .slice A1 l1.length c1] w fun e w'=>e= .returned (.int .i64 r1)∧ai w0 w' g bS r2 r3∧Below w0.heap.size w0 w'∧aW w w' g none:=by
 have je:=m_ hr1;have pR:=m_ hc1;clear hr1 hc1;have cB:=m_ hI;have HK:=m_ (aW.refl w g none);have HL:=m_ hB.size;clear hI;have jt:=m_ hB.size;have HB:=m_ hB;clear hB;have H:=h;unfold pK.f at H;clear h;obtain⟨⟨U7,Ve,Vc⟩,A3,H⟩:=bL H;dsimp only at H
 by_cases c4:0≤U7
 ·rw[if_pos c4]at H
  have eU:=decide_eq_true c4;clear c4;obtain⟨c5,H⟩:=aU H;have gR:=decide_eq_true c5;clear c5;simp only[Option.some.injEq,Prod.mk.injEq]at H;obtain⟨rfl,rfl,rfl⟩:=H;go_enter Try.func144,Try.ntmps144;go_wp2_with (first | ((with_reducible refine bF (f:=171) rfl ?_);refine bI (some 9) Try.func171 #[.pointer (some ⟨g,0,none⟩), .int .i64 (l1.length:Int)] ?_;(with_reducible refine(fo.calls g bS dM dP (l1.length:Int) U7 Ve Vc w0 _ ?aA ?aC A3.1).mono ?_);(case aA=>exact ai.ju);(case aC=>exact ai.aq);rintro e w6 ⟨rfl,hi,hb,hk⟩;refine⟨_,rfl, ?_⟩;replace HK:=m_ (aW.trans bC hk (.inl rfl));replace HB:=m_ (hb);replace cB:=m_ (hi);clear hi hb hk;have U8:0≤(U7:Int):=ak;have Va:U7<(l1.length:Int):=ak;obtain⟨Vd,Vf,Vb⟩:=Kd.cD je.1 U7 U8 Va;cases Vf;replace Vb:=SW HK.1 Vb (by first | (rw[nT];exact U9 _ rfl (by omega)) | exact U9 _ rfl (by omega) | exact U9 Vd rfl (by omega));replace U8:=eq_true U8;replace Va:=eq_true Va));go_ret;exact⟨cH,ai.ju,ai.aq,bC⟩
 ·rw[if_neg c4]at H
  exact absurd H (by simp)

/-! ### spec_l01Own: function 113 -/
def mL.f (l0:List Int):Option (List Int):=(some (([]:List Int):List Int)).bind fun qN=>(if qN.length+l0.length<17592186044416 then (some (qN++l0)) else (none))
set_option maxHeartbeats 8000000 in
set_option maxRecDepth 100000 in
theorem mL.calls (A0:Option Addr) (c0:Nat) (l0:List Int) (r:List Int) (w:World) (hr0:Kd.C (Kd.int .i64) w A0 l0.length l0) (hc0:l0.length≤c0) (h:mL.f l0=some r):
  Calls Try.prog 113 #[.slice A0 l0.length c0] w fun e w'=>∃cP:Value,e= .returned (cP)∧Kd.R (Kd.int .i64) 2 w' w.heap.size (fun _=>True) cP r∧Below w.heap.size w w':=by
 have dG:=m_ hr0;have gi:=m_ hc0;clear hr0 hc0;have HB:=m_ (Below.refl w.heap.size w);have H:=h;unfold mL.f at H;clear h;rw[Option.bind_some]at H;obtain⟨qN,Vc,H⟩: ∃qN:List Int,ah (qN=(([]:List Int)))∧(if qN.length+l0.length<17592186044416 then (some (qN++l0)) else (none))=some r:=⟨_,⟨rfl⟩,H⟩
 by_cases c2:qN.length+l0.length<17592186044416
 ·rw[if_pos c2]at H
  have Va:=m_ c2;clear c2;obtain⟨U7,Vb,H⟩: ∃U7:List Int,ah (U7=(qN++l0))∧(some U7)=some r:=⟨_,⟨rfl⟩,H⟩;obtain rfl:=Option.some.inj H;go_enter Try.func113,Try.ntmps113;go_wp2_with (first | ((with_reducible refine bG (N:=3) rfl ?_);refine Kd.eF (Kd.int .i64) _ 2 ?hg (N:=3) ?hd (xs:=([]:List Int)) (inner:=[]) (ok:=fun _=>True) (bQ:=fun _=>True) ?hr ?hp (fun _ hk=>hk) trivial (Below.refl _ _) (Nat.le_refl _) (by simp) ?_;(case hd=>rfl);(case hg=>rfl);(case hr=>first | (go_simp;done) | (go_simp;rfl));(case hp=>exact(aT.none _ _));intro U9 w3 kP hb bO bP;clear bO bP;rw[← Vc.1]at kP;have U8:=m_ (Kd.cx kP (aE aq));replace HB:=m_ (aH aq hb);clear hb kP) | ((with_reducible refine fG (b:= .append) (xs:= #[.tmp 3, .tmp 4]) rfl ?_);at_builtin;refine Kd.Ki (Kd.int .i64) (w0:=w) w.heap.size rfl (.tmp 3) (.tmp 4) 29 2 (.int .i64 0) 8 rfl Try.underlying29 jf rfl (by decide) (by omega) U9 qN l0 _ _ _ (fun _=>True) (fun _=>False) rfl rfl ?aO ?aR (fun _ _ h=>h) (fun _ h=>h.elim) ?aF ?aB ?aS ?aL ?_;(case aR=>repeat (first | exact(Kd.aN dG.1 HB.1) | (with_reducible refine Kd.fK ?_ _) | (with_reducible refine Kd.fL ?_ _) | (with_reducible refine Kd.fH ?_)));(case aB=>exact aq);(case aF=>exact(fun _ _=>trivial));(case aO=>exact(Kd.ax U8.1 aa));(case aS=>exact(aE aq));(case aL=>have:=Va.1;omega);intro Kh w5 ho hb hg hat;rw[← Vb.1]at ho;replace HB:=m_ (hb);have Cj:=m_ (ho);clear U8;clear ho hb hg hat));go_ret;exact⟨_,cH,(Kd.ax Cj.1 aa),aq⟩
 ·rw[if_neg c2]at H
  exact absurd H (by simp)

/-! ### spec_l01Copy: function 237 -/
def gB.l0:Nat→Int→Int→List (List Int)→Int→List (List Int)→Option (Int×(List (List Int)))
 | 0,_,_,_,_,_=>none
 | k+1,x4,Va,U7,U9,U8=>if x4<(U7.length:Int) then (if 0≤x4 then ((mL.f (af U7 x4)).bind fun vO=>(if U8.length<5864062014805 then (gB.l0 k (wrap64 (x4+1)) Va U7 U9 (U8++[vO])) else (none))) else (none)) else (some (U9,U8))
def gB.f (k:Nat) (au:Int) (ag:List (List Int)):Option (Int×(List (List Int))):=gB.l0 k 0 au ag au (([]:List (List Int)))
def gB.T5:Bool×List (List Nat×List Nat):=(true,[([],[]),([0],[0]),([],[]),([2],[2]),([],[]),([3,4],[3,4]),([5],[5]),([6],[6]),([7],[7]),([1,8,7],[1,8]),([0,1,2,3,4,5,6,7,8,9],[]),([10,9,9,0,1,2,3,4,5,6,7,8,9],[9,10])])
def gB.B5:List Nat:=[0,1,0,4,0,28,60,124,252,511,1023,2047]
theorem gB.zI:gG .any (opsOf Try.f237 5)=gB.T5:=by kernel_rfl
theorem gB.zJ:ko gB.T5.2 gB.B5=true:=by kernel_rfl
set_option maxHeartbeats 8000000 in
set_option maxRecDepth 100000 in
theorem gB.calls (k:Nat) (au:Int) (bn:Option Addr) (bk:Nat) (ag:List (List Int)) (r1:Int) (r2:List (List Int)) (w:World) (cZ:Kd.C (Kd.slice 2 (Kd.int .i64)) w bn ag.length ag) (dh:ag.length≤bk) (h:gB.f k au ag=some (r1,r2)):
  Calls Try.prog 237 #[.agg #[.int .i64 au, .slice bn ag.length bk]] w fun e w'=>∃iq:Value,e= .returned (.agg #[.int .i64 r1,iq])∧Kd.S (Kd.slice 2 (Kd.int .i64)) 29 w' w.heap.size (fun _=>True) iq r2∧Below w.heap.size w w':=by
 have gX:=Try.underlying26;have cE:=m_ cZ;have dw:=m_ dh;clear cZ dh;have HB:=m_ (Below.refl w.heap.size w);have H:=h;unfold gB.f at H;clear h;obtain⟨Vh,VA,H⟩: ∃Vh:List (List Int),ah (Vh=(([]:List (List Int))))∧(gB.l0 k 0 au ag au Vh)=some (r1,r2):=⟨_,⟨rfl⟩,H⟩;have H':=m_ H;clear H;go_enter Try.func237,Try.ntmps237;go_wp2_with (first | ((with_reducible refine bG (N:=1) rfl ?_);refine cO (N:=1) (cs:= #[.int .i64 au, .slice bn ag.length bk]) (t:=26) ?_;intro Ve hg w2 aM hb;have U7:=m_ (aM);have V0:=m_ ((by rw[hg];exact(aE aq):w.heap.size≤Ve));have VH:=m_ ((by rw[hg];exact(aE aq):w.heap.size≤Ve));replace HB:=m_ (aH aq hb);clear hb aM hg) | ((with_reducible refine bG (N:=2) rfl ?_);refine cO (N:=2) (cs:= #[.int .i64 0, .slice none 0 0]) (t:=26) ?_;intro Vd hg w3 aM hb;have U9:=m_ (aM);have VM:=m_ ((by rw[hg];exact(aE aj):w.heap.size≤Vd));have VE:=m_ ((by rw[hg];exact(aE aj):w.heap.size≤Vd));replace HB:=m_ (aH aj hb);have Vk:=m_ ((by rw[hg];exact Nat.ne_of_lt (gF (aD U7.1 aa)):Ve≠Vd));have Vr:=m_ Vk.1.symm;replace U7:=m_ (aI U7.1 hb);clear hb aM hg;have VO:=Vk.1;have VU:=Vr.1;have BU:=aY U7.1;have BV:=aV U7.1;have BW:=ay U7.1 0;have BX:=ay U7.1 1) | ((with_reducible refine bG (N:=7) rfl ?_);refine Kd.qC (Kd.slice 2 (Kd.int .i64)) _ 29 ?hg (N:=7) ?hd (xs:=([]:List (List Int))) (inner:=[]) (ok:=fun _=>True) (bQ:=fun _=>True) ?hr ?hp (fun _ hk=>hk) trivial (Below.refl _ _) (Nat.le_refl _) (by simp) ?_;(case hd=>rfl);(case hg=>rfl);(case hr=>first | (go_simp;done) | (go_simp;rfl));(case hp=>exact(aT.none _ _));intro VK w6 kI hb bO bP;clear bO bP;rw[← VA.1]at kI;have Vl:=m_ (Kd.gj kI (aE aj));replace U7:=m_ (aI U7.1 hb);replace U9:=m_ (aI U9.1 hb);replace HB:=m_ (aH aj hb);clear hb kI;obtain⟨tf,tj,zR⟩:=Kd.eT Vl.1;subst zR) | ((with_reducible refine bG (N:=3) rfl ?_);refine cO (N:=3) (cs:= #[.int .i64 0, .slice none 0 0]) (t:=26) ?_;intro Vb hg w9 aM hb;replace Vl:=m_ (Kd.aG (Kd.aG Vl.1 aa) hb);have U8:=m_ (aM);have VI:=m_ ((by rw[hg];exact(aE aj):w.heap.size≤Vb));have VW:=m_ ((by rw[hg];exact(aE aj):w.heap.size≤Vb));replace HB:=m_ (aH aj hb);have Vj:=m_ ((by rw[hg];exact Nat.ne_of_lt (gF (aD U7.1 aa)):Ve≠Vb));have Vn:=m_ Vj.1.symm;replace U7:=m_ (aI U7.1 hb);have Vm:=m_ ((by rw[hg];exact Nat.ne_of_lt (gF (aD U9.1 aa)):Vd≠Vb));have Vq:=m_ Vm.1.symm;replace U9:=m_ (aI U9.1 hb);clear hb aM hg;have wO:=Vn.1;have wP:=Vj.1;have IU:=Vq.1;have IV:=Vm.1;have Bx:=aY U8.1;have Bz:=aV U8.1;have BA:=ay U8.1 0;have BB:=ay U8.1 1));go_loopg [4] k (fun kq v4 w'=>∃(bV:Int) (Vf:List (List Int)) (u256001:Value),v4= .int .i64 bV∧ah (gB.l0 kq bV au ag au Vf=some (r1,r2))∧ah (kq≤k)∧ah (Kd.S (Kd.slice 2 (Kd.int .i64)) 29 w' w.heap.size (fun _=>True) u256001 Vf)∧ah (w'.heap[Ve]? =some (.cells #[.int .i64 au,(.slice bn ag.length bk)] 26 (0,0)))∧ah (w'.heap[Vd]? =some (.cells #[.int .i64 0,(.slice none 0 0)] 26 (0,0)))∧ah (w'.heap[Vb]? =some (.cells #[.int .i64 au,u256001] 26 (0,0)))∧ah (Below w.heap.size w w'))
 case atStart=>exact⟨(0),(Vh),(.slice tf Vh.length tj),aJ,H',⟨Nat.le_refl _⟩,⟨by(with_reducible repeat (first | apply Kd.dK | apply Kd.dL | apply Kd.cX));exact Kd.cu (Kd.dR (p:=⟨Vb,1,none⟩) (Kd.dR (p:=⟨Vb,0,none⟩) (Kd.gq Vl.1 U8.1 (by decide)) (fun _ hk=>hk.2) (.int .i64 au)) (fun _ hk=>hk.2) (.slice tf Vh.length tj)) (fun _ hk=>trivial)⟩,⟨jd⟩,⟨jd⟩,⟨by(with_reducible repeat (first | refine bM ?_ _ | refine bw ?_ | refine bH ?_ _));refine cW (cs:= #[.int .i64 au, .slice none 0 0]) ?_ 1 _ rfl;(with_reducible repeat (first | refine bM ?_ _ | refine bw ?_ | refine bH ?_ _));refine cW (cs:= #[.int .i64 0, .slice none 0 0]) ?_ 0 _ rfl;(with_reducible repeat (first | refine bM ?_ _ | refine bw ?_ | refine bH ?_ _));exact U8.1⟩,⟨aj⟩⟩
 case round=>
  clear H';obtain⟨bV,Vf,u256001,rfl,HA,bp,Va,U7,U9,U8,HB⟩:=hrel;cases gk with
  | zero=>exact absurd HA.1 (by simp[gB.l0])
  | succ k1=>
   have H:=HA.1;clear HA;simp only[gB.l0]at H
   by_cases c13:bV<(ag.length:Int)
   ·rw[if_pos c13]at H
    have kJ:=decide_eq_true c13;clear c13;obtain⟨c14,H⟩:=aU H;have kW:=decide_eq_true c14;clear c14;obtain⟨vO,uN,H⟩:=bL H;obtain⟨c16,H⟩:=aU H;have zD:=m_ c16;clear c16;obtain⟨Vg,VC,H⟩: ∃Vg:List (List Int),ah (Vg=(Vf++[vO]))∧(gB.l0 k1 (wrap64 (bV+1)) au ag au Vg)=some (r1,r2):=⟨_,⟨rfl⟩,H⟩;have H':=m_ H;clear H;have Bo:=Vk.1;have Bq:=Vr.1;have IW:=Vj.1;have IX:=Vn.1;have Fc:=aY U7.1;have Fe:=aV U7.1;have Ff:=ay U7.1 0;have Fg:=ay U7.1 1
    try go_wp2
    replace Va:=m_ (Kd.cX Va.1);replace U7:=m_ (bw U7.1);replace U9:=m_ (bw U9.1);replace U8:=m_ (bw U8.1);replace HB:=m_ (gQ HB.1);have Vp:0≤(bV:Int):=ak;have Vs:bV<(ag.length:Int):=ak;obtain⟨Vz,Vx,Vv,VD,Vi,Vt,Vw⟩:=dV cE.1 bV Vp Vs;have Vc:=Vi;cases VD;(try replace Vi:=(HB.1.cell (World.block_lt_of_cell? w _ Vi)).trans Vi);have Vy:=m_ Vw;have VB:=m_ Vt;clear Vw Vt;replace Vp:=eq_true Vp;replace Vs:=eq_true Vs;refine jr (n:=12) (S:=fun w'=>w'.cell? ⟨Vb,0,none⟩=some (.int .i64 au)∧w'.cell? ⟨Vb,1,none⟩=some (u256001)∧w'.cell? ⟨Ve,0,none⟩=some (.int .i64 au)∧w'.cell? ⟨Ve,1,none⟩=some (.slice (some Vz) ag.length bk)∧w'.cell? (Vz.add (bV).toNat)=some (.slice Vx (af ag bV).length Vv)) (ds:=[11]) #[false,false,false,false,false,false,false,false,false,false,false,false] (by kernel_rfl) rfl rfl ⟨aY U8.1,aV U8.1,aY U7.1,aV U7.1,((HB.1.cell (World.block_lt_of_cell? _ _ Vc)).trans Vc)⟩ (fun hHeld=> ?_);refine kr gB.zI gB.zJ (fun eD ku=> ?_);generalize wr.drew=pZ at Va U7 U9 U8 HB Vy Vi hHeld ⊢;refine aQ 0 12 16 1 ?_;refine aQ 2 12 18 5 ?_;refine aQ 4 12 20 21 ?_;refine dA 1 12 17 23 hHeld ?_;refine dA 3 12 19 31 hHeld ?_;refine aQ 5 12 21 63 ?_;refine dA 6 12 22 127 hHeld ?_;refine kM 7 12 (some 23) 255 (fun K hK=> ?_);refine kD Try.func113 (by kernel_rfl) rfl #[.slice Vx (af ag bV).length Vv] (by rfl) rfl rfl lq ?_
    with_reducible refine(mL.calls _ _ (af ag bV) vO _ ?aA ?aC uN.1).mono ?_
    (case aA=>exact Kd.aN (Kd.aN Vy.1 HB.1) aa);(case aC=>exact VB.1);rintro e qy ⟨VT,rfl,az,hb⟩;refine⟨_,rfl, ?_⟩;replace Va:=m_ (Kd.dU (Kd.aG Va.1 aa) (Kd.bu az) hb);have Vo:=m_ (Kd.cx az (aE aj));replace U7:=m_ (aI U7.1 hb);replace U9:=m_ (aI U9.1 hb);replace U8:=m_ (aI U8.1 hb);replace HB:=m_ (aH aj hb);(try clear az);obtain⟨DU,uz,wM⟩:=Kd.cJ Vo.1;subst wM;refine hK.out _ _ ⟨aY U8.1,aV U8.1,aY U7.1,aV U7.1,((HB.1.cell (World.block_lt_of_cell? _ _ Vc)).trans Vc)⟩ (fun hHeld=> ?_);clear hK K;refine iH ?_;refine kM 8 12 (some 24) 511 (fun K hK=> ?_);refine Fx (w1:= ?_) (v:= ?_) (by rfl) rfl ?_ ?_
    rotate_left 2
    ·go_simp
     constructor
     ·rfl
     ·rfl
    refine hK.out _ _ ⟨(nj (bH U8.1 _) 0).trans rfl,(nj (bH U8.1 _) 1).trans rfl,(nj (bH U7.1 _) 0).trans rfl,(nj (bH U7.1 _) 1).trans rfl,(World.cell?_alloc_lt _ _ _ (World.block_lt_of_cell? _ _ (((HB.1.cell (World.block_lt_of_cell? _ _ Vc)).trans Vc)))).trans (((HB.1.cell (World.block_lt_of_cell? _ _ Vc)).trans Vc))⟩ (fun hHeld=> ?_);clear hK K;refine iH ?_;refine kM 9 12 (some 25) 1023 (fun K hK=> ?_);refine Kd.J8 (Kd.slice 2 (Kd.int .i64)) (w0:=w) w.heap.size (by rfl) (.tmp 17) (.tmp 24) 24 29 (.slice none 0 0) 24 rfl Try.underlying24 iT rfl (by decide) (by omega) u256001 Vf vO [.slice DU vO.length uz] (fun _=>True) (fun k_=>some k_=(.slice DU vO.length uz:Value).ownBlock) rfl rfl ?aP (fun k_ cn=>((Kd.bg (ok':=fun k_=>((fun _=>True)) k_∧some k_≠(u256001:Value).ownBlock) (Kd.cM (Vo.1) (Kd.cI Va.1) (by decide)) (fun k_ hk=>⟨trivial,hk.2⟩))).1 k_ cn.symm) ?aF ?aO ?aB ?aS ?aL ?_;(case aP=>exact Kd.gb (Kd.bg (Kd.fI rfl (Kd.bg (ok':=fun k_=>((fun _=>True)) k_∧some k_≠(u256001:Value).ownBlock) (Kd.cM (Vo.1) (Kd.cI Va.1) (by decide)) (fun k_ hk=>⟨trivial,hk.2⟩))) (fun _ h_=>h_)));(case aB=>exact aj);(case aF=>exact(fun _ _=>trivial));(case aO=>exact(Kd.aG (Kd.cu Va.1 (fun k_ hk=>⟨trivial,fun e_=>hk.2 e_⟩)) aa));(case aS=>exact(aE aj));(case aL=>have:=zD.1;omega);intro VF kZ ho hb hg hat;rw[← VC.1]at ho;replace U7:=m_ (dF (aD U7.1 aa) hg (Kd.dW Va.1 U7.1 (by decide)));replace U9:=m_ (dF (aD U9.1 aa) hg (Kd.dW Va.1 U9.1 (by decide)));replace U8:=m_ (dF (aD U8.1 aa) hg (Kd.dW Va.1 U8.1 (by decide)));replace HB:=m_ (hb);have Vu:=m_ (ho);(try clear Va);(try clear Vo);clear ho hb hg hat;obtain⟨uP,sP,uQ⟩:=Kd.eT Vu.1;subst uQ;refine hK.out _ _ ⟨aY U8.1,aV U8.1,aY U7.1,aV U7.1,((HB.1.cell (World.block_lt_of_cell? _ _ Vc)).trans Vc)⟩ (fun hHeld=> ?_);clear hK K;refine iH ?_;refine aQ 10 12 26 2047 ?_;refine oo (i:=11) (N:=none) #[true,true,true,true,true,true,true,true,true,true,true,true] rfl rfl (nF eD.1 (by kernel_rfl)) (by decide) (fun K hK=> ?_);have VS:kZ.cell? ⟨Vb,1,none⟩=some (u256001):=aV U8.1;have VQ:=ay U8.1 1;have VG:=Vj.1;have VV:=Vm.1;have VJ:=Vn.1;have VZ:=Vq.1;refine mT (w1:= ?_) (by rfl) rfl ?_ ?_
    rotate_left
    ·go_simp
     rfl
    refine hK.out _ _ ?_;clear hK K;refine js (kz eD.1 (by kernel_rfl)) ?_
    try go_wp2
    go_roundg k1
    case measure=>have:=bp.1;omega
    case rel=>exact⟨(wrap64 (bV+1)),(Vg),(.slice uP Vg.length sP),aJ,H',⟨by have:=bp.1;omega⟩,⟨by(with_reducible repeat (first | apply Kd.dK | apply Kd.dL | apply Kd.cX));exact Kd.cu (Kd.dR (p:=⟨Vb,1,none⟩) (Kd.gq Vu.1 U8.1 (by decide)) (fun _ hk=>hk.2) (.slice uP Vg.length sP)) (fun _ hk=>trivial)⟩,⟨jd⟩,⟨jd⟩,⟨by(with_reducible repeat (first | refine bM ?_ _ | refine bw ?_ | refine bH ?_ _));refine cW (cs:= #[.int .i64 au,u256001]) ?_ 1 _ rfl;(with_reducible repeat (first | refine bM ?_ _ | refine bw ?_ | refine bH ?_ _));exact U8.1⟩,⟨aj⟩⟩
   ·rw[if_neg c13]at H
    have kJ:=decide_eq_false c13;clear c13;simp only[Option.some.injEq,Prod.mk.injEq]at H;obtain⟨rfl,rfl⟩:=H;have IY:=Vk.1;have IZ:=Vr.1;have VL:=Vj.1;have VR:=Vn.1;have RX:=aY U7.1;have RY:=aV U7.1;have RZ:=ay U7.1 0;have R1:=ay U7.1 1;have IJ:=Vq.1;have IK:=Vm.1;have IL:=aY U8.1;have IM:=aV U8.1;have IP:=ay U8.1 0;have IQ:=ay U8.1 1;have VX:=aY U9.1;have VP:=aV U9.1;have VY:=ay U9.1 0;have VN:=ay U9.1 1;obtain⟨zF,zG,Fj⟩:=Kd.eT Va.1;subst Fj;go_wp2;refine bodyPost_ret (results_cell_row rfl _ _ Vd 26 #[.int .i64 au, .slice zF Vf.length zG] (0,0) _ rfl (by(with_reducible repeat (first | refine bM ?_ _ | refine bw ?_ | refine bH ?_ _));refine cW (cs:= #[.int .i64 au, .slice none 0 0]) ?_ 1 _ rfl;(with_reducible repeat (first | refine bM ?_ _ | refine bw ?_ | refine bH ?_ _));refine cW (cs:= #[.int .i64 0, .slice none 0 0]) ?_ 0 _ rfl;(with_reducible repeat (first | refine bM ?_ _ | refine bw ?_ | refine bH ?_ _));exact U9.1) Try.underlying26 rfl (by kernel_rfl)) rfl ?_;exact⟨_,cH,by(with_reducible repeat (first | apply Kd.dK | apply Kd.dL | apply Kd.cX));exact Kd.cu (Kd.dR (p:=⟨Vd,1,none⟩) (Kd.dR (p:=⟨Vd,0,none⟩) (Kd.gq Va.1 U9.1 (by decide)) (fun _ hk=>hk.2) (.int .i64 au)) (fun _ hk=>hk.2) (.slice zF Vf.length zG)) (fun _ hk=>trivial),aj⟩

end Go.Proofs.Ytkadhadceongiaa.G
