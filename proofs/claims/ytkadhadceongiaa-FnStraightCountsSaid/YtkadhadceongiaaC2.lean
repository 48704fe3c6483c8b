/- The printed functions that this law reaches, and their contracts: part 2. -/
-- printed by this repo's wip/printer out of the kit's print with its own changes
import Derived.Test.YtkadhadceongiaaC1
namespace Go.Proofs.Ytkadhadceongiaa.G
open Go.RowKit Go.Proofs.YtkadhadceongiaaW.PrintWords Go.Proofs.YtkadhadceongiaaW.PrintLast Go.Proofs.YtkadhadceongiaaW.PrintMore
attribute [local go_sem] um uo uq ur uu uw ux uy   -- for this text's walks alone
set_option linter.unusedVariables false
set_option linter.unusedSimpArgs false

/-! ### spec_l02Matrix: function 196 -/
mutual
def fD.l0:Nat→List (List Int)→Int→Int→Int→List (List Int)→Option ((List (List Int)))
 | 0,_,_,_,_,_=>none
 | k+1,x3,x4,x5,qX,qY=>if x5<x4 then (if 0≤x4 then (if (x4:Int).toNat≤35184372088832 then ((hO.f qX qY x5).bind fun xg=>(fD.l1 k x3 x4 x5 (List.replicate (x4:Int).toNat 0) xg.2 0 qX qY)) else (none)) else (none)) else (some x3)
def fD.l1:Nat→List (List Int)→Int→Int→List Int→Int→Int→Int→List (List Int)→Option ((List (List Int)))
 | 0,_,_,_,_,_,_,_,_=>none
 | k+1,x3,x4,x5,x6,x8,x9,qX,qY=>if x9<x4 then ((hO.f qX qY x9).bind fun U7=>(if U7.1=x8 then (if x9=(Go.bits .xor .i64 x5 1) then (fD.l1 k x3 x4 x5 x6 x8 (wrap64 (x9+1)) qX qY) else (if 0≤x9 then (if x9<(x6.length:Int) then (fD.l1 k x3 x4 x5 (x6.set (x9:Int).toNat 1) x8 (wrap64 (x9+1)) qX qY) else (none)) else (none))) else (fD.l1 k x3 x4 x5 x6 x8 (wrap64 (x9+1)) qX qY))) else (if x3.length<5864062014805 then (fD.l0 k (x3++[x6]) x4 (wrap64 (x5+1)) qX qY) else (none))
end
def fD.f (k:Nat) (ai:Int) (af:List (List Int)):Option ((List (List Int))):=fD.l0 k (([]:List (List Int))) (wrap64 (2*(af.length:Int))) 0 ai af
set_option maxHeartbeats 8000000 in
set_option maxRecDepth 100000 in
theorem fD.calls (k:Nat) (ai:Int) (aT:Option Addr) (aQ:Nat) (af:List (List Int)) (r:List (List Int)) (w:World) (cG:Kd.C (Kd.slice 2 (Kd.int .i64)) w aT af.length af) (cH:af.length≤aQ) (h:fD.f k ai af=some r):
  Calls Try.prog 196 #[.agg #[.int .i64 ai, .slice aT af.length aQ]] w fun e w'=>∃cP:Value,e= .returned (cP)∧Kd.S (Kd.slice 2 (Kd.int .i64)) 29 w' w.heap.size (fun _=>True) cP r∧Below w.heap.size w w':=by
 have eH:=Try.underlying26;have bz:=m_ cG;have bH:=m_ cH;clear cG cH;have HB:=m_ (Below.refl w.heap.size w);have H:=h;unfold fD.f at H;clear h;obtain⟨Ve,Vx,H⟩: ∃Ve:List (List Int),ah (Ve=(([]:List (List Int))))∧(fD.l0 k Ve (wrap64 (2*(af.length:Int))) 0 ai af)=some r:=⟨_,⟨rfl⟩,H⟩;have H':=m_ H;clear H;go_enter Try.func196,Try.ntmps196
 try go_wp2_with (first | ((with_reducible refine bp (N:=1) rfl ?_);refine bQ (N:=1) (cs:= #[.int .i64 ai, .slice aT af.length aQ]) (t:=26) ?_;intro Va hg w2 az hb;have U7:=m_ (az);have VJ:=m_ ((by rw[hg];exact(aD aq):w.heap.size≤Va));have VF:=m_ ((by rw[hg];exact(aD aq):w.heap.size≤Va));replace HB:=m_ (aA aq hb);clear hb az hg))
 replace U7:=m_ (bB U7.1);replace HB:=m_ (fe HB.1);refine gH (n:=7) (S:=fun w'=>w'.cell? ⟨Va,0,none⟩=some (.int .i64 ai)∧w'.cell? ⟨Va,1,none⟩=some (.slice aT af.length aQ)) (ds:=[]) #[false,false,false,false,false,false,false] (by kernel_rfl) rfl rfl ⟨aK U7.1,aN U7.1⟩ (fun hHeld=> ?_);generalize w2.drew=w3 at U7 HB hHeld ⊢;refine kM (i:=1) (N:=some 13) (v:= ?_) (a':= ?_) #[false,true,false,false,false,false,false] rfl rfl (by kernel_rfl) (fun _ _ _ h=>h) (Or.inl ⟨by rfl, ?_⟩) ?_ ?_
 rotate_left
 ·intro w'
  go_simp
  with_reducible rfl
 rotate_left
 ·simp only[Act.put,iY]
  rfl
 refine ni (i:=2) (N:=some 14) (v:= ?_) (a':= ?_) #[false,true,true,false,false,false,false] rfl rfl (by kernel_rfl) (fun _ _ _ h=>h) (Or.inl ⟨by rfl, ?_⟩) hHeld ?_ ?_
 rotate_left
 ·rintro w' ⟨s0,s1⟩
  go_simp
  with_reducible rfl
 rotate_left
 ·simp only[Act.put,iY]
  rfl
 refine kM (i:=3) (N:=some 15) (v:= ?_) (a':= ?_) #[false,true,true,true,false,false,false] rfl rfl (by kernel_rfl) (fun _ _ _ h=>h) (Or.inl ⟨by rfl, ?_⟩) ?_ ?_
 rotate_left
 ·intro w'
  go_simp
  with_reducible rfl
 rotate_left
 ·simp only[Act.put,iY]
  rfl
 refine kM (i:=4) (N:=some 16) (v:= ?_) (a':= ?_) #[false,true,true,true,true,false,false] rfl rfl (by kernel_rfl) (fun _ _ _ h=>h) (Or.inl ⟨by rfl, ?_⟩) ?_ ?_
 rotate_left
 ·intro w'
  go_simp
  with_reducible rfl
 rotate_left
 ·simp only[Act.put,iY]
  rfl
 refine sU (i:=0) (N:=some 12) #[true,true,true,true,true,false,false] rfl rfl (by kernel_rfl) (by decide) (fun K hK=> ?_);refine Kd.Ob (Kd.slice 2 (Kd.int .i64)) _ 29 ?hg (N:=12) ?hd (xs:=([]:List (List Int))) (inner:=[]) (ok:=fun _=>True) (bX:=fun _=>True) ?hr ?hp (fun _ hk=>hk) trivial (Below.refl _ _) (Nat.le_refl _) (by simp) ?_;(case hd=>rfl);(case hg=>rfl);(case hr=>first | (go_simp;done) | (go_simp;rfl));(case hp=>exact(aZ.none _ _));intro VG w4 Vi hb cy cA;clear cy cA;rw[← Vx.1]at Vi;have Vs:=m_ (Kd.iB Vi (aD aj));replace U7:=m_ (aI U7.1 hb);replace HB:=m_ (aA aj hb);clear hb Vi;refine hK.out _ _ ⟨aK U7.1,aN U7.1⟩ (fun hHeld=> ?_);clear hK K;refine fL ?_;refine kM (i:=5) (N:=some 3) (v:= ?_) (a':= ?_) #[true,true,true,true,true,true,false] rfl rfl (by kernel_rfl) (fun _ _ _ h=>h) (Or.inl ⟨by rfl, ?_⟩) ?_ ?_
 rotate_left
 ·intro w'
  go_simp
  with_reducible rfl
 rotate_left
 ·simp only[Act.put,iY]
  rfl
 refine kM (i:=6) (N:=some 4) (v:= ?_) (a':= ?_) #[true,true,true,true,true,true,true] rfl rfl (by kernel_rfl) (fun _ _ _ h=>h) (Or.inl ⟨by rfl, ?_⟩) ?_ ?_
 rotate_left
 ·intro w'
  go_simp
  with_reducible rfl
 rotate_left
 ·simp only[Act.put,iY]
  rfl
 refine gI (by kernel_rfl) ?_
 try go_wp2
 go_loopg [3,5] k (fun kq v3 v5 w'=>∃(bU:List (List Int)) (bL:Int),v5= .int .i64 bL∧ah (fD.l0 kq bU (wrap64 (2*(af.length:Int))) bL ai af=some r)∧ah (kq≤k)∧ah (Kd.S (Kd.slice 2 (Kd.int .i64)) 29 w' w.heap.size (fun _=>True) v3 bU)∧ah (w'.heap[Va]? =some (.cells #[.int .i64 ai,(.slice aT af.length aQ)] 26 (0,0)))∧ah (Below w.heap.size w w'))
 case atStart=>exact⟨(Ve),(0),aV,H',⟨Nat.le_refl _⟩,⟨Kd.bC Vs.1 aa⟩,⟨ay U7.1 aa⟩,⟨aj⟩⟩
 case round=>
  clear H';obtain⟨bU,bL,rfl,HA,bk,bA,U7,HB⟩:=hrel;cases gk with
  | zero=>exact absurd HA.1 (by simp[fD.l0])
  | succ k1=>
   have H:=HA.1;clear HA;simp only[fD.l0]at H
   by_cases c6:bL<(wrap64 (2*(af.length:Int)))
   ·rw[if_pos c6]at H
    have iA:=decide_eq_true c6;clear c6;obtain⟨U8,U9⟩: ∃j_:Int,(wrap64 (2*(af.length:Int)))=j_:=⟨_,rfl⟩;(try rw[U9]);replace H:(if 0≤(U8) then (if ((U8):Int).toNat≤35184372088832 then ((hO.f ai af bL).bind fun xg=>(fD.l1 k1 bU (U8) bL (List.replicate ((U8):Int).toNat 0) xg.2 0 ai af)) else (none)) else (none))=some r:=by first | (rw[U9]at H;exact H) | (simp only[U9]at H ⊢;exact H)
    (try rw[U9]at iA);have VH:(IntKind.i64.wrap (2*(af.length:Int)))=U8:=(ep _).trans U9;obtain⟨c8,H⟩:=bf H;have jy:=eq_true c8;have nS:=decide_eq_true c8;clear c8;obtain⟨c9,H⟩:=bf H;have nO:=eq_true c9;have zD:=decide_eq_true c9;clear c9;obtain⟨Vf,Vt,H⟩: ∃Vf:List Int,ah (Vf=(List.replicate ((U8):Int).toNat 0))∧((hO.f ai af bL).bind fun xg=>(fD.l1 k1 bU (U8) bL Vf xg.2 0 ai af))=some r:=⟨_,⟨rfl⟩,H⟩;obtain⟨⟨VB,Vg⟩,Vw,H⟩:=bu H;dsimp only at H;have H':=m_ H;clear H;go_wp2_with (first | ((with_reducible refine bp (N:=23) rfl ?_);refine Kd.zn (Kd.int .i64) _ 2 rfl (N:=23) rfl 29 _ _ rfl (U8) rfl rfl Try.underlying29 (.int .i64 0) 8 fB rfl (by decide) (by omega) 0 (ok:=fun _=>True) (bX:=fun _=>True) rfl (fun _ hk=>hk) trivial (aE) (Nat.le_trans (Nat.mul_le_mul_right _ (aE:(U8).toNat≤35184372088832)) (by omega)) (Below.refl _ _) (Nat.le_refl _) ?_;intro Vo jh fT hb cy cA;clear cy cA;rw[← Vt.1]at fT;replace bA:=m_ (Kd.jj (Kd.bC bA.1 aa) (Kd.cx fT) hb);have Vn:=m_ (Kd.cJ fT (aD aj));replace U7:=m_ (aI U7.1 hb);replace HB:=m_ (aA aj hb);clear hb fT;have zf:=aK U7.1;have zg:=aN U7.1;have zh:=av U7.1 0;have zi:=av U7.1 1) | ((with_reducible refine bE (f:=152) rfl ?_);refine bF (some 27) Try.func152 #[.agg #[.int .i64 ai, .slice aT af.length aQ], .int .i64 bL] ?_;(with_reducible refine(hO.calls ai _ _ af bL VB Vg _ ?ak ?au Vw.1).mono ?_);(case ak=>exact Kd.aC (Kd.aC bz.1 HB.1) aa);(case au=>exact bH.1);rintro e m8 ⟨rfl,hb⟩;refine⟨_,rfl, ?_⟩;replace bA:=m_ (Kd.bC (Kd.bC bA.1 aa) hb);replace Vn:=m_ (Kd.ax (Kd.ax Vn.1 aa) hb);replace U7:=m_ (aI U7.1 hb);replace HB:=m_ (aA aj hb);clear hb));go_loopg [9] k1 (fun kq v9 w'=>∃(fJ:List Int) (e7:Int),v9= .int .i64 e7∧ah (fD.l1 kq bU (U8) bL fJ Vg e7 ai af=some r)∧ah (kq≤k1)∧ah (Kd.S (Kd.slice 2 (Kd.int .i64)) 29 w' w.heap.size (fun k_=>some k_≠(Vo:Value).ownBlock) u3 bU)∧ah (Kd.R (Kd.int .i64) 2 w' w.heap.size (fun _=>True) Vo fJ)∧ah (w'.heap[Va]? =some (.cells #[.int .i64 ai,(.slice aT af.length aQ)] 26 (0,0)))∧ah (Below w.heap.size w w'))
    case atStart=>exact⟨(Vf),(0),aV,H',⟨Nat.le_refl _⟩,⟨by(with_reducible repeat (first | apply Kd.fU | apply Kd.fV | apply Kd.e8));exact Kd.cX bA.1 (fun _ hk=>hk.2)⟩,⟨Kd.ax Vn.1 aa⟩,⟨ay U7.1 aa⟩,⟨aj⟩⟩
    case round=>
     clear H';obtain⟨fJ,e7,rfl,HA,cj,bA,bN,U7,HB⟩:=hrel;cases gk with
     | zero=>exact absurd HA.1 (by simp[fD.l1])
     | succ k2=>
      have H:=HA.1;clear HA;simp only[fD.l1]at H
      by_cases c15:e7<(U8)
      ·rw[if_pos c15]at H
       have iW:=decide_eq_true c15;clear c15;obtain⟨⟨Vh,Vm⟩,qA,H⟩:=bu H;dsimp only at H
       by_cases c17:Vh=Vg
       ·rw[if_pos c17]at H
        obtain⟨uz,FB⟩:=cF c17;clear c17
        by_cases c18:e7=(Go.bits .xor .i64 bL 1)
        ·rw[if_pos c18]at H
         obtain⟨oG,VA⟩:=cF c18;clear c18;have H':=m_ H;clear H;have sZ:=aK U7.1;have s6:=aN U7.1;have s9:=av U7.1 0;have tf:=av U7.1 1;go_wp2_with (first | ((with_reducible refine bE (f:=152) rfl ?_);refine bF (some 38) Try.func152 #[.agg #[.int .i64 ai, .slice aT af.length aQ], .int .i64 e7] ?_;(with_reducible refine(hO.calls ai _ _ af e7 Vh Vm _ ?ak ?au qA.1).mono ?_);(case ak=>exact Kd.aC (Kd.aC bz.1 HB.1) aa);(case au=>exact bH.1);rintro e qM ⟨rfl,hb⟩;refine⟨_,rfl, ?_⟩;replace bA:=m_ (Kd.bC (Kd.bC bA.1 aa) hb);replace bN:=m_ (Kd.ax (Kd.ax bN.1 aa) hb);replace U7:=m_ (aI U7.1 hb);replace HB:=m_ (aA aj hb);clear hb))
         first | go_roundg k2 | ((try subst U9);go_roundg k2)
         case measure=>have:=bk.1;have:=cj.1;omega
         case rel=>exact⟨(fJ),(wrap64 (e7+1)),aV,H',⟨by have:=bk.1;have:=cj.1;omega⟩,⟨Kd.bC bA.1 aa⟩,⟨Kd.ax bN.1 aa⟩,⟨ay U7.1 aa⟩,⟨aj⟩⟩
        ·rw[if_neg c18]at H
         obtain⟨oG,VA⟩:=cC c18;obtain⟨eV,H⟩:=bf H;have m6:=decide_eq_true eV;clear eV;obtain⟨gi,H⟩:=bf H;have pJ:=decide_eq_true gi;clear gi;obtain⟨Vb,Vv,H⟩: ∃Vb:List Int,ah (Vb=(fJ.set (e7:Int).toNat 1))∧(fD.l1 k2 bU (U8) bL Vb Vg (wrap64 (e7+1)) ai af)=some r:=⟨_,⟨rfl⟩,H⟩;have H':=m_ H;clear H;have yO:=aK U7.1;have yP:=aN U7.1;have yQ:=av U7.1 0;have yR:=av U7.1 1;go_wp2_with (first | ((with_reducible refine bE (f:=152) rfl ?_);refine bF (some 38) Try.func152 #[.agg #[.int .i64 ai, .slice aT af.length aQ], .int .i64 e7] ?_;(with_reducible refine(hO.calls ai _ _ af e7 Vh Vm _ ?ak ?au qA.1).mono ?_);(case ak=>exact Kd.aC (Kd.aC bz.1 HB.1) aa);(case au=>exact bH.1);rintro e m7 ⟨rfl,hb⟩;refine⟨_,rfl, ?_⟩;replace bA:=m_ (Kd.bC (Kd.bC bA.1 aa) hb);replace bN:=m_ (Kd.ax (Kd.ax bN.1 aa) hb);replace U7:=m_ (aI U7.1 hb);replace HB:=m_ (aA aj hb);clear hb;have Vl:0≤(e7:Int):=aE;have Vj:(e7:Int)<((fJ.length:Int):Int):=aE;obtain⟨Vc,sQ,uU,Vq,Vy,VD,Vp⟩:=Kd.sM bN.1 (by omega);(first | cases uU | (injection uU with dK iP iQ;(first | subst dK | (injection dK with dK;subst dK));subst iQ;clear iP));have Vr:=m_ Vq;have VI:=m_ Vp;clear Vq Vy Vp;obtain⟨VC,VM⟩:=Kd.sN 0 bN.1 (e7:Int) Vl Vj;replace Vl:=eq_true Vl;replace Vj:=eq_true Vj;obtain⟨VK,VN⟩:=Kd.sN 0 bN.1 (e7:Int) (aE) (aE);have Vk:=Kd.zE bN.1 (e7:Int) 1) | ((with_reducible refine CR (t:=2) (p:=52) rfl ?_);refine CS (t:=2) (p:=52) (v:= ?VE) (w1:=(m7.setCell ⟨Vc,(e7:Int).toNat,none⟩ (.int .i64 1))) ?hg ?ho ?hn ?hr ?_;(case ho=>rfl);(case hg=>rfl);(case hn=>rfl);(case hr=>first | (go_simp;done) | (go_simp;rfl));intro kZ hw;have hg:m7.grownBy kZ (some Vc):=(by rw[hw];exact Vk.2);have qZ:Kd.R (Kd.int .i64) 2 kZ w.heap.size (fun _=>True) (.slice (some ⟨Vc,0,none⟩) fJ.length sQ) Vb:=(by rw[hw,Vv.1];exact Vk.1);clear Vk;replace bA:=m_ (Kd.tq (v:=(.slice (some ⟨Vc,0,none⟩) fJ.length sQ)) (v1:=(.slice (some ⟨Vc,0,none⟩) fJ.length sQ)) (ok:=(fun _=>True)) (Kd.bC (Kd.cX bA.1 (fun _ hk=>⟨trivial,hk⟩)) aa) hg (.inl rfl));replace U7:=m_ (eI (ay U7.1 aa) hg (Kd.gU bN.1 U7.1 (by decide)));replace bN:=m_ (qZ);replace HB:=m_ ((by rw[hw];exact mK (HB.1) Vr.1:Below w.heap.size w kZ));clear hg hw qZ))
         first | go_roundg k2 | ((try subst U9);go_roundg k2)
         case measure=>have:=bk.1;have:=cj.1;omega
         case rel=>exact⟨(Vb),(wrap64 (e7+1)),aV,H',⟨by have:=bk.1;have:=cj.1;omega⟩,⟨by(with_reducible repeat (first | apply Kd.fU | apply Kd.fV | apply Kd.e8));exact Kd.cX bA.1 (fun _ hk=>hk.2)⟩,⟨Kd.ax bN.1 aa⟩,⟨ay U7.1 aa⟩,⟨aj⟩⟩
       ·rw[if_neg c17]at H
        obtain⟨uz,FB⟩:=cC c17;have H':=m_ H;clear H;have yS:=aK U7.1;have yT:=aN U7.1;have yU:=av U7.1 0;have yV:=av U7.1 1;go_wp2_with (first | ((with_reducible refine bE (f:=152) rfl ?_);refine bF (some 38) Try.func152 #[.agg #[.int .i64 ai, .slice aT af.length aQ], .int .i64 e7] ?_;(with_reducible refine(hO.calls ai _ _ af e7 Vh Vm _ ?ak ?au qA.1).mono ?_);(case ak=>exact Kd.aC (Kd.aC bz.1 HB.1) aa);(case au=>exact bH.1);rintro e pK ⟨rfl,hb⟩;refine⟨_,rfl, ?_⟩;replace bA:=m_ (Kd.bC (Kd.bC bA.1 aa) hb);replace bN:=m_ (Kd.ax (Kd.ax bN.1 aa) hb);replace U7:=m_ (aI U7.1 hb);replace HB:=m_ (aA aj hb);clear hb))
        first | go_roundg k2 | ((try subst U9);go_roundg k2)
        case measure=>have:=bk.1;have:=cj.1;omega
        case rel=>exact⟨(fJ),(wrap64 (e7+1)),aV,H',⟨by have:=bk.1;have:=cj.1;omega⟩,⟨Kd.bC bA.1 aa⟩,⟨Kd.ax bN.1 aa⟩,⟨ay U7.1 aa⟩,⟨aj⟩⟩
      ·rw[if_neg c15]at H
       have iW:=decide_eq_false c15;clear c15;obtain⟨qE,H⟩:=bf H;have CT:=m_ qE;clear qE;obtain⟨Vd,Vu,H⟩: ∃Vd:List (List Int),ah (Vd=(bU++[fJ]))∧(fD.l0 k2 Vd (U8) (wrap64 (bL+1)) ai af)=some r:=⟨_,⟨rfl⟩,H⟩;have H':=m_ H;clear H;obtain⟨xh,xj,CU⟩:=Kd.cQ bN.1;subst CU;go_wp2_with (first | ((with_reducible refine eP (b:= .append) (xs:= #[.tmp 53, .tmp 55]) rfl ?_);at_builtin;refine Kd.oO (Kd.slice 2 (Kd.int .i64)) (w0:=w) w.heap.size rfl (.tmp 53) (.tmp 55) 24 29 (.slice none 0 0) 24 rfl Try.underlying24 nr rfl (by decide) (by omega) u3 bU fJ [.slice xh fJ.length xj] (fun _=>True) (fun k_=>some k_=(.slice xh fJ.length xj:Value).ownBlock) rfl rfl ?aP (fun k_ cl=>((Kd.bn (ok':=fun k_=>((fun _=>True)) k_∧some k_≠(u3:Value).ownBlock) (Kd.iC (bN.1) (Kd.gV bA.1) (by decide)) (fun k_ hk=>⟨trivial,hk.2⟩))).1 k_ cl.symm) ?aF ?aO ?aB ?aS ?aL ?_;(case aP=>exact Kd.kP (Kd.bn (Kd.lX rfl (Kd.bn (ok':=fun k_=>((fun _=>True)) k_∧some k_≠(u3:Value).ownBlock) (Kd.iC (bN.1) (Kd.gV bA.1) (by decide)) (fun k_ hk=>⟨trivial,hk.2⟩))) (fun _ h_=>h_)));(case aB=>exact aj);(case aF=>exact(fun _ _=>trivial));(case aO=>exact(Kd.bC (Kd.cX bA.1 (fun k_ hk=>⟨trivial,fun e_=>hk e_⟩)) aa));(case aS=>exact(aD aj));(case aL=>have:=CT.1;omega);intro VL BF ho hb hg hat;rw[← Vu.1]at ho;replace U7:=m_ (eI (ay U7.1 aa) hg (Kd.jm bA.1 U7.1 (by decide)));replace HB:=m_ (hb);have Vz:=m_ (ho);clear bA bN;clear ho hb hg hat))
       first | go_roundg k2 | ((try subst U9);go_roundg k2)
       case measure=>have:=bk.1;have:=cj.1;omega
       case rel=>exact⟨(Vd),(wrap64 (bL+1)),aV,H',⟨by have:=bk.1;have:=cj.1;omega⟩,⟨Kd.bC Vz.1 aa⟩,⟨ay U7.1 aa⟩,⟨aj⟩⟩
   ·rw[if_neg c6]at H
    have iA:=decide_eq_false c6;clear c6;obtain rfl:=Option.some.inj H;go_wp2;go_ret;exact⟨_,bT,(Kd.bC bA.1 aa),aj⟩

/-! ### spec_l02Product: function 232 -/
mutual
def dR.l0:Nat→List (List Int)→List (List Int)→List (List Int)→Int→Option ((List (List Int)))
 | 0,_,_,_,_=>none
 | k+1,x0,x1,x5,x6=>if x6<(x0.length:Int) then (if 0≤(x1.length:Int) then (if ((x1.length:Int):Int).toNat≤35184372088832 then (dR.l1 k x0 x1 x5 x6 (List.replicate ((x1.length:Int):Int).toNat 0) 0) else (none)) else (none)) else (some x5)
def dR.l1:Nat→List (List Int)→List (List Int)→List (List Int)→Int→List Int→Int→Option ((List (List Int)))
 | 0,_,_,_,_,_,_=>none
 | k+1,x0,x1,x5,x6,x7,x8=>if x8<(x1.length:Int) then (if 0≤x6 then (if x6<(x0.length:Int) then (if 0≤x8 then (if x8<((aG x0 x6).length:Int) then (if (rd (aG x0 x6) x8)=0 then (dR.l1 k x0 x1 x5 x6 x7 (wrap64 (x8+1))) else (dR.l2 k x0 x1 x5 x6 x7 x8 0)) else (none)) else (none)) else (none)) else (none)) else (if x5.length<5864062014805 then (dR.l0 k x0 x1 (x5++[x7]) (wrap64 (x6+1))) else (none))
def dR.l2:Nat→List (List Int)→List (List Int)→List (List Int)→Int→List Int→Int→Int→Option ((List (List Int)))
 | 0,_,_,_,_,_,_,_=>none
 | k+1,x0,x1,x5,x6,x7,x8,x9=>if x9<(x1.length:Int) then (if 0≤x9 then (if x9<(x7.length:Int) then (if 0≤x6 then (if x6<(x0.length:Int) then (if 0≤x8 then (if x8<((aG x0 x6).length:Int) then (if x8<(x1.length:Int) then (if x9<((aG x1 x8).length:Int) then (dR.l2 k x0 x1 x5 x6 (x7.set (x9:Int).toNat (wrap64 ((rd x7 x9)+(wrap64 ((rd (aG x0 x6) x8)*(rd (aG x1 x8) x9)))))) x8 (wrap64 (x9+1))) else (none)) else (none)) else (none)) else (none)) else (none)) else (none)) else (none)) else (none)) else (dR.l1 k x0 x1 x5 x6 x7 (wrap64 (x8+1)))
end
def dR.f (k:Nat) (l0:List (List Int)) (l1:List (List Int)):Option ((List (List Int))):=dR.l0 k l0 l1 (([]:List (List Int))) 0
def dR.wU:Bool×List (List Nat×List Nat):=(true,[([],[]),([],[]),([],[]),([],[]),([2,3],[2,3]),([4],[4]),([],[]),([],[]),([6,7],[6,7]),([8],[8]),([],[]),([9,10],[9,10]),([11],[11]),([],[]),([],[]),([13,14],[13,14]),([15],[15]),([],[]),([16,17],[16,17]),([18],[18]),([12,19],[12,19]),([5,20],[5,20]),([0,1,0,1,2,3,4,5,6,7,8,9,10,11,12,13,14,15,16,17,18,19,20,21],[0,1]),([22,21,0,1,2,3,4,5,6,7,8,9,10,11,12,13,14,15,16,17,18,19,20,21],[21,22])])
def dR.B0:List Nat:=[0,0,0,0,12,28,0,0,192,448,0,1984,4032,0,0,24576,57344,0,253952,516096,1048512,2097148,4194303,8388607]
theorem dR.zu:fu .any (opsOf Try.f232 13)=dR.wU:=by kernel_rfl
theorem dR.zw:jv dR.wU.2 dR.B0=true:=by kernel_rfl
set_option maxHeartbeats 8000000 in
set_option maxRecDepth 100000 in
theorem dR.calls (k:Nat) (A0:Option Addr) (c0:Nat) (l0:List (List Int)) (A1:Option Addr) (c1:Nat) (l1:List (List Int)) (r:List (List Int)) (w:World) (hr0:Kd.C (Kd.slice 2 (Kd.int .i64)) w A0 l0.length l0) (hc0:l0.length≤c0) (hr1:Kd.C (Kd.slice 2 (Kd.int .i64)) w A1 l1.length l1) (hc1:l1.length≤c1) (h:dR.f k l0 l1=some r):
  Calls Try.prog 232 #[.slice A0 l0.length c0, .slice A1 l1.length c1] w fun e w'=>∃cP:Value,e= .returned (cP)∧Kd.S (Kd.slice 2 (Kd.int .i64)) 29 w' w.heap.size (fun _=>True) cP r∧Below w.heap.size w w':=by
 have dm:=m_ hr0;have eW:=m_ hc0;clear hr0 hc0;have dU:=m_ hr1;have gF:=m_ hc1;clear hr1 hc1;have HB:=m_ (Below.refl w.heap.size w);have H:=h;unfold dR.f at H;clear h;obtain⟨Vn,V4,H⟩: ∃Vn:List (List Int),ah (Vn=(([]:List (List Int))))∧(dR.l0 k l0 l1 Vn 0)=some r:=⟨_,⟨rfl⟩,H⟩;have H':=m_ H;clear H;go_enter Try.func232,Try.ntmps232;go_wp2_with (first | ((with_reducible refine bp (N:=10) rfl ?_);refine Kd.xk (Kd.slice 2 (Kd.int .i64)) _ 29 ?hg (N:=10) ?hd (xs:=([]:List (List Int))) (inner:=[]) (ok:=fun _=>True) (bX:=fun _=>True) ?hr ?hp (fun _ hk=>hk) trivial (Below.refl _ _) (Nat.le_refl _) (by simp) ?_;(case hd=>rfl);(case hg=>rfl);(case hr=>first | (go_simp;done) | (go_simp;rfl));(case hp=>exact(aZ.none _ _));intro WD w3 gQ hb cy cA;clear cy cA;rw[← V4.1]at gQ;have V9:=m_ (Kd.iB gQ (aD aq));replace HB:=m_ (aA aq hb);clear hb gQ));go_loopg [5,6] k (fun kq v5 v6 w'=>∃(bL:List (List Int)) (bZ:Int),v6= .int .i64 bZ∧ah (dR.l0 kq l0 l1 bL bZ=some r)∧ah (kq≤k)∧ah (Kd.S (Kd.slice 2 (Kd.int .i64)) 29 w' w.heap.size (fun _=>True) v5 bL)∧ah (Below w.heap.size w w'))
 case atStart=>exact⟨(Vn),(0),aV,H',⟨Nat.le_refl _⟩,⟨Kd.bC V9.1 aa⟩,⟨aq⟩⟩
 case round=>
  clear H';obtain⟨bL,bZ,rfl,HA,bk,aU,HB⟩:=hrel;cases gk with
  | zero=>exact absurd HA.1 (by simp[dR.l0])
  | succ k1=>
   have H:=HA.1;clear HA;simp only[dR.l0]at H
   by_cases c5:bZ<(l0.length:Int)
   ·rw[if_pos c5]at H
    have eM:=decide_eq_true c5;clear c5;obtain⟨c6,H⟩:=bf H;have iA:=eq_true c6;have mO:=decide_eq_true c6;clear c6;obtain⟨c7,H⟩:=bf H;have iX:=eq_true c7;have lR:=decide_eq_true c7;clear c7;obtain⟨Vo,Wq,H⟩: ∃Vo:List Int,ah (Vo=(List.replicate ((l1.length:Int):Int).toNat 0))∧(dR.l1 k1 l0 l1 bL bZ Vo 0)=some r:=⟨_,⟨rfl⟩,H⟩;have H':=m_ H;clear H;go_wp2_with (first | ((with_reducible refine bp (N:=19) rfl ?_);refine Kd.zn (Kd.int .i64) _ 2 rfl (N:=19) rfl 29 _ _ rfl (l1.length:Int) rfl rfl Try.underlying29 (.int .i64 0) 8 fB rfl (by decide) (by omega) 0 (ok:=fun _=>True) (bX:=fun _=>True) rfl (fun _ hk=>hk) trivial (aE) (Nat.le_trans (Nat.mul_le_mul_right _ (aE:(l1.length:Int).toNat≤35184372088832)) (by omega)) (Below.refl _ _) (Nat.le_refl _) ?_;intro Vp w8 lY hb cy cA;clear cy cA;rw[← Wq.1]at lY;replace aU:=m_ (Kd.jj (Kd.bC aU.1 aa) (Kd.cx lY) hb);have Wg:=m_ (Kd.cJ lY (aD aq));replace HB:=m_ (aA aq hb);clear hb lY));go_loopg [8] k1 (fun kq v8 w'=>∃(cY:List Int) (eG:Int),v8= .int .i64 eG∧ah (dR.l1 kq l0 l1 bL bZ cY eG=some r)∧ah (kq≤k1)∧ah (Kd.S (Kd.slice 2 (Kd.int .i64)) 29 w' w.heap.size (fun k_=>some k_≠(Vp:Value).ownBlock) u5 bL)∧ah (Kd.R (Kd.int .i64) 2 w' w.heap.size (fun _=>True) Vp cY)∧ah (Below w.heap.size w w'))
    case atStart=>exact⟨(Vo),(0),aV,H',⟨Nat.le_refl _⟩,⟨by(with_reducible repeat (first | apply Kd.fU | apply Kd.fV | apply Kd.e8));exact Kd.cX aU.1 (fun _ hk=>hk.2)⟩,⟨Kd.ax Wg.1 aa⟩,⟨aq⟩⟩
    case round=>
     clear H';obtain⟨cY,eG,rfl,HA,cj,aU,cN,HB⟩:=hrel;cases gk with
     | zero=>exact absurd HA.1 (by simp[dR.l1])
     | succ k2=>
      have H:=HA.1;clear HA;simp only[dR.l1]at H
      by_cases c10:eG<(l1.length:Int)
      ·rw[if_pos c10]at H
       have mI:=decide_eq_true c10;clear c10;obtain⟨c11,H⟩:=bf H;have jw:=decide_eq_true c11;clear c11;obtain⟨c12,H⟩:=bf H;have kL:=decide_eq_true c12;clear c12;obtain⟨c13,H⟩:=bf H;have jX:=decide_eq_true c13;clear c13;obtain⟨c14,H⟩:=bf H;have kC:=decide_eq_true c14;clear c14
       by_cases c15:(rd (aG l0 bZ) eG)=0
       ·rw[if_pos c15]at H
        obtain⟨iW,sE⟩:=cF c15;clear c15;have H':=m_ H;clear H;have Ve:0≤(bZ:Int):=aE;have U9:bZ<(l0.length:Int):=aE;obtain⟨VE,Wf,V5,Vw,Vd,Vi,Vk⟩:=eX dm.1 bZ Ve U9;cases Vw;(try replace Vd:=(HB.1.cell (World.block_lt_of_cell? w _ Vd)).trans Vd);have VD:=m_ Vk;have Ws:=m_ Vi;clear Vk Vi;replace Ve:=eq_true Ve;replace U9:=eq_true U9;have Va:0≤(eG:Int):=aE;have Vb:eG<((aG l0 bZ).length:Int):=aE;obtain⟨Wh,VG,Vc⟩:=Kd.cv VD.1 eG Va Vb;cases VG;(try replace Vc:=(HB.1.cell (World.block_lt_of_cell? w _ Vc)).trans Vc);replace Va:=eq_true Va;replace Vb:=eq_true Vb;go_wp2;go_roundg k2
        case measure=>have:=bk.1;have:=cj.1;omega
        case rel=>exact⟨(cY),(wrap64 (eG+1)),aV,H',⟨by have:=bk.1;have:=cj.1;omega⟩,⟨Kd.bC aU.1 aa⟩,⟨Kd.ax cN.1 aa⟩,⟨aq⟩⟩
       ·rw[if_neg c15]at H
        obtain⟨iW,sE⟩:=cC c15;have H':=m_ H;clear H;have Ve:0≤(bZ:Int):=aE;have U9:bZ<(l0.length:Int):=aE;obtain⟨VE,Wf,V5,Vw,Vd,Vi,Vk⟩:=eX dm.1 bZ Ve U9;cases Vw;(try replace Vd:=(HB.1.cell (World.block_lt_of_cell? w _ Vd)).trans Vd);have VD:=m_ Vk;have Ws:=m_ Vi;clear Vk Vi;replace Ve:=eq_true Ve;replace U9:=eq_true U9;have Va:0≤(eG:Int):=aE;have Vb:eG<((aG l0 bZ).length:Int):=aE;obtain⟨Wh,VG,Vc⟩:=Kd.cv VD.1 eG Va Vb;cases VG;(try replace Vc:=(HB.1.cell (World.block_lt_of_cell? w _ Vc)).trans Vc);replace Va:=eq_true Va;replace Vb:=eq_true Vb;go_wp2;go_loopg [9] k2 (fun kq v9 w'=>∃(U8:List Int) (U7:Int),v9= .int .i64 U7∧ah (dR.l2 kq l0 l1 bL bZ U8 eG U7=some r)∧ah (kq≤k2)∧ah (Kd.S (Kd.slice 2 (Kd.int .i64)) 29 w' w.heap.size (fun k_=>some k_≠(Vp:Value).ownBlock) u5 bL)∧ah (Kd.R (Kd.int .i64) 2 w' w.heap.size (fun _=>True) Vp U8)∧ah (Below w.heap.size w w'))
        case atStart=>exact⟨(cY),(0),aV,H',⟨Nat.le_refl _⟩,⟨Kd.bC aU.1 aa⟩,⟨Kd.ax cN.1 aa⟩,⟨aq⟩⟩
        case round=>
         clear H';obtain⟨U8,U7,rfl,HA,eF,aU,cN,HB⟩:=hrel;cases gk with
         | zero=>exact absurd HA.1 (by simp[dR.l2])
         | succ k3=>
          have H:=HA.1;clear HA;simp only[dR.l2]at H
          by_cases c16:U7<(l1.length:Int)
          ·rw[if_pos c16]at H
           have m5:=decide_eq_true c16;clear c16;obtain⟨c17,H⟩:=bf H;have uz:=decide_eq_true c17;clear c17;obtain⟨c18,H⟩:=bf H;have oG:=decide_eq_true c18;clear c18;obtain⟨c19,H⟩:=bf H;have mC:=decide_eq_true c19;clear c19;obtain⟨lE,H⟩:=bf H;have yN:=decide_eq_true lE;clear lE;obtain⟨eV,H⟩:=bf H;have m6:=decide_eq_true eV;clear eV;obtain⟨gi,H⟩:=bf H;have pJ:=decide_eq_true gi;clear gi;obtain⟨lN,H⟩:=bf H;have BK:=decide_eq_true lN;clear lN;obtain⟨jx,H⟩:=bf H;have wN:=decide_eq_true jx;clear jx;obtain⟨Vl,V0,H⟩: ∃Vl:List Int,ah (Vl=(U8.set (U7:Int).toNat (wrap64 ((rd U8 U7)+(wrap64 ((rd (aG l0 bZ) eG)*(rd (aG l1 eG) U7)))))))∧(dR.l2 k3 l0 l1 bL bZ Vl eG (wrap64 (U7+1)))=some r:=⟨_,⟨rfl⟩,H⟩;have H':=m_ H;clear H
           try go_wp2
           replace aU:=m_ (Kd.e8 aU.1);replace cN:=m_ (Kd.cn cN.1);replace HB:=m_ (fe HB.1);obtain⟨WB,Wu,V2⟩:=Kd.cQ cN.1;subst V2;have VA:0≤(U7:Int):=aE;have VB:U7<(U8.length:Int):=aE;obtain⟨Wt,VY,VC⟩:=Kd.cv (Kd.cK cN.1).2.2 U7 VA VB;cases VY;replace VA:=eq_true VA;replace VB:=eq_true VB;have Vt:0≤(bZ:Int):=aE;have Vq:bZ<(l0.length:Int):=aE;obtain⟨V1,WC,Wl,V8,Vj,VK,VT⟩:=eX dm.1 bZ Vt Vq;have VN:=Vj;obtain rfl:VE=V1:=(by injection V8);(try replace Vj:=(HB.1.cell (World.block_lt_of_cell? w _ Vj)).trans Vj);have VJ:=m_ VT;have Wv:=m_ VK;clear VT VK;replace Vt:=eq_true Vt;replace Vq:=eq_true Vq;have Vu:0≤(eG:Int):=aE;have VI:eG<((aG l0 bZ).length:Int):=aE;obtain⟨VS,Wj,Vh⟩:=Kd.cv VJ.1 eG Vu VI;have VP:=Vh;cases Wj;(try replace Vh:=(HB.1.cell (World.block_lt_of_cell? w _ Vh)).trans Vh);replace Vu:=eq_true Vu;replace VI:=eq_true VI;have VF:0≤(eG:Int):=aE;have Vz:eG<(l1.length:Int):=aE;obtain⟨Wc,Ww,VZ,V7,Vg,VQ,VR⟩:=eX dU.1 eG VF Vz;have VU:=Vg;cases V7;(try replace Vg:=(HB.1.cell (World.block_lt_of_cell? w _ Vg)).trans Vg);have VL:=m_ VR;have Wy:=m_ VQ;clear VR VQ;replace VF:=eq_true VF;replace Vz:=eq_true Vz;have Vv:0≤(U7:Int):=aE;have Vr:U7<((aG l1 eG).length:Int):=aE;obtain⟨VX,We,Vf⟩:=Kd.cv VL.1 U7 Vv Vr;have VW:=Vf;cases We;(try replace Vf:=(HB.1.cell (World.block_lt_of_cell? w _ Vf)).trans Vf);replace Vv:=eq_true Vv;replace Vr:=eq_true Vr;have Vy:0≤(U7:Int):=aE;have VH:(U7:Int)<((U8.length:Int):Int):=aE;obtain⟨Vx,zo,zq,VM,Wn,WA,VV⟩:=Kd.sM cN.1 (by omega);(first | cases zq | (injection zq with dK iP iQ;(first | subst dK | (injection dK with dK;subst dK));subst iQ;clear iP));have Wx:=m_ VM;have Wm:=m_ VV;clear VM Wn VV;(first | simp only[add_plain]at VC | skip);obtain⟨V3,Wa⟩:=Kd.sN 0 cN.1 (U7:Int) Vy VH;replace Vy:=eq_true Vy;replace VH:=eq_true VH;have Vs:=Kd.F8 cN.1 (U7:Int) (wrap64 ((rd U8 U7)+(wrap64 ((rd (aG l0 bZ) eG)*(rd (aG l1 eG) U7)))));rw[← V0.1]at Vs;have VO:=m_ Vs;clear Vs;refine gH (n:=24) (S:=fun w'=>w'.cell? ⟨Vx,(U7).toNat,none⟩=some (.int .i64 (rd U8 U7))∧w'.cell? (VE.add (bZ).toNat)=some (.slice (some VS) (aG l0 bZ).length Wl)∧w'.cell? (VS.add (eG).toNat)=some (.int .i64 (rd (aG l0 bZ) eG))∧w'.cell? (Wc.add (eG).toNat)=some (.slice (some VX) (aG l1 eG).length VZ)∧w'.cell? (VX.add (U7).toNat)=some (.int .i64 (rd (aG l1 eG) U7))) (ds:=[23]) #[false,false,false,false,false,false,false,false,false,false,false,false,false,false,false,false,false,false,false,false,false,false,false,false] (by kernel_rfl) rfl rfl ⟨VC,((HB.1.cell (World.block_lt_of_cell? _ _ VN)).trans VN),((HB.1.cell (World.block_lt_of_cell? _ _ VP)).trans VP),((HB.1.cell (World.block_lt_of_cell? _ _ VU)).trans VU),((HB.1.cell (World.block_lt_of_cell? _ _ VW)).trans VW)⟩ (fun hHeld=> ?_);refine iH dR.zu dR.zw (fun dn ic=> ?_);generalize wr.drew=qK at aU cN HB Wm VO VJ VL Wa V3 VC Vj Vh Vg Vf hHeld ⊢;refine aJ 0 24 40 1 ?_;refine aJ 1 24 41 3 ?_;refine aJ 2 24 42 7 ?_;refine aJ 3 24 43 15 ?_;refine aJ 4 24 44 31 ?_;refine aJ 6 24 46 95 ?_;refine aJ 7 24 47 223 ?_;refine aJ 8 24 48 479 ?_;refine aJ 10 24 50 1503 ?_;refine aJ 13 24 53 9695 ?_;refine aJ 14 24 54 26079 ?_;refine aJ 15 24 55 58847 ?_;refine aJ 17 24 57 189919 ?_;refine cW 5 24 45 189951 hHeld ?_;refine cW 9 24 49 190463 hHeld ?_;refine aJ 11 24 51 192511 ?_;refine cW 12 24 52 196607 hHeld ?_;refine cW 16 24 56 262143 hHeld ?_;refine aJ 18 24 58 524287 ?_;refine cW 19 24 59 1048575 hHeld ?_;refine aJ 20 24 60 2097151 ?_;refine aJ 21 24 61 4194303 ?_;refine aJ 22 24 62 8388607 ?_;refine qH (i:=23) (N:=none) #[true,true,true,true,true,true,true,true,true,true,true,true,true,true,true,true,true,true,true,true,true,true,true,true] rfl rfl (pT dn.1 (by kernel_rfl)) (by decide) (fun K hK=> ?_);refine qI (w1:= ?_) (by rfl) rfl ?_ ?_
           rotate_left
           ·go_simp
            rfl
           refine hK.out _ _ ?_;clear hK K;refine gI (iI dn.1 (by kernel_rfl)) ?_
           try go_wp2
           go_roundg k3
           case measure=>have:=bk.1;have:=cj.1;have:=eF.1;omega
           case rel=>exact⟨(Vl),(wrap64 (U7+1)),aV,H',⟨by have:=bk.1;have:=cj.1;have:=eF.1;omega⟩,⟨by(with_reducible repeat (first | apply Kd.fU | apply Kd.fV | apply Kd.e8));exact Kd.cX (Kd.dW (p:=⟨Vx,(U7:Int).toNat,none⟩) (Kd.cX aU.1 (fun k_ hk=>(⟨hk,fun e_=>hk (by rw[e_];rfl)⟩:_∧k_≠Vx))) (fun _ hk=>hk.2) (.int .i64 (wrap64 ((rd U8 U7)+(wrap64 ((rd (aG l0 bZ) eG)*(rd (aG l1 eG) U7))))))) (fun _ hk=>hk.1)⟩,⟨by(with_reducible repeat (first | apply Kd.cL | apply Kd.cM | apply Kd.cn));exact VO.1⟩,⟨aj⟩⟩
          ·rw[if_neg c16]at H
           have m5:=decide_eq_false c16;clear c16;have H':=m_ H;clear H;go_wp2;go_roundg k3
           case measure=>have:=bk.1;have:=cj.1;have:=eF.1;omega
           case rel=>exact⟨(U8),(wrap64 (eG+1)),aV,H',⟨by have:=bk.1;have:=cj.1;have:=eF.1;omega⟩,⟨Kd.bC aU.1 aa⟩,⟨Kd.ax cN.1 aa⟩,⟨aq⟩⟩
      ·rw[if_neg c10]at H
       have mI:=decide_eq_false c10;clear c10;obtain⟨mE,H⟩:=bf H;have Wp:=m_ mE;clear mE;obtain⟨Vm,V6,H⟩: ∃Vm:List (List Int),ah (Vm=(bL++[cY]))∧(dR.l0 k2 l0 l1 Vm (wrap64 (bZ+1)))=some r:=⟨_,⟨rfl⟩,H⟩;have H':=m_ H;clear H;obtain⟨p4,oP,p5⟩:=Kd.cQ cN.1;subst p5;go_wp2_with (first | ((with_reducible refine eP (b:= .append) (xs:= #[.tmp 63, .tmp 65]) rfl ?_);at_builtin;refine Kd.oO (Kd.slice 2 (Kd.int .i64)) (w0:=w) w.heap.size rfl (.tmp 63) (.tmp 65) 24 29 (.slice none 0 0) 24 rfl Try.underlying24 nr rfl (by decide) (by omega) u5 bL cY [.slice p4 cY.length oP] (fun _=>True) (fun k_=>some k_=(.slice p4 cY.length oP:Value).ownBlock) rfl rfl ?aP (fun k_ cl=>((Kd.bn (ok':=fun k_=>((fun _=>True)) k_∧some k_≠(u5:Value).ownBlock) (Kd.iC (cN.1) (Kd.gV aU.1) (by decide)) (fun k_ hk=>⟨trivial,hk.2⟩))).1 k_ cl.symm) ?aF ?aO ?aB ?aS ?aL ?_;(case aP=>exact Kd.kP (Kd.bn (Kd.lX rfl (Kd.bn (ok':=fun k_=>((fun _=>True)) k_∧some k_≠(u5:Value).ownBlock) (Kd.iC (cN.1) (Kd.gV aU.1) (by decide)) (fun k_ hk=>⟨trivial,hk.2⟩))) (fun _ h_=>h_)));(case aB=>exact aq);(case aF=>exact(fun _ _=>trivial));(case aO=>exact(Kd.bC (Kd.cX aU.1 (fun k_ hk=>⟨trivial,fun e_=>hk e_⟩)) aa));(case aS=>exact(aD aq));(case aL=>have:=Wp.1;omega);intro Wz oz ho hb hg hat;rw[← V6.1]at ho;replace HB:=m_ (hb);have Wi:=m_ (ho);clear aU cN;clear ho hb hg hat));go_roundg k2
       case measure=>have:=bk.1;have:=cj.1;omega
       case rel=>exact⟨(Vm),(wrap64 (bZ+1)),aV,H',⟨by have:=bk.1;have:=cj.1;omega⟩,⟨Kd.bC Wi.1 aa⟩,⟨aq⟩⟩
   ·rw[if_neg c5]at H
    have eM:=decide_eq_false c5;clear c5;obtain rfl:=Option.some.inj H;go_wp2;go_ret;exact⟨_,bT,(Kd.bC aU.1 aa),aq⟩

/-! ### spec_l02Straight: function 185 -/
mutual
def fQ.l0:Nat→Int→List (List Int)→List Int→List (List Int)→Option (List Int)
 | 0,_,_,_,_=>none
 | k+1,x1,x5,x6,x7=>if x1>0 then (fQ.l1 k x1 x5 x6 x7 0 0) else (some x6)
def fQ.l1:Nat→Int→List (List Int)→List Int→List (List Int)→Int→Int→Option (List Int)
 | 0,_,_,_,_,_,_=>none
 | k+1,x1,x5,x6,x7,x8,x9=>if x9<(x7.length:Int) then (if 0≤x9 then (if x9<((aG x7 x9).length:Int) then (fQ.l1 k x1 x5 x6 x7 (wrap64 (x8+(rd (aG x7 x9) x9))) (wrap64 (x9+1))) else (none)) else (none)) else (if x6.length<17592186044416 then ((some (x6++[x8]:List Int)).bind fun p6=>(if x1>1 then ((dR.f k x7 x5).bind fun vn=>(fQ.l0 k (wrap64 (x1 - 1)) x5 p6 vn)) else (fQ.l0 k (wrap64 (x1 - 1)) x5 p6 x7))) else (none))
end
def fQ.f (k:Nat) (ai:Int) (af:List (List Int)) (a1:Int):Option (List Int):=(fD.f k ai af).bind fun kQ=>(fQ.l0 k a1 kQ (([]:List Int)) kQ)
set_option maxHeartbeats 8000000 in
set_option maxRecDepth 100000 in
theorem fQ.calls (k:Nat) (ai:Int) (aT:Option Addr) (aQ:Nat) (af:List (List Int)) (a1:Int) (r:List Int) (w:World) (cG:Kd.C (Kd.slice 2 (Kd.int .i64)) w aT af.length af) (cH:af.length≤aQ) (h:fQ.f k ai af a1=some r):
  Calls Try.prog 185 #[.agg #[.int .i64 ai, .slice aT af.length aQ], .int .i64 a1] w fun e w'=>∃cP:Value,e= .returned (cP)∧Kd.R (Kd.int .i64) 2 w' w.heap.size (fun _=>True) cP r∧Below w.heap.size w w':=by
 have eH:=Try.underlying26;have bz:=m_ cG;have bH:=m_ cH;clear cG cH;have HB:=m_ (Below.refl w.heap.size w);have H:=h;unfold fQ.f at H;clear h;obtain⟨kQ,A3,H⟩:=bu H;obtain⟨Vb,Vv,H⟩: ∃Vb:List Int,ah (Vb=(([]:List Int)))∧(fQ.l0 k a1 kQ Vb kQ)=some r:=⟨_,⟨rfl⟩,H⟩;have H':=m_ H;clear H;go_enter Try.func185,Try.ntmps185;go_wp2_with (first | ((with_reducible refine bp (N:=2) rfl ?_);refine bQ (N:=2) (cs:= #[.int .i64 ai, .slice aT af.length aQ]) (t:=26) ?_;intro Ve hg w5 az hb;have U7:=m_ (az);have VI:=m_ ((by rw[hg];exact(aD aq):w.heap.size≤Ve));have VL:=m_ ((by rw[hg];exact(aD aq):w.heap.size≤Ve));replace HB:=m_ (aA aq hb);clear hb az hg;have y6:=aK U7.1;have y7:=aN U7.1;have y8:=av U7.1 0;have y9:=av U7.1 1) | ((with_reducible refine bE (f:=196) rfl ?_);refine bF (some 11) Try.func196 #[.agg #[.int .i64 ai, .slice aT af.length aQ]] ?_;(with_reducible refine(fD.calls k ai _ _ af kQ _ ?ak ?au A3.1).mono ?_);(case ak=>exact Kd.aC (Kd.aC bz.1 HB.1) aa);(case au=>exact bH.1);rintro e w7 ⟨Vj,rfl,aM,hb⟩;refine⟨_,rfl, ?_⟩;have Vd:=m_ (Kd.iB aM (aD aj));replace U7:=m_ (aI U7.1 hb);replace HB:=m_ (aA aj hb);clear hb;(try clear aM)) | ((with_reducible refine bp (N:=12) rfl ?_);refine Kd.fA (Kd.int .i64) _ 2 ?hg (N:=12) ?hd (xs:=([]:List Int)) (inner:=[]) (ok:=fun _=>True) (bX:=fun _=>True) ?hr ?hp (fun _ hk=>hk) trivial (Below.refl _ _) (Nat.le_refl _) (by simp) ?_;(case hd=>rfl);(case hg=>rfl);(case hr=>first | (go_simp;done) | (go_simp;rfl));(case hp=>exact(aZ.none _ _));intro VC w8 lY hb cy cA;clear cy cA;rw[← Vv.1]at lY;replace Vd:=m_ (Kd.jj (Kd.bC Vd.1 aa) (Kd.cx lY) hb);have Vu:=m_ (Kd.cJ lY (aD aj));replace U7:=m_ (aI U7.1 hb);replace HB:=m_ (aA aj hb);clear hb lY;have oq:=aK U7.1;have ot:=aN U7.1;have ou:=av U7.1 0;have oy:=av U7.1 1));go_loopg [1,6,7] k (fun kq v1 v6 v7 w'=>∃(U8:Int) (bZ:List Int) (fO:List (List Int)),v1= .int .i64 U8∧ah (fQ.l0 kq U8 kQ bZ fO=some r)∧ah (kq≤k)∧ah (Kd.S (Kd.slice 2 (Kd.int .i64)) 29 w' w.heap.size (fun k_=>True∧some k_≠(v6:Value).ownBlock) Vj kQ)∧ah (Kd.R (Kd.int .i64) 2 w' w.heap.size (fun _=>True) v6 bZ)∧ah (Kd.S (Kd.slice 2 (Kd.int .i64)) 29 w' w.heap.size (fun k_=>True∧some k_≠(v6:Value).ownBlock) v7 fO)∧ah (w'.heap[Ve]? =some (.cells #[.int .i64 ai,(.slice aT af.length aQ)] 26 (0,0)))∧ah (Below w.heap.size w w'))
 case atStart=>exact⟨(a1),(Vb),(kQ),aV,H',⟨Nat.le_refl _⟩,⟨by(with_reducible repeat (first | apply Kd.fU | apply Kd.fV | apply Kd.e8));exact Kd.cX Vd.1 (fun _ hk=>⟨trivial,hk.2⟩)⟩,⟨Kd.ax Vu.1 aa⟩,⟨by(with_reducible repeat (first | apply Kd.fU | apply Kd.fV | apply Kd.e8));exact Kd.cX Vd.1 (fun _ hk=>⟨trivial,hk.2⟩)⟩,⟨ay U7.1 aa⟩,⟨aj⟩⟩
 case round=>
  clear H';obtain⟨U8,bZ,fO,rfl,HA,bk,aU,bN,cN,U7,HB⟩:=hrel;cases gk with
  | zero=>exact absurd HA.1 (by simp[fQ.l0])
  | succ k1=>
   have H:=HA.1;clear HA;simp only[fQ.l0]at H
   by_cases c12:U8>0
   ·rw[if_pos c12]at H
    have kL:=decide_eq_true c12;clear c12;have H':=m_ H;clear H;go_wp2;go_loopg [8,9] k1 (fun kq v8 v9 w'=>∃(eG:Int) (e7:Int),v8= .int .i64 eG∧v9= .int .i64 e7∧ah (fQ.l1 kq U8 kQ bZ fO eG e7=some r)∧ah (kq≤k1)∧ah (Kd.S (Kd.slice 2 (Kd.int .i64)) 29 w' w.heap.size (fun k_=>True∧some k_≠(u6:Value).ownBlock) Vj kQ)∧ah (Kd.R (Kd.int .i64) 2 w' w.heap.size (fun _=>True) u6 bZ)∧ah (Kd.S (Kd.slice 2 (Kd.int .i64)) 29 w' w.heap.size (fun k_=>True∧some k_≠(u6:Value).ownBlock) u7 fO)∧ah (w'.heap[Ve]? =some (.cells #[.int .i64 ai,(.slice aT af.length aQ)] 26 (0,0)))∧ah (Below w.heap.size w w'))
    case atStart=>exact⟨(0),(0),aV,aV,H',⟨Nat.le_refl _⟩,⟨Kd.bC aU.1 aa⟩,⟨Kd.ax bN.1 aa⟩,⟨Kd.bC cN.1 aa⟩,⟨ay U7.1 aa⟩,⟨aj⟩⟩
    case round=>
     clear H';obtain⟨eG,e7,rfl,rfl,HA,cj,aU,bN,cN,U7,HB⟩:=hrel;cases gk with
     | zero=>exact absurd HA.1 (by simp[fQ.l1])
     | succ k2=>
      have H:=HA.1;clear HA;simp only[fQ.l1]at H
      by_cases c13:e7<(fO.length:Int)
      ·rw[if_pos c13]at H
       have jX:=decide_eq_true c13;clear c13;obtain⟨c14,H⟩:=bf H;have kC:=decide_eq_true c14;clear c14;obtain⟨c15,H⟩:=bf H;have iW:=decide_eq_true c15;clear c15;have H':=m_ H;clear H;obtain⟨zF,zG,xm⟩:=Kd.eS cN.1;subst xm;have Vc:0≤(e7:Int):=aE;have Vf:e7<(fO.length:Int):=aE;obtain⟨VG,VF,VM,Vw,VB,Vk,Vl⟩:=eX (Kd.fo cN.1).2.2 e7 Vc Vf;cases Vw;obtain⟨VH,Vz,Vr,Vp⟩:=Kd.xo cN.1 [] e7 Vc (by first | exact Vf | exact aE | (have e_:=(Kd.fo cN.1).1;omega));obtain⟨VD,rfl,Vg⟩:=Vr;have Va:=Vp 0 _ rfl;rw[Nat.add_zero,show((Kd.slice 2 (Kd.int .i64))).sz=1 from rfl,Nat.mul_one]at Va;replace Va:=Option.some.inj (Va.symm.trans VB);rw[Va]at Vg;have VJ:=m_ (show Kd.R (Kd.int .i64) 2 _ _ _ _ (aG fO e7) from Vg);clear Va Vg;clear Vp Vz;have Vm:=m_ Vl;have VK:=m_ Vk;clear Vl Vk;replace Vc:=eq_true Vc;replace Vf:=eq_true Vf;have Vi:0≤(e7:Int):=aE;have Vh:e7<((aG fO e7).length:Int):=aE;obtain⟨VN,Vx,VO⟩:=Kd.cv (by repeat (first | (with_reducible exact Vm.1) | (with_reducible refine Kd.xp ?_ _) | (with_reducible refine Kd.xq ?_ _) | (with_reducible refine Kd.xw ?_) | exact Vm.1)) e7 Vi Vh;cases Vx;replace Vi:=eq_true Vi;replace Vh:=eq_true Vh;go_wp2;go_roundg k2
       case measure=>have:=bk.1;have:=cj.1;omega
       case rel=>exact⟨(wrap64 (eG+(rd (aG fO e7) e7))),(wrap64 (e7+1)),aV,aV,H',⟨by have:=bk.1;have:=cj.1;omega⟩,⟨Kd.bC aU.1 aa⟩,⟨Kd.ax bN.1 aa⟩,⟨Kd.bC cN.1 aa⟩,⟨ay U7.1 aa⟩,⟨aj⟩⟩
      ·rw[if_neg c13]at H
       have jX:=decide_eq_false c13;clear c13;obtain⟨c17,H⟩:=bf H;have Vo:=m_ c17;clear c17;obtain⟨p6,Vn,H⟩: ∃p6:List Int,ah (p6=(bZ++[eG]))∧(if U8>1 then ((dR.f k2 fO kQ).bind fun vn=>(fQ.l0 k2 (wrap64 (U8 - 1)) kQ p6 vn)) else (fQ.l0 k2 (wrap64 (U8 - 1)) kQ p6 fO))=some r:=⟨_,⟨rfl⟩,H⟩
       by_cases c18:U8>1
       ·rw[if_pos c18]at H
        have oG:=decide_eq_true c18;clear c18;obtain⟨vn,xx,H⟩:=bu H;have H':=m_ H;clear H;obtain⟨nM,mH,nN⟩:=Kd.eS cN.1;subst nN;go_wp2_with (first | ((with_reducible refine eP (b:= .append) (xs:= #[.tmp 33, .tmp 35]) rfl ?_);at_builtin;refine Kd.gA (Kd.int .i64) (w0:=w) w.heap.size rfl (.tmp 33) (.tmp 35) 29 2 (.int .i64 0) 8 rfl Try.underlying29 fB rfl (by decide) (by omega) u6 bZ eG [.int .i64 eG] (fun _=>True) (fun _=>False) rfl rfl ?aP (fun _ hk=>hk.elim) ?aF ?aO ?aB ?aS ?aL ?_;(case aP=>exact rfl);(case aB=>exact aj);(case aF=>exact(fun _ _=>trivial));(case aO=>exact(Kd.ax bN.1 aa));(case aS=>exact(aD aj));(case aL=>have:=Vo.1;omega);intro Vq zH ho hb hg hat;rw[← Vn.1]at ho;replace aU:=m_ (Kd.tq (ok:=(fun _=>True)) (Kd.bC aU.1 aa) hg hat);replace cN:=m_ (Kd.tq (ok:=(fun _=>True)) (Kd.bC cN.1 aa) hg hat);replace U7:=m_ (eI (ay U7.1 aa) hg (Kd.gU bN.1 U7.1 (by decide)));replace HB:=m_ (hb);have U9:=m_ (ho);clear bN;clear ho hb hg hat;obtain⟨Vt,Vy,VA⟩:=Kd.eS aU.1;subst VA) | ((with_reducible refine bE (f:=232) rfl ?_);refine bF (some 41) Try.func232 #[.slice nM fO.length mH, .slice Vt kQ.length Vy] ?_;(with_reducible refine(dR.calls k2 _ _ fO _ _ kQ vn _ ?ak ?au ?ck ?cI xx.1).mono ?_);(case ak=>exact Kd.aC (Kd.fo cN.1).2.2 aa);(case au=>exact(Kd.fo cN.1).2.1);(case ck=>exact Kd.aC (Kd.fo aU.1).2.2 aa);(case cI=>exact(Kd.fo aU.1).2.1);rintro e qz ⟨VE,rfl,aM,hb⟩;refine⟨_,rfl, ?_⟩;have Vs:=m_ (Kd.iB (Kd.nT (Kd.nT (Kd.nT aM (Kd.tw (Kd.bC aU.1 aa))) (Kd.tw (Kd.bC cN.1 aa))) (Kd.cS (Kd.ax U9.1 aa))) (aD aj));replace aU:=m_ (Kd.jj (Kd.bC aU.1 aa) (Kd.oQ aM) hb);replace cN:=m_ (Kd.jj (Kd.bC cN.1 aa) (Kd.oQ aM) hb);replace U9:=m_ (Kd.ax (Kd.ax U9.1 aa) hb);replace U7:=m_ (aI U7.1 hb);replace HB:=m_ (aA aj hb);clear hb;(try clear aM)));go_roundg k2
        case measure=>have:=bk.1;have:=cj.1;omega
        case rel=>exact⟨(wrap64 (U8 - 1)),(p6),(vn),aV,H',⟨by have:=bk.1;have:=cj.1;omega⟩,⟨by(with_reducible repeat (first | apply Kd.fU | apply Kd.fV | apply Kd.e8));exact Kd.cX aU.1 (fun _ hk=>⟨trivial,hk.1.2⟩)⟩,⟨Kd.ax U9.1 aa⟩,⟨by(with_reducible repeat (first | apply Kd.fU | apply Kd.fV | apply Kd.e8));exact Kd.cX Vs.1 (fun _ hk=>⟨trivial,hk.2⟩)⟩,⟨ay U7.1 aa⟩,⟨aj⟩⟩
       ·rw[if_neg c18]at H
        have oG:=decide_eq_false c18;clear c18;have H':=m_ H;clear H;obtain⟨xy,xz,xA⟩:=Kd.eS cN.1;subst xA;go_wp2_with (first | ((with_reducible refine eP (b:= .append) (xs:= #[.tmp 33, .tmp 35]) rfl ?_);at_builtin;refine Kd.gA (Kd.int .i64) (w0:=w) w.heap.size rfl (.tmp 33) (.tmp 35) 29 2 (.int .i64 0) 8 rfl Try.underlying29 fB rfl (by decide) (by omega) u6 bZ eG [.int .i64 eG] (fun _=>True) (fun _=>False) rfl rfl ?aP (fun _ hk=>hk.elim) ?aF ?aO ?aB ?aS ?aL ?_;(case aP=>exact rfl);(case aB=>exact aj);(case aF=>exact(fun _ _=>trivial));(case aO=>exact(Kd.ax bN.1 aa));(case aS=>exact(aD aj));(case aL=>have:=Vo.1;omega);intro Vq m7 ho hb hg hat;rw[← Vn.1]at ho;replace aU:=m_ (Kd.tq (ok:=(fun _=>True)) (Kd.bC aU.1 aa) hg hat);replace cN:=m_ (Kd.tq (ok:=(fun _=>True)) (Kd.bC cN.1 aa) hg hat);replace U7:=m_ (eI (ay U7.1 aa) hg (Kd.gU bN.1 U7.1 (by decide)));replace HB:=m_ (hb);have U9:=m_ (ho);clear bN;clear ho hb hg hat));go_roundg k2
        case measure=>have:=bk.1;have:=cj.1;omega
        case rel=>exact⟨(wrap64 (U8 - 1)),(p6),(fO),aV,H',⟨by have:=bk.1;have:=cj.1;omega⟩,⟨by(with_reducible repeat (first | apply Kd.fU | apply Kd.fV | apply Kd.e8));exact Kd.cX aU.1 (fun _ hk=>⟨trivial,hk.2⟩)⟩,⟨Kd.ax U9.1 aa⟩,⟨Kd.bC cN.1 aa⟩,⟨ay U7.1 aa⟩,⟨aj⟩⟩
   ·rw[if_neg c12]at H
    have kL:=decide_eq_false c12;clear c12;obtain rfl:=Option.some.inj H;go_wp2;go_ret;exact⟨_,bT,(Kd.ax bN.1 aa),aj⟩


/-! ### spec_StraightCounts: function 79 -/
def rX.f (k:Nat) (ai:Int) (af:List (List Int)) (a1:Int):Option (List Int×Int):=(iU.f k ai af a1 1).bind fun vo=>(if vo=0 then ((fQ.f k ai af a1).bind fun CV=>(some (CV,0))) else (some (([]:List Int),vo)))
set_option maxHeartbeats 8000000 in
set_option maxRecDepth 100000 in
theorem rX.calls (k:Nat) (ai:Int) (aT:Option Addr) (aQ:Nat) (af:List (List Int)) (a1:Int) (r1:List Int) (r2:Int) (w:World) (cG:Kd.C (Kd.slice 2 (Kd.int .i64)) w aT af.length af) (cH:af.length≤aQ) (h:rX.f k ai af a1=some (r1,r2)):
  Calls Try.prog 79 #[.agg #[.int .i64 ai, .slice aT af.length aQ], .int .i64 a1] w fun e w'=>∃cP:Value,e= .returned (.tuple #[cP, .int .i64 r2])∧Kd.R (Kd.int .i64) 2 w' w.heap.size (fun _=>True) cP r1∧Below w.heap.size w w':=by
 have eH:=Try.underlying26;have bz:=m_ cG;have bH:=m_ cH;clear cG cH;have HB:=m_ (Below.refl w.heap.size w);have H:=h;unfold rX.f at H;clear h;obtain⟨vo,A3,H⟩:=bu H
 by_cases c4:vo=0
 ·rw[if_pos c4]at H
  obtain⟨dF,ig⟩:=cF c4;clear c4;obtain⟨CV,A5,H⟩:=bu H;simp only[Option.some.injEq,Prod.mk.injEq]at H;obtain⟨rfl,rfl⟩:=H;go_enter Try.func79,Try.ntmps79;go_wp2_with (first | ((with_reducible refine bp (N:=2) rfl ?_);refine bQ (N:=2) (cs:= #[.int .i64 ai, .slice aT af.length aQ]) (t:=26) ?_;intro U8 hg w6 az hb;have U7:=m_ (az);have Va:=m_ ((by rw[hg];exact(aD aq):w.heap.size≤U8));have Vb:=m_ ((by rw[hg];exact(aD aq):w.heap.size≤U8));replace HB:=m_ (aA aq hb);clear hb az hg;have pU:=aK U7.1;have pV:=aN U7.1;have qJ:=av U7.1 0;have pW:=av U7.1 1) | ((with_reducible refine bE (f:=184) rfl ?_);refine bF (some 9) Try.func184 #[.agg #[.int .i64 ai, .slice aT af.length aQ], .int .i64 a1, .int .i64 1] ?_;(with_reducible refine(iU.calls k ai _ _ af a1 1 vo _ ?ak ?au A3.1).mono ?_);(case ak=>exact Kd.aC (Kd.aC bz.1 HB.1) aa);(case au=>exact bH.1);rintro e w8 ⟨rfl,hb⟩;refine⟨_,rfl, ?_⟩;replace U7:=m_ (aI U7.1 hb);replace HB:=m_ (aA aj hb);clear hb;have lO:=aK U7.1;have lP:=aN U7.1;have mG:=av U7.1 0;have lQ:=av U7.1 1) | ((with_reducible refine bE (f:=185) rfl ?_);refine bF (some 15) Try.func185 #[.agg #[.int .i64 ai, .slice aT af.length aQ], .int .i64 a1] ?_;(with_reducible refine(fQ.calls k ai _ _ af a1 CV _ ?ak ?au A5.1).mono ?_);(case ak=>exact Kd.aC (Kd.aC bz.1 HB.1) aa);(case au=>exact bH.1);rintro e iy ⟨Vc,rfl,aM,hb⟩;refine⟨_,rfl, ?_⟩;have U9:=m_ (Kd.cJ aM (aD aj));replace U7:=m_ (aI U7.1 hb);replace HB:=m_ (aA aj hb);clear hb;(try clear aM)))
  go_ret2
  exact⟨_,bT,(Kd.ax U9.1 aa),aj⟩
 ·rw[if_neg c4]at H
  obtain⟨dF,ig⟩:=cC c4;simp only[Option.some.injEq,Prod.mk.injEq]at H;obtain⟨rfl,rfl⟩:=H;go_enter Try.func79,Try.ntmps79;go_wp2_with (first | ((with_reducible refine bp (N:=2) rfl ?_);refine bQ (N:=2) (cs:= #[.int .i64 ai, .slice aT af.length aQ]) (t:=26) ?_;intro U8 hg jh az hb;have U7:=m_ (az);have Va:=m_ ((by rw[hg];exact(aD aq):w.heap.size≤U8));have Vb:=m_ ((by rw[hg];exact(aD aq):w.heap.size≤U8));replace HB:=m_ (aA aq hb);clear hb az hg;have qx:=aK U7.1;have sy:=aN U7.1;have qy:=av U7.1 0;have sA:=av U7.1 1) | ((with_reducible refine bE (f:=184) rfl ?_);refine bF (some 9) Try.func184 #[.agg #[.int .i64 ai, .slice aT af.length aQ], .int .i64 a1, .int .i64 1] ?_;(with_reducible refine(iU.calls k ai _ _ af a1 1 vo _ ?ak ?au A3.1).mono ?_);(case ak=>exact Kd.aC (Kd.aC bz.1 HB.1) aa);(case au=>exact bH.1);rintro e ji ⟨rfl,hb⟩;refine⟨_,rfl, ?_⟩;replace U7:=m_ (aI U7.1 hb);replace HB:=m_ (aA aj hb);clear hb))
  go_ret2
  exact⟨_,bT,by first | exact Kd.jW _ _ _ _ _ | exact Kd.lF _ _ _ _ _ | exact Kd.lG _ _ _ _ _ | exact Kd.lH _ _ _ _ _ | exact Kd.lI _ _ _ _ _,aj⟩

/-! ### spec_DrawPrimeCounts: function 80 -/
def rP.f (k:Nat) (l0:List Int):Option (Int×(List (List Int))×Int):=(nD.f k l0).bind fun U7=>(some (U7.1,U7.2.1,U7.2.2))
set_option maxHeartbeats 8000000 in
set_option maxRecDepth 100000 in
theorem rP.calls (k:Nat) (A0:Option Addr) (c0:Nat) (l0:List Int) (r1:Int) (r2:List (List Int)) (r3:Int) (w:World) (hr0:Kd.C (Kd.int .u8) w A0 l0.length l0) (hc0:l0.length≤c0) (h:rP.f k l0=some (r1,r2,r3)):
  Calls Try.prog 80 #[.slice A0 l0.length c0] w fun e w'=>∃fN:Value,e= .returned (.tuple #[.agg #[.int .i64 r1,fN], .int .i64 r3])∧Kd.V (Kd.slice 2 (Kd.int .i64)) 29 w' w.heap.size (fun k_=>(w.heap.size≤k_)) fN r2∧Below w.heap.size w w':=by
 have eH:=Try.underlying26;have dm:=m_ hr0;have eW:=m_ hc0;clear hr0 hc0;have HB:=m_ (Below.refl w.heap.size w);have H:=h;unfold rP.f at H;clear h;obtain⟨⟨U9,Va,Vc⟩,A2,H⟩:=bu H;dsimp only at H;simp only[Option.some.injEq,Prod.mk.injEq]at H;obtain⟨rfl,rfl,rfl⟩:=H;go_enter Try.func80,Try.ntmps80;go_wp2_with (first | ((with_reducible refine bp (N:=2) rfl ?_);refine bQ (N:=2) (cs:= #[.int .i64 0, .slice none 0 0]) (t:=26) ?_;intro U7 hg w3 az hb;have U8:=m_ (az);have Vf:=m_ ((by rw[hg];exact(aD aq):w.heap.size≤U7));have Ve:=m_ ((by rw[hg];exact(aD aq):w.heap.size≤U7));replace HB:=m_ (aA aq hb);clear hb az hg) | ((with_reducible refine bE (f:=182) rfl ?_);refine bF (some 5) Try.func182 #[.slice A0 l0.length c0] ?_;(with_reducible refine(nD.calls k _ _ l0 U9 Va Vc _ ?ak ?au A2.1).mono ?_);(case ak=>exact Kd.aC (Kd.aC dm.1 HB.1) aa);(case au=>exact eW.1);rintro e w4 ⟨Vd,rfl,aM,hb⟩;refine⟨_,rfl, ?_⟩;have Vb:=m_ (Kd.oC (Kd.bP (ok':=fun k_=>(w.heap.size≤k_)∧k_≠U7) aM (fun k_ cl=>⟨(Nat.le_trans (aD aj) cl),(Kd.mD (g:=U7) (o:= .cells #[.int .i64 0, .slice none 0 0] 26 (0,0)) (ay U8.1 aa) k_ cl)⟩)) (aD aj));replace U8:=m_ (aI U8.1 hb);replace HB:=m_ (aA aj hb);clear hb;(try clear aM);have sO:=aK U8.1;have uS:=aN U8.1;have sP:=av U8.1 0;have uT:=av U8.1 1;obtain⟨oR,oS,tA⟩:=Kd.lM Vb.1;subst tA));refine bodyPost_ret (oM rfl _ _ U7 26 #[.int .i64 U9, .slice oR Va.length oS] (0,0) _ rfl (by(with_reducible repeat (first | refine bM ?_ _ | refine bB ?_ | refine bG ?_ _));refine cT (cs:= #[.int .i64 U9, .slice none 0 0]) ?_ 1 _ rfl;(with_reducible repeat (first | refine bM ?_ _ | refine bB ?_ | refine bG ?_ _));refine cT (cs:= #[.int .i64 0, .slice none 0 0]) ?_ 0 _ rfl;(with_reducible repeat (first | refine bM ?_ _ | refine bB ?_ | refine bG ?_ _));exact U8.1) Try.underlying26 rfl (by kernel_rfl)) rfl ?_;exact⟨_,bT,by(with_reducible repeat (first | apply Kd.dN | apply Kd.dO | apply Kd.dJ));exact Kd.bP (Kd.dQ (p:=⟨U7,1,none⟩) (Kd.dQ (p:=⟨U7,0,none⟩) (Kd.bP Vb.1 (fun k_ hk=>(⟨hk,hk.2⟩:_∧k_≠U7))) (fun _ hk=>hk.2) (.int .i64 U9)) (fun _ hk=>hk.2) (.slice oR Va.length oS)) (fun _ hk=>hk.1.1),aj⟩

/-! ### impl_moebius: function 218 -/
def jR.l0:Nat→Int→Int→Int→Option (Int)
 | 0,_,_,_=>none
 | k+1,x0,x3,x4=>if x4≤x0 then (if x4=0 then (none) else (if (Int.tmod x0 x4)=0 then (if (Int.tmod (wrap64 (Int.tdiv x0 x4)) x4)=0 then (some 0) else (jR.l0 k (wrap64 (Int.tdiv x0 x4)) (wrap64 (-x3)) (wrap64 (x4+1)))) else (jR.l0 k x0 x3 (wrap64 (x4+1))))) else (some x3)
def jR.f (k:Nat) (a0:Int):Option (Int):=jR.l0 k a0 1 2
set_option maxHeartbeats 8000000 in
set_option maxRecDepth 100000 in
theorem jR.calls (k:Nat) (a0:Int) (r:Int) (w:World) (h:jR.f k a0=some r):
  Calls Try.prog 218 #[.int .i64 a0] w fun e w'=>e= .returned (.int .i64 r)∧bK w w':=by
 have H:=h;unfold jR.f at H;clear h;have H':=m_ H;clear H;go_enter Try.func218,Try.ntmps218;go_wp2;go_loopg [0,3,4] k (fun kq v0 v3 v4 w'=>∃(eD:Int) (bU:Int) (bV:Int),v0= .int .i64 eD∧v3= .int .i64 bU∧v4= .int .i64 bV∧ah (jR.l0 kq eD bU bV=some r)∧ah (kq≤k)∧bK w w')
 case atStart=>exact⟨(a0),(1),(2),aV,aV,aV,H',⟨Nat.le_refl _⟩,by repeat (first | exact bK.refl _ | apply bK.step)⟩
 case round=>
  clear H';obtain⟨eD,bU,bV,rfl,rfl,rfl,HA,bk,⟨m1,rfl⟩⟩:=hrel;cases gk with
  | zero=>exact absurd HA.1 (by simp[jR.l0])
  | succ k1=>
   have H:=HA.1;clear HA;simp only[jR.l0]at H
   by_cases c2:bV≤eD
   ·rw[if_pos c2]at H
    have nU:=decide_eq_true c2;clear c2
    by_cases c3:bV=0
    ·rw[if_pos c3]at H
     exact absurd H (by simp)
    ·rw[if_neg c3]at H
     obtain⟨iq,mN⟩:=cC c3
     by_cases c4:(Int.tmod eD bV)=0
     ·rw[if_pos c4]at H
      obtain⟨dF,ig⟩:=cF c4;clear c4
      by_cases c5:(Int.tmod (wrap64 (Int.tdiv eD bV)) bV)=0
      ·rw[if_pos c5]at H
       obtain⟨eM,oT⟩:=cF c5;clear c5;obtain rfl:=Option.some.inj H;go_wp2;go_ret;exact⟨aV,by repeat (first | exact bK.refl _ | apply bK.step)⟩
      ·rw[if_neg c5]at H
       obtain⟨eM,oT⟩:=cC c5;have H':=m_ H;clear H;go_wp2;go_roundg k1
       case measure=>have:=bk.1;omega
       case rel=>exact⟨(wrap64 (Int.tdiv eD bV)),(wrap64 (-bU)),(wrap64 (bV+1)),aV,aV,aV,H',⟨by have:=bk.1;omega⟩,by repeat (first | exact bK.refl _ | apply bK.step)⟩
     ·rw[if_neg c4]at H
      obtain⟨dF,ig⟩:=cC c4;have H':=m_ H;clear H;go_wp2;go_roundg k1
      case measure=>have:=bk.1;omega
      case rel=>exact⟨(eD),(bU),(wrap64 (bV+1)),aV,aV,aV,H',⟨by have:=bk.1;omega⟩,by repeat (first | exact bK.refl _ | apply bK.step)⟩
   ·rw[if_neg c2]at H
    have nU:=decide_eq_false c2;clear c2;obtain rfl:=Option.some.inj H;go_wp2;go_ret;exact⟨aV,by repeat (first | exact bK.refl _ | apply bK.step)⟩

/-! ### impl_primesOf: function 126 -/
mutual
def gz.l0:Nat→List Int→List Int→Int→Int→Option (List Int)
 | 0,_,_,_,_=>none
 | k+1,x0,x3,dG,cV=>if cV<dG then (gz.l1 k x0 x3 (wrap64 (cV+1)) 0 1 dG cV) else (some x3)
def gz.l1:Nat→List Int→List Int→Int→Int→Int→Int→Int→Option (List Int)
 | 0,_,_,_,_,_,_,_=>none
 | k+1,x0,x3,x5,x6,x7,dG,cV=>if x7≤x5 then (if x7=0 then (none) else (if (Int.tmod x5 x7)=0 then ((jR.f k (wrap64 (Int.tdiv x5 x7))).bind fun tB=>(if 0≤(wrap64 (x7 - 1)) then (if (wrap64 (x7 - 1))<(x0.length:Int) then (gz.l1 k x0 x3 x5 (wrap64 (x6+(wrap64 (tB*(rd x0 (wrap64 (x7 - 1))))))) (wrap64 (x7+1)) dG cV) else (none)) else (none))) else (gz.l1 k x0 x3 x5 x6 (wrap64 (x7+1)) dG cV))) else (if x5=0 then (none) else (if x3.length<17592186044416 then (gz.l0 k x0 (x3++[wrap64 (Int.tdiv x6 x5)]) dG (wrap64 (cV+1))) else (none)))
end
def gz.f (k:Nat) (l0:List Int):Option (List Int):=gz.l0 k l0 (([]:List Int)) (l0.length:Int) 0
set_option maxHeartbeats 8000000 in
set_option maxRecDepth 100000 in
theorem gz.calls (k:Nat) (A0:Option Addr) (c0:Nat) (l0:List Int) (r:List Int) (w:World) (hr0:Kd.C (Kd.int .i64) w A0 l0.length l0) (hc0:l0.length≤c0) (h:gz.f k l0=some r):
  Calls Try.prog 126 #[.slice A0 l0.length c0] w fun e w'=>∃cP:Value,e= .returned (cP)∧Kd.R (Kd.int .i64) 2 w' w.heap.size (fun _=>True) cP r∧Below w.heap.size w w':=by
 have dm:=m_ hr0;have eW:=m_ hc0;clear hr0 hc0;have HB:=m_ (Below.refl w.heap.size w);have H:=h;unfold gz.f at H;clear h;obtain⟨U9,Vg,H⟩: ∃U9:List Int,ah (U9=(([]:List Int)))∧(gz.l0 k l0 U9 (l0.length:Int) 0)=some r:=⟨_,⟨rfl⟩,H⟩;have H':=m_ H;clear H;go_enter Try.func126,Try.ntmps126;go_wp2_with (first | ((with_reducible refine bp (N:=8) rfl ?_);refine Kd.fA (Kd.int .i64) _ 2 ?hg (N:=8) ?hd (xs:=([]:List Int)) (inner:=[]) (ok:=fun _=>True) (bX:=fun _=>True) ?hr ?hp (fun _ hk=>hk) trivial (Below.refl _ _) (Nat.le_refl _) (by simp) ?_;(case hd=>rfl);(case hg=>rfl);(case hr=>first | (go_simp;done) | (go_simp;rfl));(case hp=>exact(aZ.none _ _));intro Vi w2 jJ hb cy cA;clear cy cA;rw[← Vg.1]at jJ;have Vb:=m_ (Kd.cJ jJ (aD aq));replace HB:=m_ (aA aq hb);clear hb jJ))
 repeat (go_quiet (first | ((with_reducible refine bp (N:=8) rfl ?_);refine Kd.fA (Kd.int .i64) _ 2 ?hg (N:=8) ?hd (xs:=([]:List Int)) (inner:=[]) (ok:=fun _=>True) (bX:=fun _=>True) ?hr ?hp (fun _ hk=>hk) trivial (Below.refl _ _) (Nat.le_refl _) (by simp) ?_;(case hd=>rfl);(case hg=>rfl);(case hr=>first | (go_simp;done) | (go_simp;rfl));(case hp=>exact(aZ.none _ _));intro Vi w2 jJ hb cy cA;clear cy cA;rw[← Vg.1]at jJ;have Vb:=m_ (Kd.cJ jJ (aD aq));replace HB:=m_ (aA aq hb);clear hb jJ));try go_wp2_with (first | ((with_reducible refine bp (N:=8) rfl ?_);refine Kd.fA (Kd.int .i64) _ 2 ?hg (N:=8) ?hd (xs:=([]:List Int)) (inner:=[]) (ok:=fun _=>True) (bX:=fun _=>True) ?hr ?hp (fun _ hk=>hk) trivial (Below.refl _ _) (Nat.le_refl _) (by simp) ?_;(case hd=>rfl);(case hg=>rfl);(case hr=>first | (go_simp;done) | (go_simp;rfl));(case hp=>exact(aZ.none _ _));intro Vi w2 jJ hb cy cA;clear cy cA;rw[← Vg.1]at jJ;have Vb:=m_ (Kd.cJ jJ (aD aq));replace HB:=m_ (aA aq hb);clear hb jJ)))
 go_loopg [3,11] k (fun kq v3 v11 w'=>∃(bU:List Int) (U7:Int),v11= .int .i64 U7∧ah (gz.l0 kq l0 bU (l0.length:Int) U7=some r)∧ah (kq≤k)∧ah (Kd.R (Kd.int .i64) 2 w' w.heap.size (fun _=>True) v3 bU)∧ah (Below w.heap.size w w'))
 case atStart=>exact⟨(U9),(0),aV,H',⟨Nat.le_refl _⟩,⟨Kd.ax Vb.1 aa⟩,⟨aq⟩⟩
 case round=>
  clear H';obtain⟨bU,U7,rfl,HA,bk,bA,HB⟩:=hrel;cases gk with
  | zero=>exact absurd HA.1 (by simp[gz.l0])
  | succ k1=>
   have H:=HA.1;clear HA;simp only[gz.l0]at H
   by_cases c4:U7<(l0.length:Int)
   ·rw[if_pos c4]at H
    have dF:=decide_eq_true c4;clear c4;have H':=m_ H;clear H;go_wp2
    repeat (go_quiet (fail);try go_wp2)
    go_loopg [6,7] k1 (fun kq v6 v7 w'=>∃(fJ:Int) (cY:Int),v6= .int .i64 fJ∧v7= .int .i64 cY∧ah (gz.l1 kq l0 bU (wrap64 (U7+1)) fJ cY (l0.length:Int) U7=some r)∧ah (kq≤k1)∧ah (Kd.R (Kd.int .i64) 2 w' w.heap.size (fun _=>True) u3 bU)∧ah (Below w.heap.size w w'))
    case atStart=>exact⟨(0),(1),aV,aV,H',⟨Nat.le_refl _⟩,⟨Kd.ax bA.1 aa⟩,⟨aq⟩⟩
    case round=>
     clear H';obtain⟨fJ,cY,rfl,rfl,HA,cj,bA,HB⟩:=hrel;cases gk with
     | zero=>exact absurd HA.1 (by simp[gz.l1])
     | succ k2=>
      have H:=HA.1;clear HA;simp only[gz.l1]at H
      by_cases c5:cY≤(wrap64 (U7+1))
      ·rw[if_pos c5]at H
       have eM:=decide_eq_true c5;clear c5
       by_cases c6:cY=0
       ·rw[if_pos c6]at H
        exact absurd H (by simp)
       ·rw[if_neg c6]at H
        obtain⟨iA,mO⟩:=cC c6
        by_cases c7:(Int.tmod (wrap64 (U7+1)) cY)=0
        ·rw[if_pos c7]at H
         obtain⟨iX,lR⟩:=cF c7;clear c7;obtain⟨tB,A8,H⟩:=bu H;obtain⟨ja,mP⟩: ∃j_:Int,(wrap64 (cY - 1))=j_:=⟨_,rfl⟩;(try rw[mP]);replace H:(if 0≤(ja) then (if (ja)<(l0.length:Int) then (gz.l1 k2 l0 bU (wrap64 (U7+1)) (wrap64 (fJ+(wrap64 (tB*(rd l0 (ja)))))) (wrap64 (cY+1)) (l0.length:Int) U7) else (none)) else (none))=some r:=by first | (rw[mP]at H;exact H) | (simp only[mP]at H ⊢;exact H)
         (try rw[mP]at A8);have Oc:(IntKind.i64.wrap (cY - 1))=ja:=(ep _).trans mP;obtain⟨c10,H⟩:=bf H;have mI:=decide_eq_true c10;clear c10;obtain⟨c11,H⟩:=bf H;have jw:=decide_eq_true c11;clear c11;have H':=m_ H;clear H;have Vc:0≤((ja):Int):=aE;have Vf:(ja)<(l0.length:Int):=aE;obtain⟨Vl,Vk,Va⟩:=Kd.cv dm.1 (ja) Vc Vf;cases Vk;(try replace Va:=(HB.1.cell (World.block_lt_of_cell? w _ Va)).trans Va);replace Vc:=eq_true Vc;replace Vf:=eq_true Vf;go_wp2_with (first | (go_at_call 218;(with_reducible refine(jR.calls k2 (wrap64 (Int.tdiv (wrap64 (U7+1)) cY)) tB _ A8.1).mono ?_);rintro e w' ⟨rfl,⟨nd,rfl⟩⟩;(try first | exact⟨rfl,_,World.drewN_drewN _ _ _⟩ | exact⟨rfl,_,Eq.trans (World.drewN_drewN _ _ _) (congrArg (World.drewN _) (Nat.add_assoc _ _ _))⟩)))
         repeat (go_quiet (first | (go_at_call 218;(with_reducible refine(jR.calls k2 (wrap64 (Int.tdiv (wrap64 (U7+1)) cY)) tB _ A8.1).mono ?_);rintro e w' ⟨rfl,⟨nd,rfl⟩⟩;(try first | exact⟨rfl,_,World.drewN_drewN _ _ _⟩ | exact⟨rfl,_,Eq.trans (World.drewN_drewN _ _ _) (congrArg (World.drewN _) (Nat.add_assoc _ _ _))⟩)));try go_wp2_with (first | (go_at_call 218;(with_reducible refine(jR.calls k2 (wrap64 (Int.tdiv (wrap64 (U7+1)) cY)) tB _ A8.1).mono ?_);rintro e w' ⟨rfl,⟨nd,rfl⟩⟩;(try first | exact⟨rfl,_,World.drewN_drewN _ _ _⟩ | exact⟨rfl,_,Eq.trans (World.drewN_drewN _ _ _) (congrArg (World.drewN _) (Nat.add_assoc _ _ _))⟩))))
         first | go_roundg k2 | ((try subst mP);go_roundg k2)
         case measure=>have:=bk.1;have:=cj.1;omega
         case rel=>exact⟨(wrap64 (fJ+(wrap64 (tB*(rd l0 (ja)))))),(wrap64 (cY+1)),(by first | rfl | (simp;done) | (simp only[← mP]<;>(first | rfl | simp)) | (simp[*];done)),aV,H',⟨by have:=bk.1;have:=cj.1;omega⟩,⟨Kd.ax bA.1 aa⟩,⟨aq⟩⟩
        ·rw[if_neg c7]at H
         obtain⟨iX,lR⟩:=cC c7;have H':=m_ H;clear H;go_wp2
         repeat (go_quiet (fail);try go_wp2)
         go_roundg k2
         case measure=>have:=bk.1;have:=cj.1;omega
         case rel=>exact⟨(fJ),(wrap64 (cY+1)),aV,aV,H',⟨by have:=bk.1;have:=cj.1;omega⟩,⟨Kd.ax bA.1 aa⟩,⟨aq⟩⟩
      ·rw[if_neg c5]at H
       have eM:=decide_eq_false c5;clear c5
       by_cases c12:(wrap64 (U7+1))=0
       ·rw[if_pos c12]at H
        exact absurd H (by simp)
       ·rw[if_neg c12]at H
        obtain⟨kL,sR⟩:=cC c12;obtain⟨c13,H⟩:=bf H;have Vd:=m_ c13;clear c13;obtain⟨U8,Ve,H⟩: ∃U8:List Int,ah (U8=(bU++[wrap64 (Int.tdiv fJ (wrap64 (U7+1)))]))∧(gz.l0 k2 l0 U8 (l0.length:Int) (wrap64 (U7+1)))=some r:=⟨_,⟨rfl⟩,H⟩;have H':=m_ H;clear H;go_wp2_with (first | ((with_reducible refine eP (b:= .append) (xs:= #[.tmp 37, .tmp 41]) rfl ?_);at_builtin;refine Kd.gA (Kd.int .i64) (w0:=w) w.heap.size rfl (.tmp 37) (.tmp 41) 29 2 (.int .i64 0) 8 rfl Try.underlying29 fB rfl (by decide) (by omega) u3 bU (wrap64 (Int.tdiv fJ (wrap64 (U7+1)))) [.int .i64 (wrap64 (Int.tdiv fJ (wrap64 (U7+1))))] (fun _=>True) (fun _=>False) rfl rfl ?aP (fun _ hk=>hk.elim) ?aF ?aO ?aB ?aS ?aL ?_;(case aP=>exact rfl);(case aB=>exact aq);(case aF=>exact(fun _ _=>trivial));(case aO=>exact(Kd.ax bA.1 aa));(case aS=>exact(aD aq));(case aL=>have:=Vd.1;omega);intro Vj m8 ho hb hg hat;rw[← Ve.1]at ho;replace HB:=m_ (hb);have Vh:=m_ (ho);clear bA;clear ho hb hg hat))
        repeat (go_quiet (first | ((with_reducible refine eP (b:= .append) (xs:= #[.tmp 37, .tmp 41]) rfl ?_);at_builtin;refine Kd.gA (Kd.int .i64) (w0:=w) w.heap.size rfl (.tmp 37) (.tmp 41) 29 2 (.int .i64 0) 8 rfl Try.underlying29 fB rfl (by decide) (by omega) u3 bU (wrap64 (Int.tdiv fJ (wrap64 (U7+1)))) [.int .i64 (wrap64 (Int.tdiv fJ (wrap64 (U7+1))))] (fun _=>True) (fun _=>False) rfl rfl ?aP (fun _ hk=>hk.elim) ?aF ?aO ?aB ?aS ?aL ?_;(case aP=>exact rfl);(case aB=>exact aq);(case aF=>exact(fun _ _=>trivial));(case aO=>exact(Kd.ax bA.1 aa));(case aS=>exact(aD aq));(case aL=>have:=Vd.1;omega);intro Vj m8 ho hb hg hat;rw[← Ve.1]at ho;replace HB:=m_ (hb);have Vh:=m_ (ho);clear bA;clear ho hb hg hat));try go_wp2_with (first | ((with_reducible refine eP (b:= .append) (xs:= #[.tmp 37, .tmp 41]) rfl ?_);at_builtin;refine Kd.gA (Kd.int .i64) (w0:=w) w.heap.size rfl (.tmp 37) (.tmp 41) 29 2 (.int .i64 0) 8 rfl Try.underlying29 fB rfl (by decide) (by omega) u3 bU (wrap64 (Int.tdiv fJ (wrap64 (U7+1)))) [.int .i64 (wrap64 (Int.tdiv fJ (wrap64 (U7+1))))] (fun _=>True) (fun _=>False) rfl rfl ?aP (fun _ hk=>hk.elim) ?aF ?aO ?aB ?aS ?aL ?_;(case aP=>exact rfl);(case aB=>exact aq);(case aF=>exact(fun _ _=>trivial));(case aO=>exact(Kd.ax bA.1 aa));(case aS=>exact(aD aq));(case aL=>have:=Vd.1;omega);intro Vj m8 ho hb hg hat;rw[← Ve.1]at ho;replace HB:=m_ (hb);have Vh:=m_ (ho);clear bA;clear ho hb hg hat)))
        go_roundg k2
        case measure=>have:=bk.1;have:=cj.1;omega
        case rel=>exact⟨(U8),(wrap64 (U7+1)),aV,H',⟨by have:=bk.1;have:=cj.1;omega⟩,⟨Kd.ax Vh.1 aa⟩,⟨aq⟩⟩
   ·rw[if_neg c4]at H
    have dF:=decide_eq_false c4;clear c4;obtain rfl:=Option.some.inj H;go_wp2
    repeat (go_quiet (fail);try go_wp2)
    go_ret;exact⟨_,bT,(Kd.ax bA.1 aa),aq⟩

/-! ### impl_PrimeCounts: function 81 -/
def r9.f (k:Nat) (ai:Int) (af:List (List Int)) (a1:Int):Option (List Int×Int):=(mZ.f k ai af a1).bind fun U7=>(if U7.2=0 then ((gz.f k U7.1).bind fun CW=>(some (CW,0))) else (some (([]:List Int),U7.2)))
set_option maxHeartbeats 8000000 in
set_option maxRecDepth 100000 in
theorem r9.calls (k:Nat) (ai:Int) (aT:Option Addr) (aQ:Nat) (af:List (List Int)) (a1:Int) (r1:List Int) (r2:Int) (w:World) (cG:Kd.C (Kd.slice 2 (Kd.int .i64)) w aT af.length af) (cH:af.length≤aQ) (h:r9.f k ai af a1=some (r1,r2)):
  Calls Try.prog 81 #[.agg #[.int .i64 ai, .slice aT af.length aQ], .int .i64 a1] w fun e w'=>∃cP:Value,e= .returned (.tuple #[cP, .int .i64 r2])∧Kd.R (Kd.int .i64) 2 w' w.heap.size (fun _=>True) cP r1∧Below w.heap.size w w':=by
 have eH:=Try.underlying26;have bz:=m_ cG;have bH:=m_ cH;clear cG cH;have HB:=m_ (Below.refl w.heap.size w);have H:=h;unfold r9.f at H;clear h;obtain⟨⟨Va,Vb⟩,A3,H⟩:=bu H;dsimp only at H
 by_cases c4:Vb=0
 ·rw[if_pos c4]at H
  obtain⟨dF,ig⟩:=cF c4;clear c4;obtain⟨CW,A5,H⟩:=bu H;simp only[Option.some.injEq,Prod.mk.injEq]at H;obtain⟨rfl,rfl⟩:=H;go_enter Try.func81,Try.ntmps81;go_wp2_with (first | ((with_reducible refine bp (N:=2) rfl ?_);refine bQ (N:=2) (cs:= #[.int .i64 ai, .slice aT af.length aQ]) (t:=26) ?_;intro U9 hg w6 az hb;have U7:=m_ (az);have Vf:=m_ ((by rw[hg];exact(aD aq):w.heap.size≤U9));have Ve:=m_ ((by rw[hg];exact(aD aq):w.heap.size≤U9));replace HB:=m_ (aA aq hb);clear hb az hg;have pU:=aK U7.1;have pV:=aN U7.1;have qJ:=av U7.1 0;have pW:=av U7.1 1) | ((with_reducible refine bE (f:=78) rfl ?_);refine bF (some 11) Try.func78 #[.agg #[.int .i64 ai, .slice aT af.length aQ], .int .i64 a1] ?_;(with_reducible refine(mZ.calls k ai _ _ af a1 Va Vb _ ?ak ?au A3.1).mono ?_);(case ak=>exact Kd.aC (Kd.aC bz.1 HB.1) aa);(case au=>exact bH.1);rintro e w8 ⟨Vc,rfl,aM,hb⟩;refine⟨_,rfl, ?_⟩;have U8:=m_ (Kd.cJ aM (aD aj));replace U7:=m_ (aI U7.1 hb);replace HB:=m_ (aA aj hb);clear hb;(try clear aM);obtain⟨nV,lp,p8⟩:=Kd.cQ U8.1;subst p8) | ((with_reducible refine bE (f:=126) rfl ?_);refine bF (some 18) Try.func126 #[.slice nV Va.length lp] ?_;(with_reducible refine(gz.calls k _ _ Va CW _ ?ak ?au A5.1).mono ?_);(case ak=>exact Kd.aC (Kd.cK U8.1).2.2 aa);(case au=>exact(Kd.cK U8.1).2.1);rintro e iy ⟨Vg,rfl,aM,hb⟩;refine⟨_,rfl, ?_⟩;have Vd:=m_ (Kd.cJ (Kd.eB aM (Kd.cS (Kd.ax U8.1 aa))) (aD aj));replace U8:=m_ (Kd.eC (Kd.ax U8.1 aa) (Kd.cx aM) hb);replace U7:=m_ (aI U7.1 hb);replace HB:=m_ (aA aj hb);clear hb;(try clear aM)))
  go_ret2
  exact⟨_,bT,by(with_reducible repeat (first | apply Kd.cL | apply Kd.cM | apply Kd.cn));exact Kd.bn Vd.1 (fun _ hk=>trivial),aj⟩
 ·rw[if_neg c4]at H
  obtain⟨dF,ig⟩:=cC c4;simp only[Option.some.injEq,Prod.mk.injEq]at H;obtain⟨rfl,rfl⟩:=H;go_enter Try.func81,Try.ntmps81;go_wp2_with (first | ((with_reducible refine bp (N:=2) rfl ?_);refine bQ (N:=2) (cs:= #[.int .i64 ai, .slice aT af.length aQ]) (t:=26) ?_;intro U9 hg jh az hb;have U7:=m_ (az);have Vf:=m_ ((by rw[hg];exact(aD aq):w.heap.size≤U9));have Ve:=m_ ((by rw[hg];exact(aD aq):w.heap.size≤U9));replace HB:=m_ (aA aq hb);clear hb az hg;have qx:=aK U7.1;have sy:=aN U7.1;have qy:=av U7.1 0;have sA:=av U7.1 1) | ((with_reducible refine bE (f:=78) rfl ?_);refine bF (some 11) Try.func78 #[.agg #[.int .i64 ai, .slice aT af.length aQ], .int .i64 a1] ?_;(with_reducible refine(mZ.calls k ai _ _ af a1 Va Vb _ ?ak ?au A3.1).mono ?_);(case ak=>exact Kd.aC (Kd.aC bz.1 HB.1) aa);(case au=>exact bH.1);rintro e ji ⟨Vc,rfl,aM,hb⟩;refine⟨_,rfl, ?_⟩;have U8:=m_ (Kd.cJ aM (aD aj));replace U7:=m_ (aI U7.1 hb);replace HB:=m_ (aA aj hb);clear hb;(try clear aM)))
  go_ret2
  exact⟨_,bT,by first | exact Kd.jW _ _ _ _ _ | exact Kd.lF _ _ _ _ _ | exact Kd.lG _ _ _ _ _ | exact Kd.lH _ _ _ _ _ | exact Kd.lI _ _ _ _ _,aj⟩

/-! ### spec_l02Moebius: function 186 -/
def jS.l0:Nat→Int→Int→Int→Option (Int)
 | 0,_,_,_=>none
 | k+1,x0,x3,x4=>if x4≤x0 then (if x4=0 then (none) else (if (Int.tmod x0 x4)=0 then (if (Int.tmod (wrap64 (Int.tdiv x0 x4)) x4)=0 then (some 0) else (jS.l0 k (wrap64 (Int.tdiv x0 x4)) (wrap64 (-x3)) (wrap64 (x4+1)))) else (jS.l0 k x0 x3 (wrap64 (x4+1))))) else (some x3)
def jS.f (k:Nat) (a0:Int):Option (Int):=jS.l0 k a0 1 2
set_option maxHeartbeats 8000000 in
set_option maxRecDepth 100000 in
theorem jS.calls (k:Nat) (a0:Int) (r:Int) (w:World) (h:jS.f k a0=some r):
  Calls Try.prog 186 #[.int .i64 a0] w fun e w'=>e= .returned (.int .i64 r)∧bK w w':=by
 have H:=h;unfold jS.f at H;clear h;have H':=m_ H;clear H;go_enter Try.func186,Try.ntmps186;go_wp2;go_loopg [0,3,4] k (fun kq v0 v3 v4 w'=>∃(eD:Int) (bU:Int) (bV:Int),v0= .int .i64 eD∧v3= .int .i64 bU∧v4= .int .i64 bV∧ah (jS.l0 kq eD bU bV=some r)∧ah (kq≤k)∧bK w w')
 case atStart=>exact⟨(a0),(1),(2),aV,aV,aV,H',⟨Nat.le_refl _⟩,by repeat (first | exact bK.refl _ | apply bK.step)⟩
 case round=>
  clear H';obtain⟨eD,bU,bV,rfl,rfl,rfl,HA,bk,⟨m1,rfl⟩⟩:=hrel;cases gk with
  | zero=>exact absurd HA.1 (by simp[jS.l0])
  | succ k1=>
   have H:=HA.1;clear HA;simp only[jS.l0]at H
   by_cases c2:bV≤eD
   ·rw[if_pos c2]at H
    have nU:=decide_eq_true c2;clear c2
    by_cases c3:bV=0
    ·rw[if_pos c3]at H
     exact absurd H (by simp)
    ·rw[if_neg c3]at H
     obtain⟨iq,mN⟩:=cC c3
     by_cases c4:(Int.tmod eD bV)=0
     ·rw[if_pos c4]at H
      obtain⟨dF,ig⟩:=cF c4;clear c4
      by_cases c5:(Int.tmod (wrap64 (Int.tdiv eD bV)) bV)=0
      ·rw[if_pos c5]at H
       obtain⟨eM,oT⟩:=cF c5;clear c5;obtain rfl:=Option.some.inj H;go_wp2;go_ret;exact⟨aV,by repeat (first | exact bK.refl _ | apply bK.step)⟩
      ·rw[if_neg c5]at H
       obtain⟨eM,oT⟩:=cC c5;have H':=m_ H;clear H;go_wp2;go_roundg k1
       case measure=>have:=bk.1;omega
       case rel=>exact⟨(wrap64 (Int.tdiv eD bV)),(wrap64 (-bU)),(wrap64 (bV+1)),aV,aV,aV,H',⟨by have:=bk.1;omega⟩,by repeat (first | exact bK.refl _ | apply bK.step)⟩
     ·rw[if_neg c4]at H
      obtain⟨dF,ig⟩:=cC c4;have H':=m_ H;clear H;go_wp2;go_roundg k1
      case measure=>have:=bk.1;omega
      case rel=>exact⟨(eD),(bU),(wrap64 (bV+1)),aV,aV,aV,H',⟨by have:=bk.1;omega⟩,by repeat (first | exact bK.refl _ | apply bK.step)⟩
   ·rw[if_neg c2]at H
    have nU:=decide_eq_false c2;clear c2;obtain rfl:=Option.some.inj H;go_wp2;go_ret;exact⟨aV,by repeat (first | exact bK.refl _ | apply bK.step)⟩

/-! ### spec_PrimeCounts: function 82 -/
mutual
def gx.l0:Nat→Int→List Int→List Int→Int→Option (List Int×Int)
 | 0,_,_,_,_=>none
 | k+1,x1,x7,x8,x9=>if x9≤x1 then (gx.l1 k x1 x7 x8 x9 0 1) else (some (x8,0))
def gx.l1:Nat→Int→List Int→List Int→Int→Int→Int→Option (List Int×Int)
 | 0,_,_,_,_,_,_=>none
 | k+1,x1,x7,x8,x9,dG,cV=>if cV≤x9 then (if cV=0 then (none) else (if (Int.tmod x9 cV)=0 then ((jS.f k (wrap64 (Int.tdiv x9 cV))).bind fun tC=>(if 0≤(wrap64 (cV - 1)) then (if (wrap64 (cV - 1))<(x7.length:Int) then (gx.l1 k x1 x7 x8 x9 (wrap64 (dG+(wrap64 (tC*(rd x7 (wrap64 (cV - 1))))))) (wrap64 (cV+1))) else (none)) else (none))) else (gx.l1 k x1 x7 x8 x9 dG (wrap64 (cV+1))))) else (if x9=0 then (none) else (if x8.length<17592186044416 then (gx.l0 k x1 x7 (x8++[wrap64 (Int.tdiv dG x9)]) (wrap64 (x9+1))) else (none)))
end
def gx.f (k:Nat) (ai:Int) (af:List (List Int)) (a1:Int):Option (List Int×Int):=(iU.f k ai af a1 1).bind fun oU=>(if oU=0 then ((fQ.f k ai af a1).bind fun kR=>(gx.l0 k a1 kR (([]:List Int)) 1)) else (some (([]:List Int),oU)))
set_option maxHeartbeats 8000000 in
set_option maxRecDepth 100000 in
theorem gx.calls (k:Nat) (ai:Int) (aT:Option Addr) (aQ:Nat) (af:List (List Int)) (a1:Int) (r1:List Int) (r2:Int) (w:World) (cG:Kd.C (Kd.slice 2 (Kd.int .i64)) w aT af.length af) (cH:af.length≤aQ) (h:gx.f k ai af a1=some (r1,r2)):
  Calls Try.prog 82 #[.agg #[.int .i64 ai, .slice aT af.length aQ], .int .i64 a1] w fun e w'=>∃cP:Value,e= .returned (.tuple #[cP, .int .i64 r2])∧Kd.R (Kd.int .i64) 2 w' w.heap.size (fun _=>True) cP r1∧Below w.heap.size w w':=by
 have eH:=Try.underlying26;have bz:=m_ cG;have bH:=m_ cH;clear cG cH;have HB:=m_ (Below.refl w.heap.size w);have H:=h;unfold gx.f at H;clear h;obtain⟨oU,A3,H⟩:=bu H
 by_cases c4:oU=0
 ·rw[if_pos c4]at H
  obtain⟨dF,ig⟩:=cF c4;clear c4;obtain⟨kR,A5,H⟩:=bu H;obtain⟨Vd,Vg,H⟩: ∃Vd:List Int,ah (Vd=(([]:List Int)))∧(gx.l0 k a1 kR Vd 1)=some (r1,r2):=⟨_,⟨rfl⟩,H⟩;have H':=m_ H;clear H;go_enter Try.func82,Try.ntmps82;go_wp2_with (first | ((with_reducible refine bp (N:=2) rfl ?_);refine bQ (N:=2) (cs:= #[.int .i64 ai, .slice aT af.length aQ]) (t:=26) ?_;intro U8 hg w6 az hb;have U7:=m_ (az);have Vc:=m_ ((by rw[hg];exact(aD aq):w.heap.size≤U8));have Vb:=m_ ((by rw[hg];exact(aD aq):w.heap.size≤U8));replace HB:=m_ (aA aq hb);clear hb az hg;have pU:=aK U7.1;have pV:=aN U7.1;have qJ:=av U7.1 0;have pW:=av U7.1 1) | (go_at_call 184;(with_reducible refine(iU.calls k ai _ _ af a1 1 oU _ ?ak ?au A3.1).mono ?_);(case ak=>exact Kd.aC (Kd.aC bz.1 HB.1) aa);(case au=>exact bH.1);rintro e w8 ⟨rfl,hb⟩;replace U7:=m_ (aI U7.1 hb);replace HB:=m_ (aA aj hb);clear hb;have lO:=aK U7.1;have lP:=aN U7.1;have mG:=av U7.1 0;have lQ:=av U7.1 1) | (go_at_call 185;(with_reducible refine(fQ.calls k ai _ _ af a1 kR _ ?ak ?au A5.1).mono ?_);(case ak=>exact Kd.aC (Kd.aC bz.1 HB.1) aa);(case au=>exact bH.1);rintro e iy ⟨Va,rfl,aM,hb⟩;have U9:=m_ (Kd.cJ aM (aD aj));replace U7:=m_ (aI U7.1 hb);replace HB:=m_ (aA aj hb);clear hb;(try clear aM)) | ((with_reducible refine bp (N:=21) rfl ?_);refine Kd.fA (Kd.int .i64) _ 2 ?hg (N:=21) ?hd (xs:=([]:List Int)) (inner:=[]) (ok:=fun _=>True) (bX:=fun _=>True) ?hr ?hp (fun _ hk=>hk) trivial (Below.refl _ _) (Nat.le_refl _) (by simp) ?_;(case hd=>rfl);(case hg=>rfl);(case hr=>first | (go_simp;done) | (go_simp;rfl));(case hp=>exact(aZ.none _ _));intro Vm jh fT hb cy cA;clear cy cA;rw[← Vg.1]at fT;have Vk:=m_ (Kd.cJ (Kd.eB fT (Kd.cS (Kd.ax U9.1 aa))) (aD aj));replace U9:=m_ (Kd.eC (Kd.ax U9.1 aa) (Kd.cx fT) hb);replace U7:=m_ (aI U7.1 hb);replace HB:=m_ (aA aj hb);clear hb fT))
  repeat (go_quiet (first | ((with_reducible refine bp (N:=2) rfl ?_);refine bQ (N:=2) (cs:= #[.int .i64 ai, .slice aT af.length aQ]) (t:=26) ?_;intro U8 hg w6 az hb;have U7:=m_ (az);have Vc:=m_ ((by rw[hg];exact(aD aq):w.heap.size≤U8));have Vb:=m_ ((by rw[hg];exact(aD aq):w.heap.size≤U8));replace HB:=m_ (aA aq hb);clear hb az hg;have pU:=aK U7.1;have pV:=aN U7.1;have qJ:=av U7.1 0;have pW:=av U7.1 1) | (go_at_call 184;(with_reducible refine(iU.calls k ai _ _ af a1 1 oU _ ?ak ?au A3.1).mono ?_);(case ak=>exact Kd.aC (Kd.aC bz.1 HB.1) aa);(case au=>exact bH.1);rintro e w8 ⟨rfl,hb⟩;replace U7:=m_ (aI U7.1 hb);replace HB:=m_ (aA aj hb);clear hb;have lO:=aK U7.1;have lP:=aN U7.1;have mG:=av U7.1 0;have lQ:=av U7.1 1) | (go_at_call 185;(with_reducible refine(fQ.calls k ai _ _ af a1 kR _ ?ak ?au A5.1).mono ?_);(case ak=>exact Kd.aC (Kd.aC bz.1 HB.1) aa);(case au=>exact bH.1);rintro e iy ⟨Va,rfl,aM,hb⟩;have U9:=m_ (Kd.cJ aM (aD aj));replace U7:=m_ (aI U7.1 hb);replace HB:=m_ (aA aj hb);clear hb;(try clear aM)) | ((with_reducible refine bp (N:=21) rfl ?_);refine Kd.fA (Kd.int .i64) _ 2 ?hg (N:=21) ?hd (xs:=([]:List Int)) (inner:=[]) (ok:=fun _=>True) (bX:=fun _=>True) ?hr ?hp (fun _ hk=>hk) trivial (Below.refl _ _) (Nat.le_refl _) (by simp) ?_;(case hd=>rfl);(case hg=>rfl);(case hr=>first | (go_simp;done) | (go_simp;rfl));(case hp=>exact(aZ.none _ _));intro Vm jh fT hb cy cA;clear cy cA;rw[← Vg.1]at fT;have Vk:=m_ (Kd.cJ (Kd.eB fT (Kd.cS (Kd.ax U9.1 aa))) (aD aj));replace U9:=m_ (Kd.eC (Kd.ax U9.1 aa) (Kd.cx fT) hb);replace U7:=m_ (aI U7.1 hb);replace HB:=m_ (aA aj hb);clear hb fT));try go_wp2_with (first | ((with_reducible refine bp (N:=2) rfl ?_);refine bQ (N:=2) (cs:= #[.int .i64 ai, .slice aT af.length aQ]) (t:=26) ?_;intro U8 hg w6 az hb;have U7:=m_ (az);have Vc:=m_ ((by rw[hg];exact(aD aq):w.heap.size≤U8));have Vb:=m_ ((by rw[hg];exact(aD aq):w.heap.size≤U8));replace HB:=m_ (aA aq hb);clear hb az hg;have pU:=aK U7.1;have pV:=aN U7.1;have qJ:=av U7.1 0;have pW:=av U7.1 1) | (go_at_call 184;(with_reducible refine(iU.calls k ai _ _ af a1 1 oU _ ?ak ?au A3.1).mono ?_);(case ak=>exact Kd.aC (Kd.aC bz.1 HB.1) aa);(case au=>exact bH.1);rintro e w8 ⟨rfl,hb⟩;replace U7:=m_ (aI U7.1 hb);replace HB:=m_ (aA aj hb);clear hb;have lO:=aK U7.1;have lP:=aN U7.1;have mG:=av U7.1 0;have lQ:=av U7.1 1) | (go_at_call 185;(with_reducible refine(fQ.calls k ai _ _ af a1 kR _ ?ak ?au A5.1).mono ?_);(case ak=>exact Kd.aC (Kd.aC bz.1 HB.1) aa);(case au=>exact bH.1);rintro e iy ⟨Va,rfl,aM,hb⟩;have U9:=m_ (Kd.cJ aM (aD aj));replace U7:=m_ (aI U7.1 hb);replace HB:=m_ (aA aj hb);clear hb;(try clear aM)) | ((with_reducible refine bp (N:=21) rfl ?_);refine Kd.fA (Kd.int .i64) _ 2 ?hg (N:=21) ?hd (xs:=([]:List Int)) (inner:=[]) (ok:=fun _=>True) (bX:=fun _=>True) ?hr ?hp (fun _ hk=>hk) trivial (Below.refl _ _) (Nat.le_refl _) (by simp) ?_;(case hd=>rfl);(case hg=>rfl);(case hr=>first | (go_simp;done) | (go_simp;rfl));(case hp=>exact(aZ.none _ _));intro Vm jh fT hb cy cA;clear cy cA;rw[← Vg.1]at fT;have Vk:=m_ (Kd.cJ (Kd.eB fT (Kd.cS (Kd.ax U9.1 aa))) (aD aj));replace U9:=m_ (Kd.eC (Kd.ax U9.1 aa) (Kd.cx fT) hb);replace U7:=m_ (aI U7.1 hb);replace HB:=m_ (aA aj hb);clear hb fT)))
  go_loopg [8,9] k (fun kq v8 v9 w'=>∃(bY:List Int) (dz:Int),v9= .int .i64 dz∧ah (gx.l0 kq a1 kR bY dz=some (r1,r2))∧ah (kq≤k)∧ah (Kd.R (Kd.int .i64) 2 w' w.heap.size (fun k_=>some k_≠(v8:Value).ownBlock) Va kR)∧ah (Kd.R (Kd.int .i64) 2 w' w.heap.size (fun k_=>some k_≠(Va:Value).ownBlock) v8 bY)∧ah (w'.heap[U8]? =some (.cells #[.int .i64 ai,(.slice aT af.length aQ)] 26 (0,0)))∧ah (Below w.heap.size w w'))
  case atStart=>exact⟨(Vd),(1),aV,H',⟨Nat.le_refl _⟩,⟨by(with_reducible repeat (first | apply Kd.cL | apply Kd.cM | apply Kd.cn));exact Kd.bn U9.1 (fun _ hk=>hk.2)⟩,⟨by(with_reducible repeat (first | apply Kd.cL | apply Kd.cM | apply Kd.cn));exact Kd.bn Vk.1 (fun _ hk=>hk.2)⟩,⟨ay U7.1 aa⟩,⟨aj⟩⟩
  case round=>
   clear H';obtain⟨bY,dz,rfl,HA,bk,cN,eY,U7,HB⟩:=hrel;cases gk with
   | zero=>exact absurd HA.1 (by simp[gx.l0])
   | succ k1=>
    have H:=HA.1;clear HA;simp only[gx.l0]at H
    by_cases c13:dz≤a1
    ·rw[if_pos c13]at H
     have jX:=decide_eq_true c13;clear c13;have H':=m_ H;clear H;go_wp2
     repeat (go_quiet (fail);try go_wp2)
     go_loopg [10,11] k1 (fun kq v10 v11 w'=>∃(fK:Int) (gB:Int),v10= .int .i64 fK∧v11= .int .i64 gB∧ah (gx.l1 kq a1 kR bY dz fK gB=some (r1,r2))∧ah (kq≤k1)∧ah (Kd.R (Kd.int .i64) 2 w' w.heap.size (fun k_=>some k_≠(u8:Value).ownBlock) Va kR)∧ah (Kd.R (Kd.int .i64) 2 w' w.heap.size (fun k_=>some k_≠(Va:Value).ownBlock) u8 bY)∧ah (w'.heap[U8]? =some (.cells #[.int .i64 ai,(.slice aT af.length aQ)] 26 (0,0)))∧ah (Below w.heap.size w w'))
     case atStart=>exact⟨(0),(1),aV,aV,H',⟨Nat.le_refl _⟩,⟨Kd.ax cN.1 aa⟩,⟨Kd.ax eY.1 aa⟩,⟨ay U7.1 aa⟩,⟨aj⟩⟩
     case round=>
      clear H';obtain⟨fK,gB,rfl,rfl,HA,cj,cN,eY,U7,HB⟩:=hrel;cases gk with
      | zero=>exact absurd HA.1 (by simp[gx.l1])
      | succ k2=>
       have H:=HA.1;clear HA;simp only[gx.l1]at H
       by_cases c14:gB≤dz
       ·rw[if_pos c14]at H
        have kC:=decide_eq_true c14;clear c14
        by_cases c15:gB=0
        ·rw[if_pos c15]at H
         exact absurd H (by simp)
        ·rw[if_neg c15]at H
         obtain⟨iW,sE⟩:=cC c15
         by_cases c16:(Int.tmod dz gB)=0
         ·rw[if_pos c16]at H
          obtain⟨m5,Vp⟩:=cF c16;clear c16;obtain⟨tC,mJ,H⟩:=bu H;obtain⟨jH,mB⟩: ∃j_:Int,(wrap64 (gB - 1))=j_:=⟨_,rfl⟩;(try rw[mB]);replace H:(if 0≤(jH) then (if (jH)<(kR.length:Int) then (gx.l1 k2 a1 kR bY dz (wrap64 (fK+(wrap64 (tC*(rd kR (jH)))))) (wrap64 (gB+1))) else (none)) else (none))=some (r1,r2):=by first | (rw[mB]at H;exact H) | (simp only[mB]at H ⊢;exact H)
          (try rw[mB]at mJ);have Vr:(IntKind.i64.wrap (gB - 1))=jH:=(ep _).trans mB;obtain⟨c19,H⟩:=bf H;have mC:=decide_eq_true c19;clear c19;obtain⟨lE,H⟩:=bf H;have yN:=decide_eq_true lE;clear lE;have H':=m_ H;clear H;obtain⟨NK,NL,BS⟩:=Kd.cQ cN.1;subst BS;have Vi:0≤((jH):Int):=aE;have Vl:(jH)<(kR.length:Int):=aE;obtain⟨Vs,Vo,Vq⟩:=Kd.cv (Kd.cK cN.1).2.2 (jH) Vi Vl;cases Vo;replace Vi:=eq_true Vi;replace Vl:=eq_true Vl;go_wp2_with (first | (go_at_call 186;(with_reducible refine(jS.calls k2 (wrap64 (Int.tdiv dz gB)) tC _ mJ.1).mono ?_);rintro e w' ⟨rfl,⟨nd,rfl⟩⟩;(try first | exact⟨rfl,_,World.drewN_drewN _ _ _⟩ | exact⟨rfl,_,Eq.trans (World.drewN_drewN _ _ _) (congrArg (World.drewN _) (Nat.add_assoc _ _ _))⟩)))
          repeat (go_quiet (first | (go_at_call 186;(with_reducible refine(jS.calls k2 (wrap64 (Int.tdiv dz gB)) tC _ mJ.1).mono ?_);rintro e w' ⟨rfl,⟨nd,rfl⟩⟩;(try first | exact⟨rfl,_,World.drewN_drewN _ _ _⟩ | exact⟨rfl,_,Eq.trans (World.drewN_drewN _ _ _) (congrArg (World.drewN _) (Nat.add_assoc _ _ _))⟩)));try go_wp2_with (first | (go_at_call 186;(with_reducible refine(jS.calls k2 (wrap64 (Int.tdiv dz gB)) tC _ mJ.1).mono ?_);rintro e w' ⟨rfl,⟨nd,rfl⟩⟩;(try first | exact⟨rfl,_,World.drewN_drewN _ _ _⟩ | exact⟨rfl,_,Eq.trans (World.drewN_drewN _ _ _) (congrArg (World.drewN _) (Nat.add_assoc _ _ _))⟩))))
          first | go_roundg k2 | ((try subst mB);go_roundg k2)
          case measure=>have:=bk.1;have:=cj.1;omega
          case rel=>exact⟨(wrap64 (fK+(wrap64 (tC*(rd kR (jH)))))),(wrap64 (gB+1)),(by first | rfl | (simp;done) | (simp only[← mB]<;>(first | rfl | simp)) | (simp[*];done)),aV,H',⟨by have:=bk.1;have:=cj.1;omega⟩,⟨Kd.ax cN.1 aa⟩,⟨Kd.ax eY.1 aa⟩,⟨ay U7.1 aa⟩,⟨aj⟩⟩
         ·rw[if_neg c16]at H
          obtain⟨m5,Vp⟩:=cC c16;have H':=m_ H;clear H;go_wp2
          repeat (go_quiet (fail);try go_wp2)
          go_roundg k2
          case measure=>have:=bk.1;have:=cj.1;omega
          case rel=>exact⟨(fK),(wrap64 (gB+1)),aV,aV,H',⟨by have:=bk.1;have:=cj.1;omega⟩,⟨Kd.ax cN.1 aa⟩,⟨Kd.ax eY.1 aa⟩,⟨ay U7.1 aa⟩,⟨aj⟩⟩
       ·rw[if_neg c14]at H
        have kC:=decide_eq_false c14;clear c14
        by_cases gi:dz=0
        ·rw[if_pos gi]at H
         exact absurd H (by simp)
        ·rw[if_neg gi]at H
         obtain⟨pJ,FC⟩:=cC gi;obtain⟨lN,H⟩:=bf H;have Vj:=m_ lN;clear lN;obtain⟨Ve,Vh,H⟩: ∃Ve:List Int,ah (Ve=(bY++[wrap64 (Int.tdiv fK dz)]))∧(gx.l0 k2 a1 kR Ve (wrap64 (dz+1)))=some (r1,r2):=⟨_,⟨rfl⟩,H⟩;have H':=m_ H;clear H;go_wp2_with (first | ((with_reducible refine eP (b:= .append) (xs:= #[.tmp 48, .tmp 52]) rfl ?_);at_builtin;refine Kd.gA (Kd.int .i64) (w0:=w) w.heap.size rfl (.tmp 48) (.tmp 52) 29 2 (.int .i64 0) 8 rfl Try.underlying29 fB rfl (by decide) (by omega) u8 bY (wrap64 (Int.tdiv fK dz)) [.int .i64 (wrap64 (Int.tdiv fK dz))] (fun k_=>some k_≠(Va:Value).ownBlock) (fun _=>False) rfl rfl ?aP (fun _ hk=>hk.elim) ?aF ?aO ?aB ?aS ?aL ?_;(case aP=>exact rfl);(case aB=>exact aj);(case aF=>exact(fun k_ hk=>Kd.fresh' (Kd.cS (Kd.ax cN.1 aa)) k_ hk));(case aO=>exact(Kd.ax eY.1 aa));(case aS=>exact(aD aj));(case aL=>have:=Vj.1;omega);intro Vn wH ho hb hg hat;rw[← Vh.1]at ho;replace cN:=m_ (Kd.jY (ok:=(fun _=>True)) (Kd.ax (Kd.bn cN.1 (fun _ hk=>⟨trivial,hk⟩)) aa) hg hat);replace U7:=m_ (eI (ay U7.1 aa) hg (Kd.gU eY.1 U7.1 (by decide)));replace HB:=m_ (hb);have Vf:=m_ (ho);clear eY;clear ho hb hg hat))
         repeat (go_quiet (first | ((with_reducible refine eP (b:= .append) (xs:= #[.tmp 48, .tmp 52]) rfl ?_);at_builtin;refine Kd.gA (Kd.int .i64) (w0:=w) w.heap.size rfl (.tmp 48) (.tmp 52) 29 2 (.int .i64 0) 8 rfl Try.underlying29 fB rfl (by decide) (by omega) u8 bY (wrap64 (Int.tdiv fK dz)) [.int .i64 (wrap64 (Int.tdiv fK dz))] (fun k_=>some k_≠(Va:Value).ownBlock) (fun _=>False) rfl rfl ?aP (fun _ hk=>hk.elim) ?aF ?aO ?aB ?aS ?aL ?_;(case aP=>exact rfl);(case aB=>exact aj);(case aF=>exact(fun k_ hk=>Kd.fresh' (Kd.cS (Kd.ax cN.1 aa)) k_ hk));(case aO=>exact(Kd.ax eY.1 aa));(case aS=>exact(aD aj));(case aL=>have:=Vj.1;omega);intro Vn wH ho hb hg hat;rw[← Vh.1]at ho;replace cN:=m_ (Kd.jY (ok:=(fun _=>True)) (Kd.ax (Kd.bn cN.1 (fun _ hk=>⟨trivial,hk⟩)) aa) hg hat);replace U7:=m_ (eI (ay U7.1 aa) hg (Kd.gU eY.1 U7.1 (by decide)));replace HB:=m_ (hb);have Vf:=m_ (ho);clear eY;clear ho hb hg hat));try go_wp2_with (first | ((with_reducible refine eP (b:= .append) (xs:= #[.tmp 48, .tmp 52]) rfl ?_);at_builtin;refine Kd.gA (Kd.int .i64) (w0:=w) w.heap.size rfl (.tmp 48) (.tmp 52) 29 2 (.int .i64 0) 8 rfl Try.underlying29 fB rfl (by decide) (by omega) u8 bY (wrap64 (Int.tdiv fK dz)) [.int .i64 (wrap64 (Int.tdiv fK dz))] (fun k_=>some k_≠(Va:Value).ownBlock) (fun _=>False) rfl rfl ?aP (fun _ hk=>hk.elim) ?aF ?aO ?aB ?aS ?aL ?_;(case aP=>exact rfl);(case aB=>exact aj);(case aF=>exact(fun k_ hk=>Kd.fresh' (Kd.cS (Kd.ax cN.1 aa)) k_ hk));(case aO=>exact(Kd.ax eY.1 aa));(case aS=>exact(aD aj));(case aL=>have:=Vj.1;omega);intro Vn wH ho hb hg hat;rw[← Vh.1]at ho;replace cN:=m_ (Kd.jY (ok:=(fun _=>True)) (Kd.ax (Kd.bn cN.1 (fun _ hk=>⟨trivial,hk⟩)) aa) hg hat);replace U7:=m_ (eI (ay U7.1 aa) hg (Kd.gU eY.1 U7.1 (by decide)));replace HB:=m_ (hb);have Vf:=m_ (ho);clear eY;clear ho hb hg hat)))
         go_roundg k2
         case measure=>have:=bk.1;have:=cj.1;omega
         case rel=>exact⟨(Ve),(wrap64 (dz+1)),aV,H',⟨by have:=bk.1;have:=cj.1;omega⟩,⟨by(with_reducible repeat (first | apply Kd.cL | apply Kd.cM | apply Kd.cn));exact Kd.bn cN.1 (fun _ hk=>hk.2)⟩,⟨Kd.ax Vf.1 aa⟩,⟨ay U7.1 aa⟩,⟨aj⟩⟩
    ·rw[if_neg c13]at H
     have jX:=decide_eq_false c13;clear c13;simp only[Option.some.injEq,Prod.mk.injEq]at H;obtain⟨rfl,rfl⟩:=H;go_wp2
     repeat (go_quiet (fail);try go_wp2)
     go_ret2
     exact⟨_,bT,by(with_reducible repeat (first | apply Kd.cL | apply Kd.cM | apply Kd.cn));exact Kd.bn eY.1 (fun _ hk=>trivial),aj⟩
 ·rw[if_neg c4]at H
  obtain⟨dF,ig⟩:=cC c4;simp only[Option.some.injEq,Prod.mk.injEq]at H;obtain⟨rfl,rfl⟩:=H;go_enter Try.func82,Try.ntmps82;go_wp2_with (first | ((with_reducible refine bp (N:=2) rfl ?_);refine bQ (N:=2) (cs:= #[.int .i64 ai, .slice aT af.length aQ]) (t:=26) ?_;intro U8 hg m7 az hb;have U7:=m_ (az);have Vc:=m_ ((by rw[hg];exact(aD aq):w.heap.size≤U8));have Vb:=m_ ((by rw[hg];exact(aD aq):w.heap.size≤U8));replace HB:=m_ (aA aq hb);clear hb az hg;have uA:=aK U7.1;have uB:=aN U7.1;have uC:=av U7.1 0;have uD:=av U7.1 1) | (go_at_call 184;(with_reducible refine(iU.calls k ai _ _ af a1 1 oU _ ?ak ?au A3.1).mono ?_);(case ak=>exact Kd.aC (Kd.aC bz.1 HB.1) aa);(case au=>exact bH.1);rintro e kZ ⟨rfl,hb⟩;replace U7:=m_ (aI U7.1 hb);replace HB:=m_ (aA aj hb);clear hb))
  repeat (go_quiet (first | ((with_reducible refine bp (N:=2) rfl ?_);refine bQ (N:=2) (cs:= #[.int .i64 ai, .slice aT af.length aQ]) (t:=26) ?_;intro U8 hg m7 az hb;have U7:=m_ (az);have Vc:=m_ ((by rw[hg];exact(aD aq):w.heap.size≤U8));have Vb:=m_ ((by rw[hg];exact(aD aq):w.heap.size≤U8));replace HB:=m_ (aA aq hb);clear hb az hg;have uA:=aK U7.1;have uB:=aN U7.1;have uC:=av U7.1 0;have uD:=av U7.1 1) | (go_at_call 184;(with_reducible refine(iU.calls k ai _ _ af a1 1 oU _ ?ak ?au A3.1).mono ?_);(case ak=>exact Kd.aC (Kd.aC bz.1 HB.1) aa);(case au=>exact bH.1);rintro e kZ ⟨rfl,hb⟩;replace U7:=m_ (aI U7.1 hb);replace HB:=m_ (aA aj hb);clear hb));try go_wp2_with (first | ((with_reducible refine bp (N:=2) rfl ?_);refine bQ (N:=2) (cs:= #[.int .i64 ai, .slice aT af.length aQ]) (t:=26) ?_;intro U8 hg m7 az hb;have U7:=m_ (az);have Vc:=m_ ((by rw[hg];exact(aD aq):w.heap.size≤U8));have Vb:=m_ ((by rw[hg];exact(aD aq):w.heap.size≤U8));replace HB:=m_ (aA aq hb);clear hb az hg;have uA:=aK U7.1;have uB:=aN U7.1;have uC:=av U7.1 0;have uD:=av U7.1 1) | (go_at_call 184;(with_reducible refine(iU.calls k ai _ _ af a1 1 oU _ ?ak ?au A3.1).mono ?_);(case ak=>exact Kd.aC (Kd.aC bz.1 HB.1) aa);(case au=>exact bH.1);rintro e kZ ⟨rfl,hb⟩;replace U7:=m_ (aI U7.1 hb);replace HB:=m_ (aA aj hb);clear hb)))
  go_ret2
  exact⟨_,bT,by first | exact Kd.jW _ _ _ _ _ | exact Kd.lF _ _ _ _ _ | exact Kd.lG _ _ _ _ _ | exact Kd.lH _ _ _ _ _ | exact Kd.lI _ _ _ _ _,aj⟩

/-! ### spec_DrawZetaSeries: function 83 -/
def rO.f (k:Nat) (l0:List Int):Option (Int×(List (List Int))×Int):=(nD.f k l0).bind fun U7=>(some (U7.1,U7.2.1,U7.2.2))
set_option maxHeartbeats 8000000 in
set_option maxRecDepth 100000 in
theorem rO.calls (k:Nat) (A0:Option Addr) (c0:Nat) (l0:List Int) (r1:Int) (r2:List (List Int)) (r3:Int) (w:World) (hr0:Kd.C (Kd.int .u8) w A0 l0.length l0) (hc0:l0.length≤c0) (h:rO.f k l0=some (r1,r2,r3)):
  Calls Try.prog 83 #[.slice A0 l0.length c0] w fun e w'=>∃fN:Value,e= .returned (.tuple #[.agg #[.int .i64 r1,fN], .int .i64 r3])∧Kd.V (Kd.slice 2 (Kd.int .i64)) 29 w' w.heap.size (fun k_=>(w.heap.size≤k_)) fN r2∧Below w.heap.size w w':=by
 have eH:=Try.underlying26;have dm:=m_ hr0;have eW:=m_ hc0;clear hr0 hc0;have HB:=m_ (Below.refl w.heap.size w);have H:=h;unfold rO.f at H;clear h;obtain⟨⟨U9,Va,Vc⟩,A2,H⟩:=bu H;dsimp only at H;simp only[Option.some.injEq,Prod.mk.injEq]at H;obtain⟨rfl,rfl,rfl⟩:=H;go_enter Try.func83,Try.ntmps83;go_wp2_with (first | ((with_reducible refine bp (N:=2) rfl ?_);refine bQ (N:=2) (cs:= #[.int .i64 0, .slice none 0 0]) (t:=26) ?_;intro U7 hg w3 az hb;have U8:=m_ (az);have Vd:=m_ ((by rw[hg];exact(aD aq):w.heap.size≤U7));have Vf:=m_ ((by rw[hg];exact(aD aq):w.heap.size≤U7));replace HB:=m_ (aA aq hb);clear hb az hg) | ((with_reducible refine bE (f:=182) rfl ?_);refine bF (some 5) Try.func182 #[.slice A0 l0.length c0] ?_;(with_reducible refine(nD.calls k _ _ l0 U9 Va Vc _ ?ak ?au A2.1).mono ?_);(case ak=>exact Kd.aC (Kd.aC dm.1 HB.1) aa);(case au=>exact eW.1);rintro e w4 ⟨Ve,rfl,aM,hb⟩;refine⟨_,rfl, ?_⟩;have Vb:=m_ (Kd.oC (Kd.bP (ok':=fun k_=>(w.heap.size≤k_)∧k_≠U7) aM (fun k_ cl=>⟨(Nat.le_trans (aD aj) cl),(Kd.mD (g:=U7) (o:= .cells #[.int .i64 0, .slice none 0 0] 26 (0,0)) (ay U8.1 aa) k_ cl)⟩)) (aD aj));replace U8:=m_ (aI U8.1 hb);replace HB:=m_ (aA aj hb);clear hb;(try clear aM);have sO:=aK U8.1;have uS:=aN U8.1;have sP:=av U8.1 0;have uT:=av U8.1 1;obtain⟨oR,oS,tA⟩:=Kd.lM Vb.1;subst tA));refine bodyPost_ret (oM rfl _ _ U7 26 #[.int .i64 U9, .slice oR Va.length oS] (0,0) _ rfl (by(with_reducible repeat (first | refine bM ?_ _ | refine bB ?_ | refine bG ?_ _));refine cT (cs:= #[.int .i64 U9, .slice none 0 0]) ?_ 1 _ rfl;(with_reducible repeat (first | refine bM ?_ _ | refine bB ?_ | refine bG ?_ _));refine cT (cs:= #[.int .i64 0, .slice none 0 0]) ?_ 0 _ rfl;(with_reducible repeat (first | refine bM ?_ _ | refine bB ?_ | refine bG ?_ _));exact U8.1) Try.underlying26 rfl (by kernel_rfl)) rfl ?_;exact⟨_,bT,by(with_reducible repeat (first | apply Kd.dN | apply Kd.dO | apply Kd.dJ));exact Kd.bP (Kd.dQ (p:=⟨U7,1,none⟩) (Kd.dQ (p:=⟨U7,0,none⟩) (Kd.bP Vb.1 (fun k_ hk=>(⟨hk,hk.2⟩:_∧k_≠U7))) (fun _ hk=>hk.2) (.int .i64 U9)) (fun _ hk=>hk.2) (.slice oR Va.length oS)) (fun _ hk=>hk.1.1),aj⟩

/-! ### slices_Clone_int64_int64: function 213 -/
def n9.f (l0:List Int):Option (List Int):=if l0.length<17592186044416 then some l0 else none
set_option maxHeartbeats 8000000 in
set_option maxRecDepth 100000 in
theorem n9.calls (A0:Option Addr) (c0:Nat) (l0:List Int) (r:List Int) (w:World) (hr0:Kd.C (Kd.int .i64) w A0 l0.length l0) (hc0:l0.length≤c0) (h:n9.f l0=some r):
  Calls Try.prog 213 #[.slice A0 l0.length c0] w fun e w'=>∃cP:Value,e= .returned (cP)∧Kd.R (Kd.int .i64) 2 w' w.heap.size (fun _=>True) cP r∧Below w.heap.size w w':=by
 have dm:=m_ hr0;have eW:=m_ hc0;have hlen:l0.length<17592186044416:=by
  by_cases hh:l0.length<17592186044416
  ·exact hh
  ·rw[n9.f,if_neg hh]at h;cases h
 have U7:r=l0:=by rw[n9.f,if_pos hlen]at h;exact(Option.some.inj h).symm
 clear h;have HB:=m_ (Below.refl w.heap.size w);cases A0 with
 | none=>
  have hnil:l0= []:=by
   cases l0 with
   | nil=>rfl
   | cons x xs=>
    obtain⟨_,_,hh⟩:=hr0;obtain⟨_,e,_⟩:=hh (by simp);cases e
  subst hnil;subst U7;have qe: ∀W:World,(binOp .eql 29 (.slice none 0 c0) (.slice none 0 0)).run Try.prog W= .ok (.bool true) W:=fun W=>Lib.run_eql_slice_nil W 29 2 none 0 c0 0 0 Try.underlying29
  clear hr0 hc0;go_enter Try.func213,Try.ntmps213;go_wp2;go_ret;exact⟨_,rfl,Kd.jW _ _ _ _ _,aq⟩
 | some a=>
  have qe: ∀W:World,(binOp .eql 29 (.slice (some a) l0.length c0) (.slice none 0 0)).run Try.prog W= .ok (.bool false) W:=fun W=>Lib.run_eql_slice_nil W 29 2 (some a) l0.length c0 0 0 Try.underlying29
  clear hr0 hc0;have LM:=m_ hlen;clear hlen;obtain⟨y1,hy1⟩: ∃y_:List Int,y_=(([]:List Int)):=⟨_,rfl⟩;have U8:r=y1++l0:=by rw[hy1,U7];rfl
  have hz1:y1.length=0:=by rw[hy1];rfl
  have Va:=m_ hy1;have Nr:=m_ U8;have Nz:=m_ hz1;clear hy1 U8 hz1 U7;go_enter Try.func213,Try.ntmps213;go_wp2_with (first | ((with_reducible refine bp (N:=5) rfl ?_);refine Kd.fA (Kd.int .i64) _ 2 ?hg (N:=5) ?hd (xs:=([]:List Int)) (inner:=[]) (ok:=fun _=>True) (bX:=fun _=>True) ?hr ?hp (fun _ hk=>hk) trivial (Below.refl _ _) (Nat.le_refl _) (by simp) ?_;(case hd=>rfl);(case hg=>rfl);(case hr=>first | (go_simp;done) | (go_simp;rfl));(case hp=>exact(aZ.none _ _));intro Vb w3 gQ hb cy cA;clear cy cA;rw[← Va.1]at gQ;have U9:=m_ (Kd.cJ gQ (aD aq));replace HB:=m_ (aA aq hb);clear hb gQ) | ((with_reducible refine eP (b:= .append) (xs:= #[.tmp 5, .tmp 6]) rfl ?_);at_builtin;refine Kd.Gy (Kd.int .i64) (w0:=w) w.heap.size rfl (.tmp 5) (.tmp 6) 29 2 (.int .i64 0) 8 rfl Try.underlying29 fB rfl (by decide) (by omega) Vb y1 l0 _ _ _ (fun _=>True) (fun _=>False) rfl rfl ?aO ?aR (fun _ _ h=>h) (fun _ h=>h.elim) ?aF ?aB ?aS ?aL ?_;(case aR=>repeat (first | exact(Kd.aC dm.1 HB.1) | (with_reducible refine Kd.xp ?_ _) | (with_reducible refine Kd.xq ?_ _) | (with_reducible refine Kd.xw ?_)));(case aB=>exact aq);(case aF=>exact(fun _ _=>trivial));(case aO=>exact(Kd.ax U9.1 aa));(case aS=>exact(aD aq));(case aL=>have:=LM.out;have:=Nz.out;omega);intro Gz w5 ho hb hg hat;rw[← Nr.out]at ho;replace HB:=m_ (hb);have iR:=m_ (ho);clear U9;clear ho hb hg hat));go_ret;exact⟨_,rfl,(Kd.ax iR.1 aa),aq⟩

/-! ### impl_trimmed: function 170 -/
def jU.l0:Nat→List Int→Option (List Int)
 | 0,_=>none
 | k+1,x0=>if (x0.length:Int)>0 then (if 0≤(wrap64 ((x0.length:Int) - 1)) then (if (wrap64 ((x0.length:Int) - 1))<(x0.length:Int) then (if (rd x0 (wrap64 ((x0.length:Int) - 1)))=0 then (if (wrap64 ((x0.length:Int) - 1))≤(x0.length:Int) then (jU.l0 k (x0.take ((wrap64 ((x0.length:Int) - 1)):Int).toNat)) else (none)) else ((n9.f x0).bind fun xB=>(some xB))) else (none)) else (none)) else ((n9.f x0).bind fun CX=>(some CX))
def jU.f (k:Nat) (l0:List Int):Option (List Int):=jU.l0 k l0
set_option maxHeartbeats 8000000 in
set_option maxRecDepth 100000 in
theorem jU.calls (k:Nat) (oV:Nat→Prop) (A0:Option Addr) (c0:Nat) (l0:List Int) (r:List Int) (w:World) (hs0:Kd.V (Kd.int .i64) 2 w w.heap.size (fun k_=>oV k_) (.slice A0 l0.length c0) l0) (h:jU.f k l0=some r):
  Calls Try.prog 170 #[.slice A0 l0.length c0] w fun e w'=>∃cP:Value,e= .returned (cP)∧Kd.R (Kd.int .i64) 2 w' w.heap.size (fun k_=>(w.heap.size≤k_)) cP r∧Below w.heap.size w w':=by
 have vp:=m_ (show Kd.V (Kd.int .i64) 2 w w.heap.size (fun k_=>(oV k_∨w.heap.size≤k_)) (.slice A0 l0.length c0) l0 from Kd.bP hs0 (fun k_ hk=> .inl hk));have HB:=m_ (Below.refl w.heap.size w);have H:=h;unfold jU.f at H;clear h;have H':=m_ H;clear H;go_enter Try.func170,Try.ntmps170;go_wp2;go_loopg [0] k (fun kq v0 w'=>∃(eD:List Int),ah (jU.l0 kq eD=some r)∧ah (kq≤k)∧ah (Kd.V (Kd.int .i64) 2 w' w.heap.size (fun k_=>(oV k_∨w.heap.size≤k_)) v0 eD)∧ah (Below w.heap.size w w'))
 case atStart=>exact⟨(l0),H',⟨Nat.le_refl _⟩,⟨Kd.bh vp.1 aa⟩,⟨aq⟩⟩
 case round=>
  clear H';obtain⟨eD,HA,bk,iS,HB⟩:=hrel;cases gk with
  | zero=>exact absurd HA.1 (by simp[jU.l0])
  | succ k1=>
   have H:=HA.1;clear HA;simp only[jU.l0]at H
   by_cases c2:(eD.length:Int)>0
   ·rw[if_pos c2]at H
    have nU:=decide_eq_true c2;have CY:decide (0<eD.length)=true:=decide_eq_true (by omega);clear c2;obtain⟨bO,gW⟩: ∃j_:Int,(wrap64 ((eD.length:Int) - 1))=j_:=⟨_,rfl⟩;(try rw[gW]);replace H:(if 0≤(bO) then (if (bO)<(eD.length:Int) then (if (rd eD (bO))=0 then (if (bO)≤(eD.length:Int) then (jU.l0 k1 (eD.take ((bO):Int).toNat)) else (none)) else ((n9.f eD).bind fun xB=>(some xB))) else (none)) else (none))=some r:=by first | (rw[gW]at H;exact H) | (simp only[gW]at H ⊢;exact H)
    have CZ:(IntKind.i64.wrap ((eD.length:Int) - 1))=bO:=(ep _).trans gW;obtain⟨c4,H⟩:=bf H;have dF:=decide_eq_true c4;clear c4;obtain⟨c5,H⟩:=bf H;have eM:=decide_eq_true c5;clear c5
    by_cases c6:(rd eD (bO))=0
    ·rw[if_pos c6]at H
     obtain⟨iA,mO⟩:=cF c6;clear c6;have iX:=eq_true (aE:0≤(bO));obtain⟨c8,H⟩:=bf H;have jy:=eq_true c8;have nS:=decide_eq_true c8;clear c8;obtain⟨U7,Vf,H⟩: ∃U7:List Int,ah (U7=(eD.take ((bO):Int).toNat))∧(jU.l0 k1 U7)=some r:=⟨_,⟨rfl⟩,H⟩;have H':=m_ H;clear H;obtain⟨nV,lp,p8⟩:=Kd.lM iS.1;subst p8;have U8:0≤((bO):Int):=aE;have U9:(bO)<(eD.length:Int):=aE;obtain⟨Va,Ve,Vj⟩:=Kd.cv (Kd.eE iS.1).2.2 (bO) U8 U9;cases Ve;replace U8:=eq_true U8;replace U9:=eq_true U9;have Vd:((bO):Int)≤((eD.length:Int):Int):=aE;obtain⟨Od,xC,_,zI,_⟩:=info_parts fB;have Vg:eD.length≤lp:=(Kd.eE iS.1).2.1;have xD:Kd.F (Kd.int .i64) _ _ (some Va) eD.length eD:=(Kd.zJ (base:=w.heap.size) iS.1).2.2;have GA:=Oe (P:=Try.prog) 29 2 .i64 Try.underlying29 xC (some Va) eD.length lp (bO) (aE) Vd Vg;have Vb:=Kd.Og (m:=((bO):Int).toNat) xD (by omega);have Vc:U7.length=((bO):Int).toNat:=(by rw[Vf.1,List.length_take];omega);rw[← Vf.1]at Vb;rw[← Vc]at GA;have Vi:=m_ (show Kd.V (Kd.int .i64) 2 _ w.heap.size _ (.slice (some Va) U7.length lp) U7 from Kd.Oh (by omega) Vb);have Vm:=m_ (show U7.length≤lp from by omega);clear Vb xD Vg xC zI;have Vn:=m_ Vc;clear Vc;replace Vd:=eq_true Vd;go_wp2
     first | go_roundg k1 | ((try subst gW);go_roundg k1)
     case measure=>have:=bk.1;omega
     case rel=>exact⟨(U7),H',⟨by have:=bk.1;omega⟩,⟨Kd.bh Vi.1 aa⟩,⟨aq⟩⟩
    ·rw[if_neg c6]at H
     obtain⟨iA,mO⟩:=cC c6;obtain⟨xB,oJ,H⟩:=bu H;obtain rfl:=Option.some.inj H;obtain⟨jL,jA,sW⟩:=Kd.lM iS.1;subst sW;have U8:0≤((bO):Int):=aE;have U9:(bO)<(eD.length:Int):=aE;obtain⟨Va,Ve,Vj⟩:=Kd.cv (Kd.eE iS.1).2.2 (bO) U8 U9;cases Ve;replace U8:=eq_true U8;replace U9:=eq_true U9;go_wp2_with (first | ((with_reducible refine bE (f:=213) rfl ?_);refine bF (some 21) Try.func213 #[.slice (some Va) eD.length jA] ?_;(with_reducible refine(n9.calls _ _ eD xB _ ?ak ?au oJ.1).mono ?_);(case ak=>exact Kd.aC (Kd.eE iS.1).2.2 aa);(case au=>exact(Kd.eE iS.1).2.1);rintro e ji ⟨Vo,rfl,aM,hb⟩;refine⟨_,rfl, ?_⟩;replace iS:=m_ (Kd.fH (Kd.bh iS.1 aa) (Kd.cx aM) hb);have Vk:=m_ (Kd.cJ (Kd.qQ (M:=fun k_=>(w.heap.size≤k_)) aM (aD aq) (fun k_ h_=>h_)) (aD aq));replace HB:=m_ (aA aq hb);clear hb;(try clear aM)));go_ret;exact⟨_,by first | rfl | (simp[fE,fF]<;>rfl) | (simp only[← gW];first | rfl | (simp[fE,fF]<;>rfl)) | (simp[*,fE,fF]<;>rfl),by(with_reducible repeat (first | apply Kd.cL | apply Kd.cM | apply Kd.cn));exact Kd.bn Vk.1 (fun _ hk=>hk.1),aq⟩
   ·rw[if_neg c2]at H
    have nU:=decide_eq_false c2;have CY:decide (0<eD.length)=false:=decide_eq_false (by omega);clear c2;obtain⟨CX,wX,H⟩:=bu H;obtain rfl:=Option.some.inj H;obtain⟨C0,C2,C3⟩:=Kd.lM iS.1;subst C3;go_wp2_with (first | ((with_reducible refine bE (f:=213) rfl ?_);refine bF (some 21) Try.func213 #[.slice C0 eD.length C2] ?_;(with_reducible refine(n9.calls _ _ eD CX _ ?ak ?au wX.1).mono ?_);(case ak=>exact Kd.aC (Kd.eE iS.1).2.2 aa);(case au=>exact(Kd.eE iS.1).2.1);rintro e qL ⟨Vl,rfl,aM,hb⟩;refine⟨_,rfl, ?_⟩;replace iS:=m_ (Kd.fH (Kd.bh iS.1 aa) (Kd.cx aM) hb);have Vh:=m_ (Kd.cJ (Kd.qQ (M:=fun k_=>(w.heap.size≤k_)) aM (aD aq) (fun k_ h_=>h_)) (aD aq));replace HB:=m_ (aA aq hb);clear hb;(try clear aM)));go_ret;exact⟨_,bT,by(with_reducible repeat (first | apply Kd.cL | apply Kd.cM | apply Kd.cn));exact Kd.bn Vh.1 (fun _ hk=>hk.1),aq⟩

/-! ### impl_determinant: function 178 -/
mutual
def eU.l0:Nat→List (List Int)→List Int→List (List Int)→Int→Option (List Int)
 | 0,_,_,_,_=>none
 | k+1,x0,x3,x4,x5=>if x5≤(x0.length:Int) then ((ek.f k x0 x4).bind fun nW=>(eU.l1 k x0 x3 nW x5 (nW.length:Int) 0)) else ((jU.f k x3).bind fun C4=>(some C4))
def eU.l1:Nat→List (List Int)→List Int→List (List Int)→Int→Int→Int→Option (List Int)
 | 0,_,_,_,_,_,_=>none
 | k+1,x0,x3,x4,x5,U7,jb=>if jb<U7 then (if 0≤jb then (if jb<(x4.length:Int) then (if jb<((aG x4 jb).length:Int) then (if 0≤(wrap64 (x5 - 1)) then (if (wrap64 (x5 - 1))<(x3.length:Int) then (eU.l1 k x0 x3 (x4.set (jb:Int).toNat ((aG x4 jb).set (jb:Int).toNat (wrap64 ((rd (aG x4 jb) jb)+(rd x3 (wrap64 (x5 - 1))))))) x5 U7 (wrap64 (jb+1))) else (none)) else (none)) else (none)) else (none)) else (none)) else ((ek.f k x0 x4).bind fun vq=>((jF.f k vq).bind fun vr=>(if x5=0 then (none) else (if x3.length<17592186044416 then (eU.l0 k x0 (x3++[wrap64 (Int.tdiv (wrap64 (-vr)) x5)]) x4 (wrap64 (x5+1))) else (none)))))
end
def eU.f (k:Nat) (l0:List (List Int)):Option (List Int):=(iT.f k (l0.length:Int)).bind fun zK=>(eU.l0 k l0 (([1]:List Int)) zK 1)
def eU.T9:Bool×List (List Nat×List Nat):=(true,[([],[]),([],[]),([0,1],[0,1]),([2],[2]),([],[]),([3,4],[3,4]),([5],[5]),([],[]),([],[]),([8],[8]),([7,9],[7,9]),([10],[10]),([6,11],[6,11]),([3,4,0,1,2,3,4,5,6,7,8,9,10,11,12],[3,4]),([13,12,0,1,2,3,4,5,6,7,8,9,10,11,12],[12,13])])
def eU.B9:List Nat:=[0,0,3,7,0,31,63,0,0,256,896,1920,4095,8191,16383]
theorem eU.BX:fu .any (opsOf Try.f178 9)=eU.T9:=by kernel_rfl
theorem eU.BZ:jv eU.T9.2 eU.B9=true:=by kernel_rfl
set_option maxHeartbeats 8000000 in
set_option maxRecDepth 100000 in
theorem eU.calls (k:Nat) (A0:Option Addr) (c0:Nat) (l0:List (List Int)) (r:List Int) (w:World) (hr0:Kd.C (Kd.slice 2 (Kd.int .i64)) w A0 l0.length l0) (hc0:l0.length≤c0) (h:eU.f k l0=some r):
  Calls Try.prog 178 #[.slice A0 l0.length c0] w fun e w'=>∃cP:Value,e= .returned (cP)∧Kd.R (Kd.int .i64) 2 w' w.heap.size (fun _=>True) cP r∧Below w.heap.size w w':=by
 have dm:=m_ hr0;have eW:=m_ hc0;clear hr0 hc0;have HB:=m_ (Below.refl w.heap.size w);have H:=h;unfold eU.f at H;clear h;obtain⟨VI,Vy⟩: ∃y_,ah (y_=([1]:List Int)):=⟨_,⟨rfl⟩⟩;rw[← Vy.1]at H;obtain⟨zK,A2,H⟩:=bu H;have H':=m_ H;clear H;go_enter Try.func178,Try.ntmps178;go_wp2_with (first | ((with_reducible refine bp (N:=7) rfl ?_);refine Kd.fA (Kd.int .i64) _ 2 ?hg (N:=7) ?hd (xs:=([1]:List Int)) (inner:=[.int .i64 1]) (ok:=fun _=>True) (bX:=fun _=>True) ?hr ?hp (fun _ hk=>hk) trivial (Below.refl _ _) (Nat.le_refl _) (by simp) ?_;(case hd=>rfl);(case hg=>rfl);(case hr=>first | (go_simp;done) | (go_simp;rfl));(case hp=>exact(aZ.one (show Kd.M (Kd.int .i64) _ _ _ 1 [.int .i64 1] from rfl) (aZ.none _ _)));intro Wj w3 gQ hb cy cA;clear cy cA;rw[← Vy.1]at gQ;have Vi:=m_ (Kd.cJ gQ (aD aq));replace HB:=m_ (aA aq hb);clear hb gQ) | ((with_reducible refine bE (f:=221) rfl ?_);refine bF (some 10) Try.func221 #[.int .i64 (l0.length:Int)] ?_;(with_reducible refine(iT.calls k (l0.length:Int) zK _ A2.1).mono ?_);rintro e w5 ⟨V7,rfl,aM,hb⟩;refine⟨_,rfl, ?_⟩;have VK:=m_ (Kd.iB (Kd.nT aM (Kd.cS (Kd.ax Vi.1 aa))) (aD aq));replace Vi:=m_ (Kd.ax (Kd.ax Vi.1 aa) hb);replace HB:=m_ (aA aq hb);clear hb;(try clear aM)));go_loopg [3,4,5] k (fun kq v3 v4 v5 w'=>∃(bU:List Int) (bV:List (List Int)) (bL:Int),v5= .int .i64 bL∧ah (eU.l0 kq l0 bU bV bL=some r)∧ah (kq≤k)∧ah (Kd.R (Kd.int .i64) 2 w' w.heap.size (fun _=>True) v3 bU)∧ah (Kd.S (Kd.slice 2 (Kd.int .i64)) 29 w' w.heap.size (fun k_=>some k_≠(v3:Value).ownBlock) v4 bV)∧ah (Below w.heap.size w w'))
 case atStart=>exact⟨(VI),(zK),(1),aV,H',⟨Nat.le_refl _⟩,⟨Kd.ax Vi.1 aa⟩,⟨by(with_reducible repeat (first | apply Kd.fU | apply Kd.fV | apply Kd.e8));exact Kd.cX VK.1 (fun _ hk=>hk.2)⟩,⟨aq⟩⟩
 case round=>
  clear H';obtain⟨bU,bV,bL,rfl,HA,bk,bA,U8,HB⟩:=hrel;cases gk with
  | zero=>exact absurd HA.1 (by simp[eU.l0])
  | succ k1=>
   have H:=HA.1;clear HA;simp only[eU.l0]at H
   by_cases c6:bL≤(l0.length:Int)
   ·rw[if_pos c6]at H
    have iA:=decide_eq_true c6;clear c6;obtain⟨nW,A7,H⟩:=bu H;have H':=m_ H;clear H;obtain⟨q4,q5,xE⟩:=Kd.eS U8.1;subst xE;go_wp2_with (first | ((with_reducible refine bE (f:=220) rfl ?_);refine bF (some 19) Try.func220 #[.slice A0 l0.length c0, .slice q4 bV.length q5] ?_;(with_reducible refine(ek.calls k1 _ _ l0 _ _ bV nW _ ?ak ?au ?ck ?cI A7.1).mono ?_);(case ak=>exact Kd.aC (Kd.aC dm.1 HB.1) aa);(case au=>exact eW.1);(case ck=>exact Kd.aC (Kd.fo U8.1).2.2 aa);(case cI=>exact(Kd.fo U8.1).2.1);rintro e w9 ⟨V9,rfl,aM,hb⟩;refine⟨_,rfl, ?_⟩;have VG:=m_ (Kd.iB (Kd.nT (Kd.nT aM (Kd.cS (Kd.ax bA.1 aa))) (Kd.tw (Kd.bC U8.1 aa))) (aD aq));replace bA:=m_ (Kd.ax (Kd.ax bA.1 aa) hb);replace U8:=m_ (Kd.jj (Kd.bC U8.1 aa) (Kd.oQ aM) hb);replace HB:=m_ (aA aq hb);clear hb;(try clear aM);obtain⟨vu,vv,C5⟩:=Kd.eS VG.1;subst C5));go_loopg [22] k1 (fun kq C6 w'=>∃(bS:List Int) (dL:List (List Int)) (U7:Int),C6= .int .i64 U7∧ah (eU.l1 kq l0 bS dL bL (nW.length:Int) U7=some r)∧ah (kq≤k1)∧ah (Kd.R (Kd.int .i64) 2 w' w.heap.size (fun _=>True) u3 bS)∧ah (Kd.S (Kd.slice 2 (Kd.int .i64)) 29 w' w.heap.size (fun k_=>some k_≠(u3:Value).ownBlock) (.slice vu nW.length vv) dL)∧ah (Below w.heap.size w w'))
    case atStart=>exact⟨(bU),(nW),(0),aV,H',⟨Nat.le_refl _⟩,⟨Kd.ax bA.1 aa⟩,⟨by(with_reducible repeat (first | apply Kd.fU | apply Kd.fV | apply Kd.e8));exact Kd.cX VG.1 (fun _ hk=>hk.1.2)⟩,⟨aq⟩⟩
    case round=>
     clear H';obtain⟨bS,dL,U7,rfl,HA,cj,bA,U8,HB⟩:=hrel;have U9:=(Kd.fo U8.1).1;rw[U9]at U8;(try simp only[U9]);(try simp only[U9]at bA);cases gk with
     | zero=>exact absurd HA.1 (by simp[eU.l1])
     | succ k2=>
      have H:=HA.1;clear HA;simp only[eU.l1]at H
      by_cases c11:U7<(nW.length:Int)
      ·rw[if_pos c11]at H
       have jw:=decide_eq_true c11;(try (have Vs:=jw;simp only[U9]at Vs));clear c11;obtain⟨c12,H⟩:=bf H;have kL:=decide_eq_true c12;clear c12;obtain⟨c13,H⟩:=bf H;have jX:=decide_eq_true c13;(try (have V2:=jX;simp only[U9]at V2));clear c13;obtain⟨c14,H⟩:=bf H;have kC:=decide_eq_true c14;(try (have VJ:=kC;simp only[U9]at VJ));clear c14;obtain⟨Va,Vd⟩: ∃j_:Int,(wrap64 (bL - 1))=j_:=⟨_,rfl⟩;(try rw[Vd]);replace H:(if 0≤(Va) then (if (Va)<(bS.length:Int) then (eU.l1 k2 l0 bS (dL.set (U7:Int).toNat ((aG dL U7).set (U7:Int).toNat (wrap64 ((rd (aG dL U7) U7)+(rd bS (Va)))))) bL (nW.length:Int) (wrap64 (U7+1))) else (none)) else (none))=some r:=by first | (rw[Vd]at H;exact H) | (simp only[Vd]at H ⊢;exact H)
       have Wg:(IntKind.i64.wrap (bL - 1))=Va:=(ep _).trans Vd;obtain⟨c16,H⟩:=bf H;have m5:=decide_eq_true c16;clear c16;obtain⟨c17,H⟩:=bf H;have uz:=decide_eq_true c17;(try (have VQ:=uz;simp only[U9]at VQ));clear c17;obtain⟨Vb,V3,H⟩: ∃Vb:List Int,ah (Vb=((aG dL U7).set (U7:Int).toNat (wrap64 ((rd (aG dL U7) U7)+(rd bS (Va))))))∧(eU.l1 k2 l0 bS (dL.set (U7:Int).toNat Vb) bL (nW.length:Int) (wrap64 (U7+1)))=some r:=⟨_,⟨rfl⟩,H⟩;obtain⟨Vh,V4,H⟩: ∃Vh:List (List Int),ah (Vh=(dL.set (U7:Int).toNat Vb))∧(eU.l1 k2 l0 bS Vh bL (nW.length:Int) (wrap64 (U7+1)))=some r:=⟨_,⟨rfl⟩,H⟩;have H':=m_ H;clear H
       try go_wp2
       replace bA:=m_ (Kd.cn bA.1);replace U8:=m_ (Kd.e8 U8.1);replace HB:=m_ (fe HB.1);have Vl:0≤(U7:Int):=aE;have Vf:U7<(dL.length:Int):=aE;obtain⟨VL,V8,V0,VM,Vj,VD,VA⟩:=eX (Kd.fo U8.1).2.2 U7 Vl Vf;cases VM;obtain⟨We,VY,VP,VB⟩:=Kd.xo U8.1 [] U7 Vl (by first | exact Vf | exact aE | (have e_:=(Kd.fo U8.1).1;omega));obtain⟨Wc,rfl,Vp⟩:=VP;have Ve:=VB 0 _ rfl;rw[Nat.add_zero,show((Kd.slice 2 (Kd.int .i64))).sz=1 from rfl,Nat.mul_one]at Ve;replace Ve:=Option.some.inj (Ve.symm.trans Vj);rw[Ve]at Vp;have Vg:=m_ (show Kd.R (Kd.int .i64) 2 _ _ _ _ (aG dL U7) from Vp);clear Ve Vp;have Vz:=m_ Vj;clear VB VY;have Vt:=m_ VA;have V5:=m_ VD;clear VA VD;replace Vl:=eq_true Vl;replace Vf:=eq_true Vf;have Vw:0≤(U7:Int):=aE;have Vq:U7<((aG dL U7).length:Int):=aE;obtain⟨Wi,VT,Vu⟩:=Kd.cv (by repeat (first | (with_reducible exact Vt.1) | (with_reducible refine Kd.xp ?_ _) | (with_reducible refine Kd.xq ?_ _) | (with_reducible refine Kd.xw ?_) | exact Vt.1)) U7 Vw Vq;cases VT;replace Vw:=eq_true Vw;replace Vq:=eq_true Vq;obtain⟨nM,mH,nN⟩:=Kd.cQ bA.1;subst nN;have Vv:0≤((Va):Int):=aE;have Vo:(Va)<(bS.length:Int):=aE;obtain⟨VV,VN,VF⟩:=Kd.cv (Kd.cK bA.1).2.2 (Va) Vv Vo;cases VN;replace Vv:=eq_true Vv;replace Vo:=eq_true Vo;have Vr:0≤(U7:Int):=aE;have Vx:(U7:Int)<(((aG dL U7).length:Int):Int):=aE;obtain⟨Vm,M3,zj,VC,VR,Wa,VH⟩:=Kd.sM Vg.1 (by omega);(first | cases zj | (injection zj with dK iP iQ;(first | subst dK | (injection dK with dK;subst dK));subst iQ;clear iP));have Wh:=m_ VC;have VW:=m_ VH;clear VC VR VH;(first | simp only[add_plain]at Vu | skip);obtain⟨VU,VZ⟩:=Kd.sN 0 Vg.1 (U7:Int) Vr Vx;replace Vr:=eq_true Vr;replace Vx:=eq_true Vx;have xF:(U7:Int)<(dL.length:Int):=(by have h_:(U7:Int)<((dL.length:Int):Int):=aE;first | exact h_ | (have e_:=(Kd.fo U8.1).1;omega) | simpa only[List.length_set,List.length_set] using h_);obtain⟨GD,Oi,C8,C9,xG,zL,xH⟩:=Kd.Da U8.1 [] (U7:Int) (aE) (by first | exact xF | (have e_:=(Kd.fo U8.1).1;have h_:=xF;omega));obtain⟨Oj,rfl,p9⟩:=C9;have qa:=xG 0 _ rfl;rw[Nat.add_zero,show((Kd.slice 2 (Kd.int .i64))).sz=1 from rfl,Nat.mul_one]at qa;replace qa:=Option.some.inj (qa.symm.trans Vz.1);subst qa;clear xG C8;replace p9:=(show Kd.R (Kd.int .i64) 2 _ _ _ _ (aG dL U7) from p9);have q6:=Kd.zE p9 (U7:Int) (wrap64 ((rd (aG dL U7) U7)+(rd bS (Va))));rw[← V3.1]at q6;have Vn:=xH q6.2 (fun k_ e_=>by injection e_ with e_;subst e_;exact p9.1 _ rfl) (x':=Vb) (Kd.kP q6.1);rw[← V4.1]at Vn;have VE:=m_ Vn;clear q6 Vn xH zL;refine gH (n:=15) (S:=fun w'=>w'.cell? (VL.add (U7).toNat)=some (.slice (some ⟨Vm,0,none⟩) (aG dL U7).length V0)∧w'.cell? ⟨Vm,(U7).toNat,none⟩=some (.int .i64 (rd (aG dL U7) U7))∧w'.cell? (VV.add ((Va)).toNat)=some (.int .i64 (rd bS (Va)))) (ds:=[14]) #[false,false,false,false,false,false,false,false,false,false,false,false,false,false,false] (by kernel_rfl) rfl rfl ⟨Vj,Vu,VF⟩ (fun hHeld=> ?_);refine iH eU.BX eU.BZ (fun dn ic=> ?_);generalize wr.drew=uO at bA U8 HB VW Vg VE Vt Vz VZ VU Vj Vu VF hHeld ⊢;refine aJ 0 15 25 1 ?_;refine aJ 1 15 26 3 ?_;refine aJ 2 15 27 7 ?_;refine aJ 4 15 29 23 ?_;refine aJ 7 15 32 151 ?_;refine aJ 8 15 33 407 ?_;refine aJ 9 15 34 919 ?_;refine aJ 10 15 35 1943 ?_;refine cW 3 15 28 1951 hHeld ?_;refine aJ 5 15 30 1983 ?_;refine cW 6 15 31 2047 hHeld ?_;refine cW 11 15 36 4095 hHeld ?_;refine aJ 12 15 37 8191 ?_;refine aJ 13 15 38 16383 ?_;refine qH (i:=14) (N:=none) #[true,true,true,true,true,true,true,true,true,true,true,true,true,true,true] rfl rfl (pT dn.1 (by kernel_rfl)) (by decide) (fun K hK=> ?_);refine qI (w1:= ?_) (by rfl) rfl ?_ ?_
       rotate_left
       ·go_simp
        rfl
       refine hK.out _ _ ?_;clear hK K;refine gI (iI dn.1 (by kernel_rfl)) ?_
       try go_wp2
       (try simp only[← U9])
       first | go_roundg k2 | ((try subst Vd);go_roundg k2)
       case measure=>have:=bk.1;have:=cj.1;omega
       case rel=>exact⟨(bS),(Vh),(wrap64 (U7+1)),aV,H',⟨by have:=bk.1;have:=cj.1;omega⟩,⟨by(try simp only[U9]);(with_reducible repeat (first | apply Kd.cL | apply Kd.cM | apply Kd.cn));exact Kd.bn (Kd.gm (p:=⟨Vm,(U7:Int).toNat,none⟩) (Kd.Ok bA.1 rfl ((Vg.1.1 _ rfl).1)) (fun _ hk=>hk.2) (.int .i64 (wrap64 ((rd (aG dL U7) U7)+(rd bS (Va)))))) (fun _ hk=>trivial)⟩,⟨by(try simp only[U9]);(with_reducible repeat (first | apply Kd.fU | apply Kd.fV | apply Kd.e8));exact VE.1⟩,⟨aj⟩⟩
      ·rw[if_neg c11]at H
       have jw:=decide_eq_false c11;(try (have Vs:=jw;simp only[U9]at Vs));clear c11;obtain⟨vq,vw,H⟩:=bu H;obtain⟨vr,vz,H⟩:=bu H
       by_cases jZ:bL=0
       ·rw[if_pos jZ]at H
        exact absurd H (by simp)
       ·rw[if_neg jZ]at H
        obtain⟨zm,GF⟩:=cC jZ;obtain⟨nH,H⟩:=bf H;have V1:=m_ nH;clear nH;obtain⟨Vk,VX,H⟩: ∃Vk:List Int,ah (Vk=(bS++[wrap64 (Int.tdiv (wrap64 (-vr)) bL)]))∧(eU.l0 k2 l0 Vk dL (wrap64 (bL+1)))=some r:=⟨_,⟨rfl⟩,H⟩;have H':=m_ H;clear H;go_wp2_with (first | ((with_reducible refine bE (f:=220) rfl ?_);refine bF (some 43) Try.func220 #[.slice A0 l0.length c0, .slice vu dL.length vv] ?_;(with_reducible refine(ek.calls k2 _ _ l0 _ _ dL vq _ ?ak ?au ?ck ?cI vw.1).mono ?_);(case ak=>exact Kd.aC (Kd.aC dm.1 HB.1) aa);(case au=>exact eW.1);(case ck=>exact Kd.aC (Kd.fo U8.1).2.2 aa);(case cI=>exact(Kd.fo U8.1).2.1);rintro e kZ ⟨V6,rfl,aM,hb⟩;refine⟨_,rfl, ?_⟩;have Vc:=m_ (Kd.iB (Kd.nT (Kd.nT aM (Kd.cS (Kd.ax bA.1 aa))) (Kd.tw (Kd.bC U8.1 aa))) (aD aq));replace bA:=m_ (Kd.ax (Kd.ax bA.1 aa) hb);replace U8:=m_ (Kd.jj (Kd.bC U8.1 aa) (Kd.oQ aM) hb);replace HB:=m_ (aA aq hb);clear hb;(try clear aM);obtain⟨gj,eK,qB⟩:=Kd.eS Vc.1;subst qB) | ((with_reducible refine bE (f:=219) rfl ?_);refine bF (some 44) Try.func219 #[.slice gj vq.length eK] ?_;(with_reducible refine(jF.calls k2 _ _ vq vr _ ?ak ?au vz.1).mono ?_);(case ak=>exact Kd.aC (Kd.fo Vc.1).2.2 aa);(case au=>exact(Kd.fo Vc.1).2.1);rintro e w' ⟨rfl,⟨nd,rfl⟩⟩;refine⟨_,rfl, ?_⟩) | ((with_reducible refine eP (b:= .append) (xs:= #[.tmp 40, .tmp 48]) rfl ?_);at_builtin;refine Kd.gA (Kd.int .i64) (w0:=w) w.heap.size rfl (.tmp 40) (.tmp 48) 29 2 (.int .i64 0) 8 rfl Try.underlying29 fB rfl (by decide) (by omega) u3 bS (wrap64 (Int.tdiv (wrap64 (-vr)) bL)) [.int .i64 (wrap64 (Int.tdiv (wrap64 (-vr)) bL))] (fun _=>True) (fun _=>False) rfl rfl ?aP (fun _ hk=>hk.elim) ?aF ?aO ?aB ?aS ?aL ?_;(case aP=>exact rfl);(case aB=>exact aq);(case aF=>exact(fun _ _=>trivial));(case aO=>exact(Kd.ax bA.1 aa));(case aS=>exact(aD aq));(case aL=>have:=V1.1;omega);intro Wl pK ho hb hg hat;rw[← VX.1]at ho;replace U8:=m_ (Kd.tq (ok:=(fun k_=>some k_≠(.slice gj vq.length eK:Value).ownBlock)) (Kd.bC (Kd.cX U8.1 (fun _ hk=>⟨hk.2,hk.1⟩)) aa) hg hat);replace Vc:=m_ (Kd.tq (ok:=(fun k_=>some k_≠(.slice vu dL.length vv:Value).ownBlock)) (Kd.bC (Kd.cX Vc.1 (fun _ hk=>⟨hk.2,hk.1.2⟩)) aa) hg hat);replace HB:=m_ (hb);have VO:=m_ (ho);clear bA;clear ho hb hg hat));(try simp only[← U9]);go_roundg k2
        case measure=>have:=bk.1;have:=cj.1;omega
        case rel=>exact⟨(Vk),(dL),(wrap64 (bL+1)),aV,H',⟨by have:=bk.1;have:=cj.1;omega⟩,⟨by(try simp only[U9]);(with_reducible repeat (first | apply Kd.cL | apply Kd.cM | apply Kd.cn));exact VO.1⟩,⟨by(try simp only[U9]);(with_reducible repeat (first | apply Kd.fU | apply Kd.fV | apply Kd.e8));exact Kd.cX U8.1 (fun _ hk=>hk.2)⟩,⟨aq⟩⟩
   ·rw[if_neg c6]at H
    have iA:=decide_eq_false c6;clear c6;obtain⟨C4,zx,H⟩:=bu H;obtain rfl:=Option.some.inj H;obtain⟨p4,oP,p5⟩:=Kd.cQ bA.1;subst p5;go_wp2_with (first | ((with_reducible refine bE (f:=170) rfl ?_);refine bF (some 51) Try.func170 #[.slice p4 bU.length oP] ?_;(with_reducible refine(jU.calls k1 (fun k_=>some k_=(.slice p4 bU.length oP:Value).ownBlock) _ _ bU C4 _ ?ak zx.1).mono ?_);(case ak=>exact Kd.GG (Kd.lX rfl (Kd.iC (bA.1) (Kd.gV U8.1) (by decide))));rintro e oA ⟨Wf,rfl,aM,hb⟩;refine⟨_,rfl, ?_⟩;replace U8:=m_ (Kd.jj (Kd.bC U8.1 aa) (Kd.cx aM) hb);have VS:=m_ (Kd.cJ (Kd.eB (Kd.bn (ok':=fun k_=>True) aM (fun _ cl=>trivial)) (Kd.cS (Kd.ax bA.1 aa))) (aD aq));replace bA:=m_ (Kd.eC (Kd.ax bA.1 aa) (Kd.cx aM) hb);replace HB:=m_ (aA aq hb);clear hb;(try clear aM)));go_ret;exact⟨_,bT,by(with_reducible repeat (first | apply Kd.cL | apply Kd.cM | apply Kd.cn));exact Kd.bn VS.1 (fun _ hk=>trivial),aq⟩

/-! ### impl_Graph_reciprocal: function 139 -/
def oh.f (k:Nat) (ai:Int) (af:List (List Int)):Option (List Int):=(fP.f k ai af).bind fun xI=>((eU.f k xI).bind fun Db=>(some Db))
set_option maxHeartbeats 8000000 in
set_option maxRecDepth 100000 in
theorem oh.calls (k:Nat) (ai:Int) (aT:Option Addr) (aQ:Nat) (af:List (List Int)) (r:List Int) (w:World) (cG:Kd.C (Kd.slice 2 (Kd.int .i64)) w aT af.length af) (cH:af.length≤aQ) (h:oh.f k ai af=some r):
  Calls Try.prog 139 #[.agg #[.int .i64 ai, .slice aT af.length aQ]] w fun e w'=>∃cP:Value,e= .returned (cP)∧Kd.R (Kd.int .i64) 2 w' w.heap.size (fun _=>True) cP r∧Below w.heap.size w w':=by
 have eH:=Try.underlying26;have bz:=m_ cG;have bH:=m_ cH;clear cG cH;have HB:=m_ (Below.refl w.heap.size w);have H:=h;unfold oh.f at H;clear h;obtain⟨xI,A2,H⟩:=bu H;obtain⟨Db,A3,H⟩:=bu H;obtain rfl:=Option.some.inj H;go_enter Try.func139,Try.ntmps139;go_wp2_with (first | ((with_reducible refine bp (N:=1) rfl ?_);refine bQ (N:=1) (cs:= #[.int .i64 ai, .slice aT af.length aQ]) (t:=26) ?_;intro U9 hg w4 az hb;have U7:=m_ (az);have Ve:=m_ ((by rw[hg];exact(aD aq):w.heap.size≤U9));have Vd:=m_ ((by rw[hg];exact(aD aq):w.heap.size≤U9));replace HB:=m_ (aA aq hb);clear hb az hg;have sO:=aK U7.1;have uS:=aN U7.1;have sP:=av U7.1 0;have uT:=av U7.1 1) | ((with_reducible refine bE (f:=128) rfl ?_);refine bF (some 4) Try.func128 #[.agg #[.int .i64 ai, .slice aT af.length aQ]] ?_;(with_reducible refine(fP.calls k ai _ _ af xI _ ?ak ?au A2.1).mono ?_);(case ak=>exact Kd.aC (Kd.aC bz.1 HB.1) aa);(case au=>exact bH.1);rintro e w6 ⟨Vc,rfl,aM,hb⟩;refine⟨_,rfl, ?_⟩;have U8:=m_ (Kd.iB aM (aD aj));replace U7:=m_ (aI U7.1 hb);replace HB:=m_ (aA aj hb);clear hb;(try clear aM);obtain⟨BP,BQ,BR⟩:=Kd.eS U8.1;subst BR) | ((with_reducible refine bE (f:=178) rfl ?_);refine bF (some 5) Try.func178 #[.slice BP xI.length BQ] ?_;(with_reducible refine(eU.calls k _ _ xI Db _ ?ak ?au A3.1).mono ?_);(case ak=>exact Kd.aC (Kd.fo U8.1).2.2 aa);(case au=>exact(Kd.fo U8.1).2.1);rintro e w8 ⟨Vb,rfl,aM,hb⟩;refine⟨_,rfl, ?_⟩;replace U8:=m_ (Kd.jj (Kd.bC U8.1 aa) (Kd.cx aM) hb);have Va:=m_ (Kd.cJ aM (aD aj));replace U7:=m_ (aI U7.1 hb);replace HB:=m_ (aA aj hb);clear hb;(try clear aM)));go_ret;exact⟨_,bT,(Kd.ax Va.1 aa),aj⟩

-- NOT PRINTED: function 187 (impl_ZetaSeries_1)

/-! ### impl_at: function 140 -/
def qu.f (l0:List Int) (a1:Int):Option (Int):=if a1<(l0.length:Int) then (if 0≤a1 then (some (rd l0 a1)) else (none)) else (some 0)
set_option maxHeartbeats 8000000 in
set_option maxRecDepth 100000 in
theorem qu.calls (A0:Option Addr) (c0:Nat) (l0:List Int) (a1:Int) (r:Int) (w:World) (hr0:Kd.C (Kd.int .i64) w A0 l0.length l0) (hc0:l0.length≤c0) (h:qu.f l0 a1=some r):
  Calls Try.prog 140 #[.slice A0 l0.length c0, .int .i64 a1] w fun e w'=>e= .returned (.int .i64 r)∧bK w w':=by
 have dm:=m_ hr0;have eW:=m_ hc0;clear hr0 hc0;have H:=h;unfold qu.f at H;clear h
 by_cases c3:a1<(l0.length:Int)
 ·rw[if_pos c3]at H
  have iq:=decide_eq_true c3;clear c3;obtain⟨c4,H⟩:=bf H;have dF:=decide_eq_true c4;clear c4;obtain rfl:=Option.some.inj H;have U8:0≤(a1:Int):=aE;have U7:a1<(l0.length:Int):=aE;obtain⟨Va,U9,Vb⟩:=Kd.cv dm.1 a1 U8 U7;cases U9;replace U8:=eq_true U8;replace U7:=eq_true U7;go_enter Try.func140,Try.ntmps140;go_wp2;go_ret;exact⟨aV,by repeat (first | exact bK.refl _ | apply bK.step)⟩
 ·rw[if_neg c3]at H
  have iq:=decide_eq_false c3;clear c3;obtain rfl:=Option.some.inj H;go_enter Try.func140,Try.ntmps140;go_wp2;go_ret;exact⟨aV,by repeat (first | exact bK.refl _ | apply bK.step)⟩

/-! ### impl_isSmall: function 167 -/
def rY.f (a0:Int):Option (Bool):=(fk.f a0 (-1000000000000000) 1000000000000000).bind fun Dc=>(some Dc)
set_option maxHeartbeats 8000000 in
set_option maxRecDepth 100000 in
theorem rY.calls (a0:Int) (r:Bool) (w:World) (h:rY.f a0=some r):
  Calls Try.prog 167 #[.int .i64 a0] w fun e w'=>e= .returned (.bool r)∧bK w w':=by
 have H:=h;unfold rY.f at H;clear h;obtain⟨Dc,A2,H⟩:=bu H;obtain rfl:=Option.some.inj H;go_enter Try.func167,Try.ntmps167;go_wp2_with (first | ((with_reducible refine bE (f:=106) rfl ?_);refine bF (some 4) Try.func106 #[.int .i64 a0, .int .i64 (-1000000000000000), .int .i64 1000000000000000] ?_;(with_reducible refine(fk.calls a0 (-1000000000000000) 1000000000000000 Dc _ A2.1).mono ?_);rintro e w' ⟨rfl,⟨nd,rfl⟩⟩;refine⟨_,rfl, ?_⟩));go_ret;exact⟨aV,by repeat (first | exact bK.refl _ | apply bK.step)⟩

/-! ### impl_absolute: function 169 -/
def nZ.f (a0:Int):Option (Int):=some (mx a0 (wrap64 (-a0)))
set_option maxHeartbeats 8000000 in
set_option maxRecDepth 100000 in
theorem nZ.calls (a0:Int) (r:Int) (w:World) (h:nZ.f a0=some r):
  Calls Try.prog 169 #[.int .i64 a0] w fun e w'=>e= .returned (.int .i64 r)∧Below w.heap.size w w':=by
 have HB:=m_ (Below.refl w.heap.size w);have H:=h;unfold nZ.f at H;clear h;obtain⟨U8,U7⟩: ∃j_:Int,(mx a0 (wrap64 (-a0)))=j_:=⟨_,rfl⟩;(try rw[U7]);replace H:(some U8)=some r:=by first | (rw[U7]at H;exact H) | (simp only[U7]at H ⊢;exact H)
 have U9:(if a0<(wrap64 (-a0)) then (wrap64 (-a0)) else a0)=U8:=U7;obtain rfl:=Option.some.inj H;go_enter Try.func169,Try.ntmps169;go_wp2;go_ret;exact⟨by first | rfl | (simp[fE,fF]<;>rfl) | (simp only[← U7];first | rfl | (simp[fE,fF]<;>rfl)) | (simp[*,fE,fF]<;>rfl),aq⟩

/-! ### impl_plusTimes: function 168 -/
def kg.j0:Nat→Int→Int→Int→Bool→Option (Int×Bool)
 | 0,_,_,_,_=>none
 | k+1,x0,x1,x2,iO=>if iO=true then (some (x0,true)) else ((nZ.f x1).bind fun xJ=>((nZ.f x2).bind fun tD=>(if tD=0 then (none) else (if xJ>(wrap64 (Int.tdiv (1000000000000000:Int) tD)) then (some (0,false)) else ((rY.f (wrap64 (x0+(wrap64 (x1*x2))))).bind fun Df=>(some (wrap64 (x0+(wrap64 (x1*x2))),Df)))))))
def kg.f (k:Nat) (a0:Int) (a1:Int) (a2:Int):Option (Int×Bool):=if a1=0 then (kg.j0 k a0 a1 a2 true) else (kg.j0 k a0 a1 a2 (a2 == 0))
set_option maxHeartbeats 8000000 in
set_option maxRecDepth 100000 in
theorem kg.calls (k:Nat) (a0:Int) (a1:Int) (a2:Int) (r1:Int) (r2:Bool) (w:World) (h:kg.f k a0 a1 a2=some (r1,r2)):
  Calls Try.prog 168 #[.int .i64 a0, .int .i64 a1, .int .i64 a2] w fun e w'=>e= .returned (.tuple #[.int .i64 r1, .bool r2])∧Below w.heap.size w w':=by
 have HB:=m_ (Below.refl w.heap.size w);have H:=h;unfold kg.f at H;clear h;have U8:=m_ H;clear H;go_enter Try.func168,Try.ntmps168;go_upto_region 1 with (fail)
 go_cut [13] (fun wO wc=>∃(kq:Nat) (U7:Bool),wO= .bool U7∧ah (kg.j0 kq a0 a1 a2 U7=some (r1,r2))∧ah (kq≤k)∧ah (Below w.heap.size w wc))
 case first=>
  have H:=U8.1;clear U8
  by_cases c5:a1=0
  ·rw[if_pos c5]at H
   obtain⟨eM,oT⟩:=cF c5;clear c5;(first | rw[eM] | (simp only[ep,gG];rw[eM]) | skip);have H':=m_ H;clear H;go_wp2;go_meet
   case rel=>exact⟨_,(true),aV,H',⟨by first | omega | exact Nat.le_refl _⟩,⟨aq⟩⟩
  ·rw[if_neg c5]at H
   obtain⟨eM,oT⟩:=cC c5;(first | rw[eM] | (simp only[ep,gG];rw[eM]) | skip);have H':=m_ H;clear H;go_wp2;go_meet
   case rel=>exact⟨_,((a2 == 0)),aV,H',⟨by first | omega | exact Nat.le_refl _⟩,⟨aq⟩⟩
 case rest=>
  clear U8;obtain⟨kq,U7,rfl,HA,Va,HB⟩:=hcut;cases kq with
  | zero=>exact absurd HA.1 (by simp[kg.j0])
  | succ U9=>
   have H:=HA.1;clear HA;simp only[kg.j0]at H
   by_cases c6:U7=true
   ·subst c6
    rw[if_pos rfl]at H;simp only[Option.some.injEq,Prod.mk.injEq]at H;obtain⟨rfl,rfl⟩:=H;go_wp2
    go_ret2
    exact⟨bT,aq⟩
   ·replace c6:=Bool.eq_false_iff.mpr c6
    subst c6;rw[if_neg (show ¬(false=true) by decide)]at H;obtain⟨xJ,A7,H⟩:=bu H;obtain⟨tD,A8,H⟩:=bu H
    by_cases c9:tD=0
    ·rw[if_pos c9]at H
     exact absurd H (by simp)
    ·rw[if_neg c9]at H
     obtain⟨nO,zD⟩:=cC c9
     by_cases c10:xJ>(wrap64 (Int.tdiv (1000000000000000:Int) tD))
     ·rw[if_pos c10]at H
      have mI:=decide_eq_true c10;clear c10;simp only[Option.some.injEq,Prod.mk.injEq]at H;obtain⟨rfl,rfl⟩:=H;go_wp2_with (first | ((with_reducible refine bE (f:=169) rfl ?_);refine bF (some 16) Try.func169 #[.int .i64 a1] ?_;(with_reducible refine(nZ.calls a1 xJ _ A7.1).mono ?_);rintro e jh ⟨rfl,hb⟩;refine⟨_,rfl, ?_⟩;replace HB:=m_ (aA aq hb);clear hb) | ((with_reducible refine bE (f:=169) rfl ?_);refine bF (some 18) Try.func169 #[.int .i64 a2] ?_;(with_reducible refine(nZ.calls a2 tD _ A8.1).mono ?_);rintro e ld ⟨rfl,hb⟩;refine⟨_,rfl, ?_⟩;replace HB:=m_ (aA aq hb);clear hb))
      go_ret2
      exact⟨bT,aq⟩
     ·rw[if_neg c10]at H
      have mI:=decide_eq_false c10;clear c10;obtain⟨Df,oW,H⟩:=bu H;simp only[Option.some.injEq,Prod.mk.injEq]at H;obtain⟨rfl,rfl⟩:=H;go_wp2_with (first | ((with_reducible refine bE (f:=169) rfl ?_);refine bF (some 16) Try.func169 #[.int .i64 a1] ?_;(with_reducible refine(nZ.calls a1 xJ _ A7.1).mono ?_);rintro e m8 ⟨rfl,hb⟩;refine⟨_,rfl, ?_⟩;replace HB:=m_ (aA aq hb);clear hb) | ((with_reducible refine bE (f:=169) rfl ?_);refine bF (some 18) Try.func169 #[.int .i64 a2] ?_;(with_reducible refine(nZ.calls a2 tD _ A8.1).mono ?_);rintro e kz ⟨rfl,hb⟩;refine⟨_,rfl, ?_⟩;replace HB:=m_ (aA aq hb);clear hb) | ((with_reducible refine bE (f:=167) rfl ?_);refine bF (some 28) Try.func167 #[.int .i64 (wrap64 (a0+(wrap64 (a1*a2))))] ?_;(with_reducible refine(rY.calls (wrap64 (a0+(wrap64 (a1*a2)))) Df _ oW.1).mono ?_);rintro e w' ⟨rfl,⟨nd,rfl⟩⟩;refine⟨_,rfl, ?_⟩))
      go_ret2
      exact⟨bT,aq⟩

/-! ### impl_series: function 188 -/
mutual
def dX.l0:Nat→List Int→List Int→Int→Int→Option (List Int×Bool)
 | 0,_,_,_,_=>none
 | k+1,x0,x6,iO,gp=>if gp<iO then (if gp=0 then (dX.j1 k x0 x6 gp 1 iO gp) else (dX.j1 k x0 x6 gp 0 iO gp)) else (some (x6,true))
def dX.j1:Nat→List Int→List Int→Int→Int→Int→Int→Option (List Int×Bool)
 | 0,_,_,_,_,_,_=>none
 | k+1,x0,x6,x7,x8,iO,gp=>dX.l1 k x0 x6 x7 x8 1 iO gp
def dX.l1:Nat→List Int→List Int→Int→Int→Int→Int→Int→Option (List Int×Bool)
 | 0,_,_,_,_,_,_,_=>none
 | k+1,x0,x6,x7,x8,dG,iO,gp=>if dG≤x7 then ((qu.f x0 dG).bind fun qb=>(if 0≤(wrap64 (x7 - dG)) then (if (wrap64 (x7 - dG))<(x6.length:Int) then ((kg.f k x8 (wrap64 (-qb)) (rd x6 (wrap64 (x7 - dG)))).bind fun xK=>(if xK.2=true then (dX.l1 k x0 x6 x7 xK.1 (wrap64 (dG+1)) iO gp) else (some (([]:List Int),false)))) else (none)) else (none))) else (if x6.length<17592186044416 then (dX.l0 k x0 (x6++[x8]) iO (wrap64 (gp+1))) else (none))
end
def dX.f (k:Nat) (l0:List Int) (a1:Int):Option (List Int×Bool):=dX.l0 k l0 (([]:List Int)) (wrap64 (a1+1)) 0
def dX.GH:Bool×List (List Nat×List Nat):=(true,[([],[]),([],[]),([],[]),([1,2],[1,2]),([3],[3]),([],[]),([],[]),([],[]),([6,7],[6,7]),([5,8],[5,8]),([9],[9]),([0,4,10,3],[0,4,10]),([11],[11]),([12],[12]),([12],[12]),([13,11,0,1,2,3,4,5,6,7,8,9,10,11,12,13],[0,13]),([14,15,0,1,2,3,4,5,6,7,8,9,10,11,12,13,14,15],[14])])
def dX.Ol:List Nat:=[0,0,0,6,14,0,0,0,192,480,992,2047,4095,8191,8191,16383,65535]
theorem dX.GI:fu .any (opsOf Try.f188 11)=dX.GH:=by kernel_rfl
theorem dX.GJ:jv dX.GH.2 dX.Ol=true:=by kernel_rfl
set_option maxHeartbeats 8000000 in
set_option maxRecDepth 100000 in
theorem dX.calls (k:Nat) (A0:Option Addr) (c0:Nat) (l0:List Int) (a1:Int) (r1:List Int) (r2:Bool) (w:World) (hr0:Kd.C (Kd.int .i64) w A0 l0.length l0) (hc0:l0.length≤c0) (h:dX.f k l0 a1=some (r1,r2)):
  Calls Try.prog 188 #[.slice A0 l0.length c0, .int .i64 a1] w fun e w'=>∃cP:Value,e= .returned (.tuple #[cP, .bool r2])∧Kd.R (Kd.int .i64) 2 w' w.heap.size (fun _=>True) cP r1∧Below w.heap.size w w':=by
 have dm:=m_ hr0;have eW:=m_ hc0;clear hr0 hc0;have HB:=m_ (Below.refl w.heap.size w);have H:=h;unfold dX.f at H;clear h;obtain⟨Ve,Vo,H⟩: ∃Ve:List Int,ah (Ve=(([]:List Int)))∧(dX.l0 k l0 Ve (wrap64 (a1+1)) 0)=some (r1,r2):=⟨_,⟨rfl⟩,H⟩;have H':=m_ H;clear H;go_enter Try.func188,Try.ntmps188;go_wp2_with (first | ((with_reducible refine bp (N:=11) rfl ?_);refine Kd.fA (Kd.int .i64) _ 2 ?hg (N:=11) ?hd (xs:=([]:List Int)) (inner:=[]) (ok:=fun _=>True) (bX:=fun _=>True) ?hr ?hp (fun _ hk=>hk) trivial (Below.refl _ _) (Nat.le_refl _) (by simp) ?_;(case hd=>rfl);(case hg=>rfl);(case hr=>first | (go_simp;done) | (go_simp;rfl));(case hp=>exact(aZ.none _ _));intro Vt w3 gQ hb cy cA;clear cy cA;rw[← Vo.1]at gQ;have Vr:=m_ (Kd.cJ gQ (aD aq));replace HB:=m_ (aA aq hb);clear hb gQ));go_loopg [6,14] k (fun kq v6 Cn w'=>∃(bZ:List Int) (eJ:Int),Cn= .int .i64 eJ∧ah (dX.l0 kq l0 bZ (wrap64 (a1+1)) eJ=some (r1,r2))∧ah (kq≤k)∧ah (Kd.R (Kd.int .i64) 2 w' w.heap.size (fun _=>True) v6 bZ)∧ah (Below w.heap.size w w'))
 case atStart=>exact⟨(Ve),(0),aV,H',⟨Nat.le_refl _⟩,⟨Kd.ax Vr.1 aa⟩,⟨aq⟩⟩
 case round=>
  clear H';obtain⟨bZ,eJ,rfl,HA,bk,bN,HB⟩:=hrel;cases gk with
  | zero=>exact absurd HA.1 (by simp[dX.l0])
  | succ k1=>
   have H:=HA.1;clear HA;simp only[dX.l0]at H
   by_cases c5:eJ<(wrap64 (a1+1))
   ·rw[if_pos c5]at H
    have eM:=decide_eq_true c5;clear c5;have Vh:=m_ H;clear H
    go_upto_if 18 with (fail)
    go_cut [8] (fun v8 wc=>∃(kq:Nat) (Vg:Int),v8= .int .i64 Vg∧ah (dX.j1 kq l0 bZ eJ Vg (wrap64 (a1+1)) eJ=some (r1,r2))∧ah (kq≤k1)∧ah (Kd.R (Kd.int .i64) 2 wc w.heap.size (fun _=>True) u6 bZ)∧ah (Below w.heap.size w wc))
    case first=>
     have H:=Vh.1;clear Vh
     by_cases c7:eJ=0
     ·rw[if_pos c7]at H
      obtain⟨iX,lR⟩:=cF c7;clear c7;(first | rw[iX] | (simp only[ep,gG];rw[iX]) | skip);have H':=m_ H;clear H;go_wp2;go_meet
      case rel=>exact⟨_,(1),aV,H',⟨by have:=bk.1;first | omega | exact Nat.le_refl _⟩,⟨Kd.ax bN.1 aa⟩,⟨aq⟩⟩
     ·rw[if_neg c7]at H
      obtain⟨iX,lR⟩:=cC c7;(first | rw[iX] | (simp only[ep,gG];rw[iX]) | skip);have H':=m_ H;clear H;go_wp2;go_meet
      case rel=>exact⟨_,(0),aV,H',⟨by have:=bk.1;first | omega | exact Nat.le_refl _⟩,⟨Kd.ax bN.1 aa⟩,⟨aq⟩⟩
    case rest=>
     clear Vh;obtain⟨kq,Vg,rfl,HA,Vd,bN,HB⟩:=hcut;cases kq with
     | zero=>exact absurd HA.1 (by simp[dX.j1])
     | succ Vm=>
      have H:=HA.1;clear HA;simp only[dX.j1]at H;have H':=m_ H;clear H;go_wp2;go_loopg [8,10] Vm (fun kq v8 v10 w'=>∃(fZ:Int) (U8:Int),v8= .int .i64 fZ∧v10= .int .i64 U8∧ah (dX.l1 kq l0 bZ eJ fZ U8 (wrap64 (a1+1)) eJ=some (r1,r2))∧ah (kq≤Vm)∧ah (Kd.R (Kd.int .i64) 2 w' w.heap.size (fun _=>True) u6 bZ)∧ah (Below w.heap.size w w'))
      case atStart=>exact⟨(Vg),(1),aV,aV,H',⟨Nat.le_refl _⟩,⟨Kd.ax bN.1 aa⟩,⟨aq⟩⟩
      case round=>
       clear H';obtain⟨fZ,U8,rfl,rfl,HA,eF,bN,HB⟩:=hrel;cases gk with
       | zero=>exact absurd HA.1 (by simp[dX.l1])
       | succ k3=>
        have H:=HA.1;clear HA;simp only[dX.l1]at H
        by_cases c8:U8≤eJ
        ·rw[if_pos c8]at H
         have jy:=decide_eq_true c8;clear c8;obtain⟨qb,A9,H⟩:=bu H;obtain⟨U7,U9⟩: ∃j_:Int,(wrap64 (eJ - U8))=j_:=⟨_,rfl⟩;(try rw[U9]);replace H:(if 0≤(U7) then (if (U7)<(bZ.length:Int) then ((kg.f k3 fZ (wrap64 (-qb)) (rd bZ (U7))).bind fun xK=>(if xK.2=true then (dX.l1 k3 l0 bZ eJ xK.1 (wrap64 (U8+1)) (wrap64 (a1+1)) eJ) else (some (([]:List Int),false)))) else (none)) else (none))=some (r1,r2):=by first | (rw[U9]at H;exact H) | (simp only[U9]at H ⊢;exact H)
         (try rw[U9]at A9);have Vs:(IntKind.i64.wrap (eJ - U8))=U7:=(ep _).trans U9;obtain⟨c11,H⟩:=bf H;have jw:=decide_eq_true c11;clear c11;obtain⟨c12,H⟩:=bf H;have kL:=decide_eq_true c12;clear c12;obtain⟨⟨Vj,Vq⟩,oW,H⟩:=bu H;dsimp only at H
         by_cases c14:Vq=true
         ·subst c14
          rw[if_pos rfl]at H;have H':=m_ H;clear H
          try go_wp2
          replace bN:=m_ (Kd.cn bN.1);replace HB:=m_ (fe HB.1);obtain⟨zF,zG,xm⟩:=Kd.cQ bN.1;subst xm;have Va:0≤((U7):Int):=aE;have Vb:(U7)<(bZ.length:Int):=aE;obtain⟨Vk,Vl,Vc⟩:=Kd.cv (Kd.cK bN.1).2.2 (U7) Va Vb;cases Vl;replace Va:=eq_true Va;replace Vb:=eq_true Vb;refine gH (n:=17) (S:=fun w'=>w'.cell? (Vk.add ((U7)).toNat)=some (.int .i64 (rd bZ (U7)))) (ds:=[]) #[false,false,false,false,false,false,false,false,false,false,false,false,false,false,false,false,false] (by kernel_rfl) rfl rfl (Vc) (fun hHeld=> ?_);refine iH dX.GI dX.GJ (fun dn ic=> ?_);generalize wr.drew=kz at bN HB Vc hHeld ⊢;refine aJ 0 17 25 1 ?_;refine aJ 1 17 26 3 ?_;refine aJ 2 17 27 7 ?_;refine aJ 5 17 30 39 ?_;refine aJ 6 17 31 103 ?_;refine aJ 7 17 32 231 ?_;refine aJ 8 17 33 487 ?_;refine aJ 9 17 34 999 ?_;refine ni (i:=10) (N:=some 35) (v:= ?_) (a':= ?_) #[true,true,true,false,false,true,true,true,true,true,true,false,false,false,false,false,false] rfl rfl (Dh dn.1 ic.1 (by kernel_rfl)) (fun _ _ _ h=>h) (Or.inl ⟨by rfl, ?_⟩) hHeld ?_ ?_
          rotate_left
          ·intro w' s0
           go_simp
           with_reducible rfl
          rotate_left
          ·simp only[Act.put,iY]
           rfl
          refine gC 3 17 (some 28) 2031 (fun K hK=> ?_);refine ij Try.func140 (by kernel_rfl) rfl #[.slice A0 l0.length c0, .int .i64 U8] (by rfl) rfl rfl jk ?_
          with_reducible refine(qu.calls _ _ l0 U8 qb _ ?ak ?au A9.1).mono ?_
          (case ak=>exact Kd.aC (Kd.aC dm.1 HB.1) aa);(case au=>exact eW.1);rintro e w' ⟨rfl,⟨nd,rfl⟩⟩;refine⟨_,rfl, ?_⟩;refine hK.out _ _ (hHeld) (fun hHeld=> ?_);clear hK K;refine fL ?_;refine aJ 4 17 29 2047 ?_;refine gC 11 17 (some 36) 4095 (fun K hK=> ?_);refine ij Try.func168 (by kernel_rfl) rfl #[.int .i64 fZ, .int .i64 (wrap64 (-qb)), .int .i64 (rd bZ (U7))] (by rfl) rfl rfl (by(try simp only[List.map_toArray,List.map_cons,List.map_nil]);first | done | (simp only[U9];rfl) | rfl | (simp only[List.length_drop,List.length_take];rfl)) ?_
          with_reducible refine(kg.calls k3 fZ (wrap64 (-qb)) (rd bZ (U7)) Vj true _ oW.1).mono ?_
          rintro e pO ⟨rfl,hb⟩;have Vi:=(hb.cell (World.block_lt_of_cell? _ _ (hHeld))).trans (hHeld);refine⟨_,rfl, ?_⟩;replace bN:=m_ (Kd.ax (Kd.ax bN.1 aa) hb);replace HB:=m_ (aA aq hb);refine hK.out _ _ (Vi) (fun hHeld=> ?_);clear hK K;refine fL ?_;refine aJ 12 17 24 8191 ?_;refine aJ 13 17 37 16383 ?_;refine aJ 14 17 38 32767 ?_;refine aJ 15 17 8 65535 ?_;refine aJ 16 17 9 131071 ?_;refine gI (iI dn.1 (by kernel_rfl)) ?_
          try go_wp2
          first | go_roundg k3 | ((try subst U9);go_roundg k3)
          case measure=>have:=bk.1;have:=Vd.1;have:=eF.1;omega
          case rel=>exact⟨(Vj),(wrap64 (U8+1)),aV,aV,H',⟨by have:=bk.1;have:=Vd.1;have:=eF.1;omega⟩,⟨Kd.ax bN.1 aa⟩,⟨aq⟩⟩
         ·replace c14:=Bool.eq_false_iff.mpr c14
          subst c14;rw[if_neg (show ¬(false=true) by decide)]at H;simp only[Option.some.injEq,Prod.mk.injEq]at H;obtain⟨rfl,rfl⟩:=H
          try go_wp2
          replace bN:=m_ (Kd.cn bN.1);replace HB:=m_ (fe HB.1);obtain⟨zM,xL,vA⟩:=Kd.cQ bN.1;subst vA;have Va:0≤((U7):Int):=aE;have Vb:(U7)<(bZ.length:Int):=aE;obtain⟨Vk,Vl,Vc⟩:=Kd.cv (Kd.cK bN.1).2.2 (U7) Va Vb;cases Vl;replace Va:=eq_true Va;replace Vb:=eq_true Vb;refine gH (n:=17) (S:=fun w'=>w'.cell? (Vk.add ((U7)).toNat)=some (.int .i64 (rd bZ (U7)))) (ds:=[]) #[false,false,false,false,false,false,false,false,false,false,false,false,false,false,false,false,false] (by kernel_rfl) rfl rfl (Vc) (fun hHeld=> ?_);refine iH dX.GI dX.GJ (fun dn ic=> ?_);generalize wr.drew=sS at bN HB Vc hHeld ⊢;refine aJ 0 17 25 1 ?_;refine aJ 1 17 26 3 ?_;refine aJ 2 17 27 7 ?_;refine aJ 5 17 30 39 ?_;refine aJ 6 17 31 103 ?_;refine aJ 7 17 32 231 ?_;refine aJ 8 17 33 487 ?_;refine aJ 9 17 34 999 ?_;refine ni (i:=10) (N:=some 35) (v:= ?_) (a':= ?_) #[true,true,true,false,false,true,true,true,true,true,true,false,false,false,false,false,false] rfl rfl (Dh dn.1 ic.1 (by kernel_rfl)) (fun _ _ _ h=>h) (Or.inl ⟨by rfl, ?_⟩) hHeld ?_ ?_
          rotate_left
          ·intro w' s0
           go_simp
           with_reducible rfl
          rotate_left
          ·simp only[Act.put,iY]
           rfl
          refine gC 3 17 (some 28) 2031 (fun K hK=> ?_);refine ij Try.func140 (by kernel_rfl) rfl #[.slice A0 l0.length c0, .int .i64 U8] (by rfl) rfl rfl jk ?_
          with_reducible refine(qu.calls _ _ l0 U8 qb _ ?ak ?au A9.1).mono ?_
          (case ak=>exact Kd.aC (Kd.aC dm.1 HB.1) aa);(case au=>exact eW.1);rintro e w' ⟨rfl,⟨nd,rfl⟩⟩;refine⟨_,rfl, ?_⟩;refine hK.out _ _ (hHeld) (fun hHeld=> ?_);clear hK K;refine fL ?_;refine aJ 4 17 29 2047 ?_;refine gC 11 17 (some 36) 4095 (fun K hK=> ?_);refine ij Try.func168 (by kernel_rfl) rfl #[.int .i64 fZ, .int .i64 (wrap64 (-qb)), .int .i64 (rd bZ (U7))] (by rfl) rfl rfl (by(try simp only[List.map_toArray,List.map_cons,List.map_nil]);first | done | (simp only[U9];rfl) | rfl | (simp only[List.length_drop,List.length_take];rfl)) ?_
          with_reducible refine(kg.calls k3 fZ (wrap64 (-qb)) (rd bZ (U7)) Vj false _ oW.1).mono ?_
          rintro e qM ⟨rfl,hb⟩;have Vi:=(hb.cell (World.block_lt_of_cell? _ _ (hHeld))).trans (hHeld);refine⟨_,rfl, ?_⟩;replace bN:=m_ (Kd.ax (Kd.ax bN.1 aa) hb);replace HB:=m_ (aA aq hb);refine hK.out _ _ (Vi) (fun hHeld=> ?_);clear hK K;refine fL ?_;refine aJ 12 17 24 8191 ?_;refine aJ 13 17 37 16383 ?_;refine aJ 14 17 38 32767 ?_;refine aJ 15 17 8 65535 ?_;refine aJ 16 17 9 131071 ?_;refine gI (iI dn.1 (by kernel_rfl)) ?_
          try go_wp2
          go_ret2
          exact⟨_,by first | rfl | (simp[fE,fF]<;>rfl) | (simp only[← U9];first | rfl | (simp[fE,fF]<;>rfl)) | (simp[*,fE,fF]<;>rfl),by first | exact Kd.jW _ _ _ _ _ | exact Kd.lF _ _ _ _ _ | exact Kd.lG _ _ _ _ _ | exact Kd.lH _ _ _ _ _ | exact Kd.lI _ _ _ _ _,aq⟩
        ·rw[if_neg c8]at H
         have jy:=decide_eq_false c8;clear c8;obtain⟨eV,H⟩:=bf H;have Di:=m_ eV;clear eV;obtain⟨Vf,Vp,H⟩: ∃Vf:List Int,ah (Vf=(bZ++[fZ]))∧(dX.l0 k3 l0 Vf (wrap64 (a1+1)) (wrap64 (eJ+1)))=some (r1,r2):=⟨_,⟨rfl⟩,H⟩;have H':=m_ H;clear H;go_wp2_with (first | ((with_reducible refine eP (b:= .append) (xs:= #[.tmp 41, .tmp 43]) rfl ?_);at_builtin;refine Kd.gA (Kd.int .i64) (w0:=w) w.heap.size rfl (.tmp 41) (.tmp 43) 29 2 (.int .i64 0) 8 rfl Try.underlying29 fB rfl (by decide) (by omega) u6 bZ fZ [.int .i64 fZ] (fun _=>True) (fun _=>False) rfl rfl ?aP (fun _ hk=>hk.elim) ?aF ?aO ?aB ?aS ?aL ?_;(case aP=>exact rfl);(case aB=>exact aq);(case aF=>exact(fun _ _=>trivial));(case aO=>exact(Kd.ax bN.1 aa));(case aS=>exact(aD aq));(case aL=>have:=Di.1;omega);intro Vu oN ho hb hg hat;rw[← Vp.1]at ho;replace HB:=m_ (hb);have Vn:=m_ (ho);clear bN;clear ho hb hg hat));go_roundg k3
         case measure=>have:=bk.1;have:=Vd.1;have:=eF.1;omega
         case rel=>exact⟨(Vf),(wrap64 (eJ+1)),aV,H',⟨by have:=bk.1;have:=Vd.1;have:=eF.1;omega⟩,⟨Kd.ax Vn.1 aa⟩,⟨aq⟩⟩
   ·rw[if_neg c5]at H
    have eM:=decide_eq_false c5;clear c5;simp only[Option.some.injEq,Prod.mk.injEq]at H;obtain⟨rfl,rfl⟩:=H;go_wp2
    go_ret2
    exact⟨_,bT,(Kd.ax bN.1 aa),aq⟩

/-! ### impl_ZetaSeries_1: function 100003 -/
def si.f (ai:Int):Option (Bool):=(fk.f ai 0 10).bind fun Dj=>(some Dj)
set_option maxHeartbeats 8000000 in
set_option maxRecDepth 100000 in
theorem si.calls (qV:Nat) (ai:Int) (r:Bool) (w:World) (qW:w.heap[qV]? =some (.cells #[.int .i64 ai] 2 (0,0))) (h:si.f ai=some r):
  Calls Try.prog 187 #[.pointer (some ⟨qV,0,none⟩)] w fun e w'=>e= .returned (.bool r)∧Below w.heap.size w w':=by
 have U7:=m_ qW;clear qW;have HB:=m_ (Below.refl w.heap.size w);have H:=h;unfold si.f at H;clear h;obtain⟨Dj,A2,H⟩:=bu H;obtain rfl:=Option.some.inj H;have xM:=aK U7.1;have xN:=av U7.1 0;go_enter Try.func187,Try.ntmps187;go_wp2_with (first | ((with_reducible refine bE (f:=106) rfl ?_);refine bF (some 3) Try.func106 #[.int .i64 ai, .int .i64 0, .int .i64 10] ?_;(with_reducible refine(fk.calls ai 0 10 Dj _ A2.1).mono ?_);rintro e w' ⟨rfl,⟨nd,rfl⟩⟩;refine⟨_,rfl, ?_⟩));go_ret;exact⟨bT,aj⟩

/-! ### impl_graphCode_at_ZetaSeries_1: function 100002 -/
def pE.f (k:Nat) (ai:Int) (af:List (List Int)) (bR:Int):Option (Int):=(gr.f k ai af).bind fun Dk=>(if Dk=true then ((si.f bR).bind fun Dl=>(if Dl=true then (some 0) else (some 2))) else (some 1))
set_option maxHeartbeats 8000000 in
set_option maxRecDepth 100000 in
theorem pE.calls (k:Nat) (ai:Int) (aT:Option Addr) (aQ:Nat) (af:List (List Int)) (dH:Nat) (bR:Int) (r:Int) (w:World) (cG:Kd.C (Kd.slice 2 (Kd.int .i64)) w aT af.length af) (cH:af.length≤aQ) (jB:w.heap[dH]? =some (.cells #[.int .i64 bR] 2 (0,0))) (h:pE.f k ai af bR=some r):
  Calls Try.prog 123 #[.agg #[.int .i64 ai, .slice aT af.length aQ], .func (.func 187) #[] #[.pointer (some ⟨dH,0,none⟩)]] w fun e w'=>e= .returned (.int .i64 r)∧Below w.heap.size w w':=by
 have eH:=Try.underlying26;have bz:=m_ cG;have bH:=m_ cH;clear cG cH;have U8:=m_ jB;clear jB;have HB:=m_ (Below.refl w.heap.size w);have H:=h;unfold pE.f at H;clear h;obtain⟨Dk,A3,H⟩:=bu H
 by_cases c4:Dk=true
 ·subst c4
  rw[if_pos rfl]at H;obtain⟨Dl,A5,H⟩:=bu H
  by_cases c6:Dl=true
  ·subst c6
   rw[if_pos rfl]at H;obtain rfl:=Option.some.inj H;go_enter Try.func123,Try.ntmps123;go_wp2_with (first | ((with_reducible refine bp (N:=2) rfl ?_);refine bQ (N:=2) (cs:= #[.int .i64 ai, .slice aT af.length aQ]) (t:=26) ?_;intro U9 hg w7 az hb;have U7:=m_ (az);have Vc:=m_ ((by rw[hg];exact(aD aj):w.heap.size≤U9));have Vd:=m_ ((by rw[hg];exact(aD aj):w.heap.size≤U9));replace HB:=m_ (aA aj hb);have Va:=m_ ((by rw[hg];exact Nat.ne_of_lt (dY (ay U8.1 aa)):dH≠U9));have Vb:=m_ Va.1.symm;replace U8:=m_ (aI U8.1 hb);clear hb az hg;have zB:=Vb.1;have zC:=Va.1;have lO:=aK U7.1;have lP:=aN U7.1;have mG:=av U7.1 0;have lQ:=av U7.1 1) | ((with_reducible refine bE (f:=136) rfl ?_);refine bF (some 7) Try.func136 #[.agg #[.int .i64 ai, .slice aT af.length aQ]] ?_;(with_reducible refine(gr.calls k ai _ _ af true _ ?ak ?au A3.1).mono ?_);(case ak=>exact Kd.aC (Kd.aC bz.1 HB.1) aa);(case au=>exact bH.1);rintro e iy ⟨rfl,hb⟩;refine⟨_,rfl, ?_⟩;replace U8:=m_ (aI U8.1 hb);replace U7:=m_ (aI U7.1 hb);replace HB:=m_ (aA aj hb);clear hb) | ((with_reducible refine qR (t:=10) rfl ?_);refine qU (some 11) rfl rfl Try.func187 (by kernel_rfl) rfl (lb:= #[.pointer (some ⟨dH,0,none⟩)]) #[.pointer (some ⟨dH,0,none⟩)] rfl (by first | rfl | (simp;done)) (by(try simp only[List.map_toArray,List.map_cons,List.map_nil,List.append_toArray,List.cons_append,List.nil_append]);first | done | rfl | (simp only[List.length_drop,List.length_take];rfl)) ?_;(with_reducible refine(si.calls dH bR true _ ?ak A5.1).mono ?_);(case ak=>exact(ay U8.1 aa));rintro e jh ⟨rfl,hb⟩;refine⟨_,rfl, ?_⟩;replace U8:=m_ (aI U8.1 hb);replace U7:=m_ (aI U7.1 hb);replace HB:=m_ (aA aj hb);clear hb));go_ret;exact⟨bT,aj⟩
  ·replace c6:=Bool.eq_false_iff.mpr c6
   subst c6;rw[if_neg (show ¬(false=true) by decide)]at H;obtain rfl:=Option.some.inj H;go_enter Try.func123,Try.ntmps123;go_wp2_with (first | ((with_reducible refine bp (N:=2) rfl ?_);refine bQ (N:=2) (cs:= #[.int .i64 ai, .slice aT af.length aQ]) (t:=26) ?_;intro U9 hg ld az hb;have U7:=m_ (az);have Vc:=m_ ((by rw[hg];exact(aD aj):w.heap.size≤U9));have Vd:=m_ ((by rw[hg];exact(aD aj):w.heap.size≤U9));replace HB:=m_ (aA aj hb);have Va:=m_ ((by rw[hg];exact Nat.ne_of_lt (dY (ay U8.1 aa)):dH≠U9));have Vb:=m_ Va.1.symm;replace U8:=m_ (aI U8.1 hb);clear hb az hg;have Om:=Vb.1;have Oo:=Va.1;have pF:=aK U7.1;have pG:=aN U7.1;have pH:=av U7.1 0;have pI:=av U7.1 1) | ((with_reducible refine bE (f:=136) rfl ?_);refine bF (some 7) Try.func136 #[.agg #[.int .i64 ai, .slice aT af.length aQ]] ?_;(with_reducible refine(gr.calls k ai _ _ af true _ ?ak ?au A3.1).mono ?_);(case ak=>exact Kd.aC (Kd.aC bz.1 HB.1) aa);(case au=>exact bH.1);rintro e kz ⟨rfl,hb⟩;refine⟨_,rfl, ?_⟩;replace U8:=m_ (aI U8.1 hb);replace U7:=m_ (aI U7.1 hb);replace HB:=m_ (aA aj hb);clear hb) | ((with_reducible refine qR (t:=10) rfl ?_);refine qU (some 11) rfl rfl Try.func187 (by kernel_rfl) rfl (lb:= #[.pointer (some ⟨dH,0,none⟩)]) #[.pointer (some ⟨dH,0,none⟩)] rfl (by first | rfl | (simp;done)) (by(try simp only[List.map_toArray,List.map_cons,List.map_nil,List.append_toArray,List.cons_append,List.nil_append]);first | done | rfl | (simp only[List.length_drop,List.length_take];rfl)) ?_;(with_reducible refine(si.calls dH bR false _ ?ak A5.1).mono ?_);(case ak=>exact(ay U8.1 aa));rintro e qL ⟨rfl,hb⟩;refine⟨_,rfl, ?_⟩;replace U8:=m_ (aI U8.1 hb);replace U7:=m_ (aI U7.1 hb);replace HB:=m_ (aA aj hb);clear hb));go_ret;exact⟨bT,aj⟩
 ·replace c4:=Bool.eq_false_iff.mpr c4
  subst c4;rw[if_neg (show ¬(false=true) by decide)]at H;obtain rfl:=Option.some.inj H;go_enter Try.func123,Try.ntmps123;go_wp2_with (first | ((with_reducible refine bp (N:=2) rfl ?_);refine bQ (N:=2) (cs:= #[.int .i64 ai, .slice aT af.length aQ]) (t:=26) ?_;intro U9 hg pO az hb;have U7:=m_ (az);have Vc:=m_ ((by rw[hg];exact(aD aj):w.heap.size≤U9));have Vd:=m_ ((by rw[hg];exact(aD aj):w.heap.size≤U9));replace HB:=m_ (aA aj hb);have Va:=m_ ((by rw[hg];exact Nat.ne_of_lt (dY (ay U8.1 aa)):dH≠U9));have Vb:=m_ Va.1.symm;replace U8:=m_ (aI U8.1 hb);clear hb az hg;have zN:=Vb.1;have zO:=Va.1;have sZ:=aK U7.1;have s6:=aN U7.1;have s9:=av U7.1 0;have tf:=av U7.1 1) | ((with_reducible refine bE (f:=136) rfl ?_);refine bF (some 7) Try.func136 #[.agg #[.int .i64 ai, .slice aT af.length aQ]] ?_;(with_reducible refine(gr.calls k ai _ _ af false _ ?ak ?au A3.1).mono ?_);(case ak=>exact Kd.aC (Kd.aC bz.1 HB.1) aa);(case au=>exact bH.1);rintro e qM ⟨rfl,hb⟩;refine⟨_,rfl, ?_⟩;replace U8:=m_ (aI U8.1 hb);replace U7:=m_ (aI U7.1 hb);replace HB:=m_ (aA aj hb);clear hb));go_ret;exact⟨bT,aj⟩

/-! ### impl_ZetaSeries: function 84 -/
def jV.f (k:Nat) (ai:Int) (af:List (List Int)) (a1:Int):Option (List Int×Int):=(pE.f k ai af a1).bind fun tE=>(if tE=0 then ((oh.f k ai af).bind fun q8=>((dX.f k q8 a1).bind fun U7=>(if U7.2=true then (some (U7.1,0)) else (some (([]:List Int),3))))) else (some (([]:List Int),tE)))
def jV.T4:Bool×List (List Nat×List Nat):=(true,[([],[]),([0],[0]),([],[]),([1,2,1],[1,2]),([3],[3]),([4],[4]),([4],[4]),([5,3,0,1,2,3,4,5],[5]),([6,7,0,1,2,3,4,5,6,7],[6])])
def jV.B4:List Nat:=[0,1,0,7,15,31,31,63,255]
theorem jV.wR:fu .any (opsOf Try.f84 4)=jV.T4:=by kernel_rfl
theorem jV.wS:jv jV.T4.2 jV.B4=true:=by kernel_rfl
set_option maxHeartbeats 8000000 in
set_option maxRecDepth 100000 in
theorem jV.calls (k:Nat) (ai:Int) (aT:Option Addr) (aQ:Nat) (af:List (List Int)) (a1:Int) (r1:List Int) (r2:Int) (w:World) (cG:Kd.C (Kd.slice 2 (Kd.int .i64)) w aT af.length af) (cH:af.length≤aQ) (h:jV.f k ai af a1=some (r1,r2)):
  Calls Try.prog 84 #[.agg #[.int .i64 ai, .slice aT af.length aQ], .int .i64 a1] w fun e w'=>∃cP:Value,e= .returned (.tuple #[cP, .int .i64 r2])∧Kd.R (Kd.int .i64) 2 w' w.heap.size (fun _=>True) cP r1∧Below w.heap.size w w':=by
 have eH:=Try.underlying26;have bz:=m_ cG;have bH:=m_ cH;clear cG cH;have HB:=m_ (Below.refl w.heap.size w);have H:=h;unfold jV.f at H;clear h;obtain⟨tE,A3,H⟩:=bu H
 by_cases c4:tE=0
 ·rw[if_pos c4]at H
  obtain⟨dF,ig⟩:=cF c4;clear c4;obtain⟨q8,A5,H⟩:=bu H;obtain⟨⟨Vi,Vk⟩,A6,H⟩:=bu H;dsimp only at H
  by_cases c7:Vk=true
  ·subst c7
   rw[if_pos rfl]at H;simp only[Option.some.injEq,Prod.mk.injEq]at H;obtain⟨rfl,rfl⟩:=H;go_enter Try.func84,Try.ntmps84
   try go_wp2_with (first | ((with_reducible refine bp (N:=2) rfl ?_);refine bQ (N:=2) (cs:= #[.int .i64 ai, .slice aT af.length aQ]) (t:=26) ?_;intro Va hg w8 az hb;have U7:=m_ (az);have Vh:=m_ ((by rw[hg];exact(aD aq):w.heap.size≤Va));have Ve:=m_ ((by rw[hg];exact(aD aq):w.heap.size≤Va));replace HB:=m_ (aA aq hb);clear hb az hg) | ((with_reducible refine bp (N:=3) rfl ?_);refine bQ (N:=3) (cs:= #[.int .i64 a1]) (t:=2) ?_;intro U9 hg w9 az hb;have U8:=m_ (az);have Vf:=m_ ((by rw[hg];exact(aD aj):w.heap.size≤U9));have Vg:=m_ ((by rw[hg];exact(aD aj):w.heap.size≤U9));replace HB:=m_ (aA aj hb);have Vc:=m_ ((by rw[hg];exact Nat.ne_of_lt (dY (ay U7.1 aa)):Va≠U9));have Vd:=m_ Vc.1.symm;replace U7:=m_ (aI U7.1 hb);clear hb az hg;have wV:=Vc.1;have wW:=Vd.1;have wC:=aK U7.1;have wD:=aN U7.1;have wE:=av U7.1 0;have wF:=av U7.1 1) | ((with_reducible refine bE (f:=123) rfl ?_);refine bF (some 11) Try.func123 #[.agg #[.int .i64 ai, .slice aT af.length aQ], .func (.func 187) #[] #[.pointer (some ⟨U9,0,none⟩)]] ?_;(with_reducible refine(pE.calls k ai _ _ af U9 a1 tE _ ?ak ?au ?ck A3.1).mono ?_);(case ak=>exact Kd.aC (Kd.aC bz.1 HB.1) aa);(case au=>exact bH.1);(case ck=>exact(ay U8.1 aa));rintro e ld ⟨rfl,hb⟩;refine⟨_,rfl, ?_⟩;replace U7:=m_ (aI U7.1 hb);replace U8:=m_ (aI U8.1 hb);replace HB:=m_ (aA aj hb);clear hb))
   replace U7:=m_ (bB U7.1);replace U8:=m_ (bB U8.1);replace HB:=m_ (fe HB.1);refine gH (n:=9) (S:=fun w'=>w'.cell? ⟨Va,0,none⟩=some (.int .i64 ai)∧w'.cell? ⟨Va,1,none⟩=some (.slice aT af.length aQ)∧w'.cell? ⟨U9,0,none⟩=some (.int .i64 a1)) (ds:=[]) #[false,false,false,false,false,false,false,false,false] (by kernel_rfl) rfl rfl ⟨aK U7.1,aN U7.1,aK U8.1⟩ (fun hHeld=> ?_);refine iH jV.wR jV.wS (fun dn ic=> ?_);generalize ld.drew=ji at U7 U8 HB hHeld ⊢;refine cW 0 9 16 1 hHeld ?_;refine cW 2 9 18 5 hHeld ?_;refine gC 1 9 (some 17) 7 (fun K hK=> ?_);refine ij Try.func139 (by kernel_rfl) rfl #[.agg #[.int .i64 ai, .slice aT af.length aQ]] (by rfl) rfl rfl jk ?_
   with_reducible refine(oh.calls k ai _ _ af q8 _ ?ak ?au A5.1).mono ?_
   (case ak=>exact Kd.aC (Kd.aC bz.1 HB.1) aa);(case au=>exact bH.1);rintro e m8 ⟨Vm,rfl,aM,hb⟩;refine⟨_,rfl, ?_⟩;have Vb:=m_ (Kd.cJ (Kd.xO aM (g:=U9) (o:= .cells #[.int .i64 a1] 2 (0,0)) (ay U8.1 aa)) (aD aj));replace U7:=m_ (aI U7.1 hb);replace U8:=m_ (aI U8.1 hb);replace HB:=m_ (aA aj hb);(try clear aM);obtain⟨C0,C2,C3⟩:=Kd.cQ Vb.1;subst C3;refine hK.out _ _ ⟨aK U7.1,aN U7.1,aK U8.1⟩ (fun hHeld=> ?_);clear hK K;refine fL ?_;refine gC 3 9 (some 19) 15 (fun K hK=> ?_);refine ij Try.func188 (by kernel_rfl) rfl #[.slice C0 q8.length C2, .int .i64 a1] (by rfl) rfl rfl jk ?_
   with_reducible refine(dX.calls k _ _ q8 a1 Vi true _ ?ak ?au A6.1).mono ?_
   (case ak=>exact Kd.aC (Kd.cK Vb.1).2.2 aa);(case au=>exact(Kd.cK Vb.1).2.1);rintro e qL ⟨Vl,rfl,aM,hb⟩;refine⟨_,rfl, ?_⟩;have Vj:=m_ (Kd.cJ (Kd.xO (Kd.eB aM (Kd.cS (Kd.ax Vb.1 aa))) (g:=U9) (o:= .cells #[.int .i64 a1] 2 (0,0)) (ay U8.1 aa)) (aD aj));replace Vb:=m_ (Kd.eC (Kd.ax Vb.1 aa) (Kd.cx aM) hb);replace U7:=m_ (aI U7.1 hb);replace U8:=m_ (aI U8.1 hb);replace HB:=m_ (aA aj hb);(try clear aM);refine hK.out _ _ ⟨aK U7.1,aN U7.1,aK U8.1⟩ (fun hHeld=> ?_);clear hK K;refine fL ?_;refine aJ 4 9 15 31 ?_;refine aJ 5 9 20 63 ?_;refine aJ 6 9 21 127 ?_;refine aJ 7 9 7 255 ?_;refine aJ 8 9 8 511 ?_;refine gI (iI dn.1 (by kernel_rfl)) ?_
   try go_wp2
   go_ret2
   exact⟨_,bT,by(with_reducible repeat (first | apply Kd.cL | apply Kd.cM | apply Kd.cn));exact Kd.bn Vj.1 (fun _ hk=>trivial),aj⟩
  ·replace c7:=Bool.eq_false_iff.mpr c7
   subst c7;rw[if_neg (show ¬(false=true) by decide)]at H;simp only[Option.some.injEq,Prod.mk.injEq]at H;obtain⟨rfl,rfl⟩:=H;go_enter Try.func84,Try.ntmps84
   try go_wp2_with (first | ((with_reducible refine bp (N:=2) rfl ?_);refine bQ (N:=2) (cs:= #[.int .i64 ai, .slice aT af.length aQ]) (t:=26) ?_;intro Va hg pO az hb;have U7:=m_ (az);have Vh:=m_ ((by rw[hg];exact(aD aq):w.heap.size≤Va));have Ve:=m_ ((by rw[hg];exact(aD aq):w.heap.size≤Va));replace HB:=m_ (aA aq hb);clear hb az hg) | ((with_reducible refine bp (N:=3) rfl ?_);refine bQ (N:=3) (cs:= #[.int .i64 a1]) (t:=2) ?_;intro U9 hg sS az hb;have U8:=m_ (az);have Vf:=m_ ((by rw[hg];exact(aD aj):w.heap.size≤U9));have Vg:=m_ ((by rw[hg];exact(aD aj):w.heap.size≤U9));replace HB:=m_ (aA aj hb);have Vc:=m_ ((by rw[hg];exact Nat.ne_of_lt (dY (ay U7.1 aa)):Va≠U9));have Vd:=m_ Vc.1.symm;replace U7:=m_ (aI U7.1 hb);clear hb az hg;have Vn:=Vc.1;have Vo:=Vd.1;have GK:=aK U7.1;have GL:=aN U7.1;have GM:=av U7.1 0;have GN:=av U7.1 1) | ((with_reducible refine bE (f:=123) rfl ?_);refine bF (some 11) Try.func123 #[.agg #[.int .i64 ai, .slice aT af.length aQ], .func (.func 187) #[] #[.pointer (some ⟨U9,0,none⟩)]] ?_;(with_reducible refine(pE.calls k ai _ _ af U9 a1 tE _ ?ak ?au ?ck A3.1).mono ?_);(case ak=>exact Kd.aC (Kd.aC bz.1 HB.1) aa);(case au=>exact bH.1);(case ck=>exact(ay U8.1 aa));rintro e zH ⟨rfl,hb⟩;refine⟨_,rfl, ?_⟩;replace U7:=m_ (aI U7.1 hb);replace U8:=m_ (aI U8.1 hb);replace HB:=m_ (aA aj hb);clear hb))
   replace U7:=m_ (bB U7.1);replace U8:=m_ (bB U8.1);replace HB:=m_ (fe HB.1);refine gH (n:=9) (S:=fun w'=>w'.cell? ⟨Va,0,none⟩=some (.int .i64 ai)∧w'.cell? ⟨Va,1,none⟩=some (.slice aT af.length aQ)∧w'.cell? ⟨U9,0,none⟩=some (.int .i64 a1)) (ds:=[]) #[false,false,false,false,false,false,false,false,false] (by kernel_rfl) rfl rfl ⟨aK U7.1,aN U7.1,aK U8.1⟩ (fun hHeld=> ?_);refine iH jV.wR jV.wS (fun dn ic=> ?_);generalize zH.drew=oN at U7 U8 HB hHeld ⊢;refine cW 0 9 16 1 hHeld ?_;refine cW 2 9 18 5 hHeld ?_;refine gC 1 9 (some 17) 7 (fun K hK=> ?_);refine ij Try.func139 (by kernel_rfl) rfl #[.agg #[.int .i64 ai, .slice aT af.length aQ]] (by rfl) rfl rfl jk ?_
   with_reducible refine(oh.calls k ai _ _ af q8 _ ?ak ?au A5.1).mono ?_
   (case ak=>exact Kd.aC (Kd.aC bz.1 HB.1) aa);(case au=>exact bH.1);rintro e qz ⟨Vm,rfl,aM,hb⟩;refine⟨_,rfl, ?_⟩;have Vb:=m_ (Kd.cJ (Kd.xO aM (g:=U9) (o:= .cells #[.int .i64 a1] 2 (0,0)) (ay U8.1 aa)) (aD aj));replace U7:=m_ (aI U7.1 hb);replace U8:=m_ (aI U8.1 hb);replace HB:=m_ (aA aj hb);(try clear aM);obtain⟨xy,xz,xA⟩:=Kd.cQ Vb.1;subst xA;refine hK.out _ _ ⟨aK U7.1,aN U7.1,aK U8.1⟩ (fun hHeld=> ?_);clear hK K;refine fL ?_;refine gC 3 9 (some 19) 15 (fun K hK=> ?_);refine ij Try.func188 (by kernel_rfl) rfl #[.slice xy q8.length xz, .int .i64 a1] (by rfl) rfl rfl jk ?_
   with_reducible refine(dX.calls k _ _ q8 a1 Vi false _ ?ak ?au A6.1).mono ?_
   (case ak=>exact Kd.aC (Kd.cK Vb.1).2.2 aa);(case au=>exact(Kd.cK Vb.1).2.1);rintro e m7 ⟨Vl,rfl,aM,hb⟩;refine⟨_,rfl, ?_⟩;have Vj:=m_ (Kd.cJ (Kd.xO (Kd.eB aM (Kd.cS (Kd.ax Vb.1 aa))) (g:=U9) (o:= .cells #[.int .i64 a1] 2 (0,0)) (ay U8.1 aa)) (aD aj));replace Vb:=m_ (Kd.eC (Kd.ax Vb.1 aa) (Kd.cx aM) hb);replace U7:=m_ (aI U7.1 hb);replace U8:=m_ (aI U8.1 hb);replace HB:=m_ (aA aj hb);(try clear aM);refine hK.out _ _ ⟨aK U7.1,aN U7.1,aK U8.1⟩ (fun hHeld=> ?_);clear hK K;refine fL ?_;refine aJ 4 9 15 31 ?_;refine aJ 5 9 20 63 ?_;refine aJ 6 9 21 127 ?_;refine aJ 7 9 7 255 ?_;refine aJ 8 9 8 511 ?_;refine gI (iI dn.1 (by kernel_rfl)) ?_
   try go_wp2
   go_ret2
   exact⟨_,bT,by first | exact Kd.jW _ _ _ _ _ | exact Kd.lF _ _ _ _ _ | exact Kd.lG _ _ _ _ _ | exact Kd.lH _ _ _ _ _ | exact Kd.lI _ _ _ _ _,aj⟩
 ·rw[if_neg c4]at H
  obtain⟨dF,ig⟩:=cC c4;simp only[Option.some.injEq,Prod.mk.injEq]at H;obtain⟨rfl,rfl⟩:=H;go_enter Try.func84,Try.ntmps84;go_wp2_with (first | ((with_reducible refine bp (N:=2) rfl ?_);refine bQ (N:=2) (cs:= #[.int .i64 ai, .slice aT af.length aQ]) (t:=26) ?_;intro Va hg qK az hb;have U7:=m_ (az);have Vh:=m_ ((by rw[hg];exact(aD aq):w.heap.size≤Va));have Ve:=m_ ((by rw[hg];exact(aD aq):w.heap.size≤Va));replace HB:=m_ (aA aq hb);clear hb az hg) | ((with_reducible refine bp (N:=3) rfl ?_);refine bQ (N:=3) (cs:= #[.int .i64 a1]) (t:=2) ?_;intro U9 hg kZ az hb;have U8:=m_ (az);have Vf:=m_ ((by rw[hg];exact(aD aj):w.heap.size≤U9));have Vg:=m_ ((by rw[hg];exact(aD aj):w.heap.size≤U9));replace HB:=m_ (aA aj hb);have Vc:=m_ ((by rw[hg];exact Nat.ne_of_lt (dY (ay U7.1 aa)):Va≠U9));have Vd:=m_ Vc.1.symm;replace U7:=m_ (aI U7.1 hb);clear hb az hg;have Oq:=Vc.1;have Ot:=Vd.1;have GP:=aK U7.1;have GQ:=aN U7.1;have GR:=av U7.1 0;have GS:=av U7.1 1) | ((with_reducible refine bE (f:=123) rfl ?_);refine bF (some 11) Try.func123 #[.agg #[.int .i64 ai, .slice aT af.length aQ], .func (.func 187) #[] #[.pointer (some ⟨U9,0,none⟩)]] ?_;(with_reducible refine(pE.calls k ai _ _ af U9 a1 tE _ ?ak ?au ?ck A3.1).mono ?_);(case ak=>exact Kd.aC (Kd.aC bz.1 HB.1) aa);(case au=>exact bH.1);(case ck=>exact(ay U8.1 aa));rintro e oz ⟨rfl,hb⟩;refine⟨_,rfl, ?_⟩;replace U7:=m_ (aI U7.1 hb);replace U8:=m_ (aI U8.1 hb);replace HB:=m_ (aA aj hb);clear hb))
  go_ret2
  exact⟨_,bT,by first | exact Kd.jW _ _ _ _ _ | exact Kd.lF _ _ _ _ _ | exact Kd.lG _ _ _ _ _ | exact Kd.lH _ _ _ _ _ | exact Kd.lI _ _ _ _ _,aj⟩

/-! ### spec_l01Trim: function 175 -/
def kn.l0:Nat→List Int→Int→Option (List Int)
 | 0,_,_=>none
 | k+1,x0,x3=>if x3>0 then (if 0≤(wrap64 (x3 - 1)) then (if (wrap64 (x3 - 1))<(x0.length:Int) then (if (rd x0 (wrap64 (x3 - 1)))=0 then (kn.l0 k x0 (wrap64 (x3 - 1))) else (if 0≤x3 then (if x3≤(x0.length:Int) then ((l8.f (x0.take (x3:Int).toNat)).bind fun xP=>(some xP)) else (none)) else (none))) else (none)) else (none)) else (if 0≤x3 then (if x3≤(x0.length:Int) then ((l8.f (x0.take (x3:Int).toNat)).bind fun Dm=>(some Dm)) else (none)) else (none))
def kn.f (k:Nat) (l0:List Int):Option (List Int):=kn.l0 k l0 (l0.length:Int)
set_option maxHeartbeats 8000000 in
set_option maxRecDepth 100000 in
theorem kn.calls (k:Nat) (A0:Option Addr) (c0:Nat) (l0:List Int) (r:List Int) (w:World) (hr0:Kd.C (Kd.int .i64) w A0 l0.length l0) (hc0:l0.length≤c0) (h:kn.f k l0=some r):
  Calls Try.prog 175 #[.slice A0 l0.length c0] w fun e w'=>∃cP:Value,e= .returned (cP)∧Kd.R (Kd.int .i64) 2 w' w.heap.size (fun _=>True) cP r∧Below w.heap.size w w':=by
 have dm:=m_ hr0;have eW:=m_ hc0;clear hr0 hc0;have HB:=m_ (Below.refl w.heap.size w);have H:=h;unfold kn.f at H;clear h;have H':=m_ H;clear H;go_enter Try.func175,Try.ntmps175;go_wp2;go_loopg [3] k (fun kq v3 w'=>∃(bU:Int),v3= .int .i64 bU∧ah (kn.l0 kq l0 bU=some r)∧ah (kq≤k)∧ah (Below w.heap.size w w'))
 case atStart=>exact⟨((l0.length:Int)),aV,H',⟨Nat.le_refl _⟩,⟨aq⟩⟩
 case round=>
  clear H';obtain⟨bU,rfl,HA,bk,HB⟩:=hrel;cases gk with
  | zero=>exact absurd HA.1 (by simp[kn.l0])
  | succ k1=>
   have H:=HA.1;clear HA;simp only[kn.l0]at H
   by_cases c2:bU>0
   ·rw[if_pos c2]at H
    have nU:=decide_eq_true c2;clear c2;obtain⟨bO,gW⟩: ∃j_:Int,(wrap64 (bU - 1))=j_:=⟨_,rfl⟩;(try rw[gW]);replace H:(if 0≤(bO) then (if (bO)<(l0.length:Int) then (if (rd l0 (bO))=0 then (kn.l0 k1 l0 bO) else (if 0≤bU then (if bU≤(l0.length:Int) then ((l8.f (l0.take (bU:Int).toNat)).bind fun xP=>(some xP)) else (none)) else (none))) else (none)) else (none))=some r:=by first | (rw[gW]at H;exact H) | (simp only[gW]at H ⊢;exact H)
    have CZ:(IntKind.i64.wrap (bU - 1))=bO:=(ep _).trans gW;obtain⟨c4,H⟩:=bf H;have dF:=decide_eq_true c4;clear c4;obtain⟨c5,H⟩:=bf H;have eM:=decide_eq_true c5;clear c5
    by_cases c6:(rd l0 (bO))=0
    ·rw[if_pos c6]at H
     obtain⟨iA,mO⟩:=cF c6;clear c6;have H':=m_ H;clear H;have U9:0≤((bO):Int):=aE;have U8:(bO)<(l0.length:Int):=aE;obtain⟨Va,Vb,U7⟩:=Kd.cv dm.1 (bO) U9 U8;cases Vb;(try replace U7:=(HB.1.cell (World.block_lt_of_cell? w _ U7)).trans U7);replace U9:=eq_true U9;replace U8:=eq_true U8;go_wp2
     first | (go_roundg k1) | ((try subst gW);(go_roundg k1))
     case measure=>have:=bk.1;omega
     case rel=>exact⟨(bO),(by first | rfl | (simp;done) | (simp only[← gW]<;>(first | rfl | simp)) | (simp[*];done)),H',⟨by have:=bk.1;omega⟩,⟨aq⟩⟩
    ·rw[if_neg c6]at H
     obtain⟨iA,mO⟩:=cC c6;obtain⟨c7,H⟩:=bf H;have iX:=eq_true c7;have lR:=decide_eq_true c7;clear c7;obtain⟨c8,H⟩:=bf H;have jy:=eq_true c8;have nS:=decide_eq_true c8;clear c8;obtain⟨xP,A9,H⟩:=bu H;obtain rfl:=Option.some.inj H;have U9:0≤((bO):Int):=aE;have U8:(bO)<(l0.length:Int):=aE;obtain⟨Va,Vb,U7⟩:=Kd.cv dm.1 (bO) U9 U8;cases Vb;(try replace U7:=(HB.1.cell (World.block_lt_of_cell? w _ U7)).trans U7);replace U9:=eq_true U9;replace U8:=eq_true U8;obtain⟨Od,xC,_,zI,_⟩:=info_parts fB;obtain⟨GA,hA10,xD⟩:=GU (P:=Try.prog) (Value.int .i64) 0 29 2 .i64 Try.underlying29 xC zI (some Va) c0 l0 bU (aE) (aE) eW.1;have Vg:=m_ (Kd.GV (h1:=fun _=>rfl) (hA10 _ (Kd.zP dm.1)));have Vj:=m_ xD;clear hA10 xD xC zI;go_wp2_with (first | ((with_reducible refine bE (f:=113) rfl ?_);refine vk (some 21) rfl rfl Try.func113 (by kernel_rfl) rfl #[.slice (some Va) (l0.take (bU:Int).toNat).length c0] rfl (by(try simp only[List.map_toArray,List.map_cons,List.map_nil]);first | done | (rw[show(l0.take (bU:Int).toNat).length=bU.toNat from(by rw[List.length_take];have h_:(bU:Int)≤(l0.length:Int):=aE;omega)]<;>rfl) | rfl | (simp only[List.length_drop,List.length_take];rfl)) ?_;(with_reducible refine(l8.calls _ _ (l0.take (bU:Int).toNat) xP _ ?ak ?au A9.1).mono ?_);(case ak=>exact Kd.aC (Kd.aC Vg.1 HB.1) aa);(case au=>exact Vj.1);rintro e jh ⟨Vm,rfl,aM,hb⟩;refine⟨_,rfl, ?_⟩;have Vf:=m_ (Kd.cJ aM (aD aq));replace HB:=m_ (aA aq hb);clear hb;(try clear aM)))
     go_ret;exact⟨_,by first | rfl | (simp[fE,fF]<;>rfl) | (simp only[← gW];first | rfl | (simp[fE,fF]<;>rfl)) | (simp[*,fE,fF]<;>rfl),(Kd.ax Vf.1 aa),aq⟩
   ·rw[if_neg c2]at H
    have nU:=decide_eq_false c2;clear c2
    by_cases c12:0≤bU
    ·rw[if_pos c12]at H
     have kL:=eq_true c12;have sR:=decide_eq_true c12;clear c12;obtain⟨c13,H⟩:=bf H;have jX:=eq_true c13;have zz:=decide_eq_true c13;clear c13;obtain⟨Dm,wX,H⟩:=bu H;obtain rfl:=Option.some.inj H;obtain⟨Vn,Vd,_,Vc,_⟩:=info_parts fB;obtain⟨Vl,hA15,Ve⟩:=GU (P:=Try.prog) (Value.int .i64) 0 29 2 .i64 Try.underlying29 Vd Vc A0 c0 l0 bU (aE) (aE) eW.1;have Vi:=m_ (Kd.GV (h1:=fun _=>rfl) (hA15 _ (Kd.zP dm.1)));have Vh:=m_ Ve;clear hA15 Ve Vd Vc;go_wp2_with (first | ((with_reducible refine bE (f:=113) rfl ?_);refine vk (some 21) rfl rfl Try.func113 (by kernel_rfl) rfl #[.slice A0 (l0.take (bU:Int).toNat).length c0] rfl (by(try simp only[List.map_toArray,List.map_cons,List.map_nil]);first | done | (rw[show(l0.take (bU:Int).toNat).length=bU.toNat from(by rw[List.length_take];have h_:(bU:Int)≤(l0.length:Int):=aE;omega)]<;>rfl) | rfl | (simp only[List.length_drop,List.length_take];rfl)) ?_;(with_reducible refine(l8.calls _ _ (l0.take (bU:Int).toNat) Dm _ ?ak ?au wX.1).mono ?_);(case ak=>exact Kd.aC (Kd.aC Vi.1 HB.1) aa);(case au=>exact Vh.1);rintro e qL ⟨Vo,rfl,aM,hb⟩;refine⟨_,rfl, ?_⟩;have Vk:=m_ (Kd.cJ aM (aD aq));replace HB:=m_ (aA aq hb);clear hb;(try clear aM)))
     go_ret;exact⟨_,bT,(Kd.ax Vk.1 aa),aq⟩
    ·rw[if_neg c12]at H
     exact absurd H (by simp)

end Go.Proofs.Ytkadhadceongiaa.G
