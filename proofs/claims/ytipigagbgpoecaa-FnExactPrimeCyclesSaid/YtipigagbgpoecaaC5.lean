/- The printed functions that this law reaches, and their contracts: part 5. -/
-- printed by this repo's wip/printer out of the kit's print with its own changes
import Derived.Test.YtipigagbgpoecaaC4
namespace Go.Proofs.Ytipigagbgpoecaa.G
open Go.RowKit Go.Proofs.YtipigagbgpoecaaW.PrintWords Go.Proofs.YtipigagbgpoecaaW.PrintLast Go.Proofs.YtipigagbgpoecaaW.PrintMore
attribute [local go_sem] max2_int min2_int max_two min_two max_three min_three max_four min_four   -- for this text's walks alone
set_option linter.unusedVariables false
set_option linter.unusedSimpArgs false

/-! ### laws_FnExactPrimeCycles: function 8 -/
def laws_FnExactPrimeCycles.f (k : Nat) (a0_0 : Int) (l0_1 : List (List Int)) (a1 : Int) : Option (Bool) := (laws_szGraph.f k a0_0 l0_1 1048576).bind fun t511 => (if t511 < 0 then (some true) else ((laws_toGraph.f k a0_0 l0_1).bind fun bt512 => ((spec_PrimeCycles.f k bt512.1 bt512.2 a1).bind fun bt516 => ((laws_toGraph.f k a0_0 l0_1).bind fun bt520 => ((impl_PrimeCycles.f k bt520.1 bt520.2 a1).bind fun bt525 => ((laws_eqInt64SS.f k bt525.1 bt516.1).bind fun t529 => (if t529 = true then (if bt525.2 = bt516.2 then ((laws_toGraph.f k a0_0 l0_1).bind fun bt530 => ((laws_eqGraph.f k bt520.1 bt520.2 bt530.1 bt530.2).bind fun t534 => (if t534 = true then ((laws_markGraph.f k bt520.1 bt520.2 1).bind fun bt535 => (if bt535.1 < 0 then (some false) else ((laws_eqInt64SS.f k bt525.1 bt516.1).bind fun t537 => (if t537 = true then ((laws_markInt64SS.f k bt525.1 1).bind fun bt538 => ((laws_heldInt64SS.f k bt538.2 1).bind fun t540 => (if t540 < 0 then (some false) else (if t540 = bt538.1 then ((laws_toGraph.f k a0_0 l0_1).bind fun bt541 => ((impl_PrimeCycles.f k bt541.1 bt541.2 a1).bind fun bt545 => ((laws_eqInt64SS.f k bt545.1 bt516.1).bind fun t549 => (if t549 = true then (if bt545.2 = bt516.2 then ((laws_heldInt64SS.f k bt538.2 1).bind fun t550 => (if t550 < 0 then (some false) else (if t550 = bt538.1 then (some true) else (some false)))) else (some false)) else (some false))))) else (some false))))) else (some false))))) else (some false)))) else (some false)) else (some false))))))))
set_option maxHeartbeats 8000000 in
set_option maxRecDepth 100000 in
theorem laws_FnExactPrimeCycles.calls (k : Nat) (a0_0 : Int) (A0_1 : Option Addr) (c0_1 : Nat) (l0_1 : List (List Int)) (a1 : Int) (w : World) (hr0_1 : Kd.C (Kd.slice 2 (Kd.int .i64)) w A0_1 l0_1.length l0_1) (hc0_1 : l0_1.length ≤ c0_1) (h : laws_FnExactPrimeCycles.f k a0_0 l0_1 a1 = some true) :
  Calls Try.prog 8 #[.agg #[.int .i64 a0_0, .slice A0_1 l0_1.length c0_1], .int .i64 a1] w fun e w' => e = .returned (.bool true) ∧ Below w.heap.size w w' := by
 have hu24 := Try.underlying24
 have hu29 := Try.underlying29
 have HR0_1 := Aside0.mk hr0_1
 have HC0_1 := Aside0.mk hc0_1
 clear hr0_1 hc0_1
 have HB := Aside0.mk (Below.refl w.heap.size w)
 have H : ((laws_szGraph.f k a0_0 l0_1 1048576).bind fun t511 => (if t511 < 0 then (some true) else ((laws_toGraph.f k a0_0 l0_1).bind fun bt512 => ((spec_PrimeCycles.f k bt512.1 bt512.2 a1).bind fun bt516 => ((laws_toGraph.f k a0_0 l0_1).bind fun bt520 => ((impl_PrimeCycles.f k bt520.1 bt520.2 a1).bind fun bt525 => ((laws_eqInt64SS.f k bt525.1 bt516.1).bind fun t529 => (if t529 = true then (if bt525.2 = bt516.2 then ((laws_toGraph.f k a0_0 l0_1).bind fun bt530 => ((laws_eqGraph.f k bt520.1 bt520.2 bt530.1 bt530.2).bind fun t534 => (if t534 = true then ((laws_markGraph.f k bt520.1 bt520.2 1).bind fun bt535 => (if bt535.1 < 0 then (some false) else ((laws_eqInt64SS.f k bt525.1 bt516.1).bind fun t537 => (if t537 = true then ((laws_markInt64SS.f k bt525.1 1).bind fun bt538 => ((laws_heldInt64SS.f k bt538.2 1).bind fun t540 => (if t540 < 0 then (some false) else (if t540 = bt538.1 then ((laws_toGraph.f k a0_0 l0_1).bind fun bt541 => ((impl_PrimeCycles.f k bt541.1 bt541.2 a1).bind fun bt545 => ((laws_eqInt64SS.f k bt545.1 bt516.1).bind fun t549 => (if t549 = true then (if bt545.2 = bt516.2 then ((laws_heldInt64SS.f k bt538.2 1).bind fun t550 => (if t550 < 0 then (some false) else (if t550 = bt538.1 then (some true) else (some false)))) else (some false)) else (some false))))) else (some false))))) else (some false))))) else (some false)))) else (some false)) else (some false))))))))) = some true := h
 clear h
 obtain ⟨t511, A3, H⟩ := bnd_ H
 by_cases c4 : t511 < 0
 ·rw [if_pos c4] at H
  have c4b0 := decide_eq_true c4
  clear c4
  go_enter Try.func8, Try.ntmps8
  go_wp2_with (first | ((with_reducible refine gate_dst (N := 2) rfl ?_); refine box_event ?hg (N := 2) ?hd (cs := #[.int .i64 a0_0, .slice A0_1 l0_1.length c0_1]) (t := 24) ?hr ?_; (case hd => rfl); (case hg => rfl); (case hr => first | (go_simp; done) | (go_simp; rfl)); intro gb510 hg w5 hbox hb; have Zw5 := Aside0.mk (hb.size); have ZB510 := Aside0.mk ((⟨Nat.le_of_eq hg.symm, blk_lt hbox⟩ : w.heap.size ≤ gb510 ∧ gb510 < w5.heap.size)); have BK510 := Aside0.mk (hbox); have GW510 := Aside0.mk ((by rw [hg]; exact (below_size hb_) : w.heap.size ≤ gb510)); have GE510 := Aside0.mk ((by rw [hg]; exact (below_size hb_) : w.heap.size ≤ gb510)); replace HB := Aside0.mk (below_step hb_ hb); clear hb hbox hg; have hcz6_0 : w5.cell? ⟨gb510, 0, none⟩ = some (.int .i64 a0_0) := (blk_cell BK510.out 0).trans rfl; have hcz6_1 : w5.cell? ⟨gb510, 1, none⟩ = some (.slice A0_1 l0_1.length c0_1) := (blk_cell BK510.out 1).trans rfl; have hfz6_0 := blk_frozen BK510.out 0; have hfz6_1 := blk_frozen BK510.out 1) | ((with_reducible refine gate_callee (f := 10) rfl ?_); refine goesL_ (some 18) rfl rfl Try.func10 (by kernel_rfl) rfl #[.agg #[.int .i64 a0_0, .slice A0_1 l0_1.length c0_1], .int .i64 1048576] rfl (by (try simp only [List.map_toArray, List.map_cons, List.map_nil]); first | done | rfl) ?_; (with_reducible refine (laws_szGraph.calls k a0_0 _ _ l0_1 1048576 t511 _ ?side1 ?side2 A3.out).mono ?_); (case side1 => exact (Kd.C_below HR0_1.out HB.out)); (case side2 => exact HC0_1.out); rintro e w7 ⟨rfl, hb⟩; refine ⟨_, rfl, ?_⟩; replace BK510 := Aside0.mk (blk_below (g := gb510) (o := .cells #[.int .i64 a0_0, .slice A0_1 l0_1.length c0_1] 24 (0, 0)) (blk_below BK510.out bgo_) hb); replace HB := Aside0.mk (below_step HB.out hb); have Zw7 := Aside0.mk (hb.size); (try clear hb); (try clear hkp); (try clear hd_)))
  go_ret
  exact ⟨er_, hbs_⟩
 ·rw [if_neg c4] at H
  have c4b0 := decide_eq_false c4
  clear c4
  obtain ⟨⟨t512, t513⟩, A8, H⟩ := bnd_ H
  dsimp only at H
  obtain ⟨⟨t516, t519⟩, A9, H⟩ := bnd_ H
  dsimp only at H
  obtain ⟨⟨t520, t521⟩, A10, H⟩ := bnd_ H
  dsimp only at H
  obtain ⟨⟨t525, t528⟩, A11, H⟩ := bnd_ H
  dsimp only at H
  obtain ⟨t529, A12, H⟩ := bnd_ H
  by_cases c13 : t529 = true
  ·subst c13
   have H1 : (if t528 = t519 then ((laws_toGraph.f k a0_0 l0_1).bind fun bt530 => ((laws_eqGraph.f k t520 t521 bt530.1 bt530.2).bind fun t534 => (if t534 = true then ((laws_markGraph.f k t520 t521 1).bind fun bt535 => (if bt535.1 < 0 then (some false) else ((laws_eqInt64SS.f k t525 t516).bind fun t537 => (if t537 = true then ((laws_markInt64SS.f k t525 1).bind fun bt538 => ((laws_heldInt64SS.f k bt538.2 1).bind fun t540 => (if t540 < 0 then (some false) else (if t540 = bt538.1 then ((laws_toGraph.f k a0_0 l0_1).bind fun bt541 => ((impl_PrimeCycles.f k bt541.1 bt541.2 a1).bind fun bt545 => ((laws_eqInt64SS.f k bt545.1 t516).bind fun t549 => (if t549 = true then (if bt545.2 = t519 then ((laws_heldInt64SS.f k bt538.2 1).bind fun t550 => (if t550 < 0 then (some false) else (if t550 = bt538.1 then (some true) else (some false)))) else (some false)) else (some false))))) else (some false))))) else (some false))))) else (some false)))) else (some false)) = some true := by rw [if_pos rfl] at H; exact H
   clear H
   have H := H1
   clear H1
   by_cases c14 : t528 = t519
   ·rw [if_pos c14] at H
    have c14b0 : (t528 == t519) = true := beq_iff_eq.mpr c14
    have c14b1 : (t528 != t519) = false := bne_eq_false_iff_eq.mpr c14
    clear c14
    obtain ⟨⟨t530, t531⟩, A15, H⟩ := bnd_ H
    dsimp only at H
    obtain ⟨t534, A16, H⟩ := bnd_ H
    by_cases c17 : t534 = true
    ·subst c17
     have H1 : ((laws_markGraph.f k t520 t521 1).bind fun bt535 => (if bt535.1 < 0 then (some false) else ((laws_eqInt64SS.f k t525 t516).bind fun t537 => (if t537 = true then ((laws_markInt64SS.f k t525 1).bind fun bt538 => ((laws_heldInt64SS.f k bt538.2 1).bind fun t540 => (if t540 < 0 then (some false) else (if t540 = bt538.1 then ((laws_toGraph.f k a0_0 l0_1).bind fun bt541 => ((impl_PrimeCycles.f k bt541.1 bt541.2 a1).bind fun bt545 => ((laws_eqInt64SS.f k bt545.1 t516).bind fun t549 => (if t549 = true then (if bt545.2 = t519 then ((laws_heldInt64SS.f k bt538.2 1).bind fun t550 => (if t550 < 0 then (some false) else (if t550 = bt538.1 then (some true) else (some false)))) else (some false)) else (some false))))) else (some false))))) else (some false))))) = some true := by rw [if_pos rfl] at H; exact H
     clear H
     have H := H1
     clear H1
     obtain ⟨⟨t535, t536⟩, A18, H⟩ := bnd_ H
     dsimp only at H
     by_cases c19 : t535 < 0
     ·rw [if_pos c19] at H
      have c19b0 := decide_eq_true c19
      clear c19
      exact absurd H (by simp)
     ·rw [if_neg c19] at H
      have c19b0 := decide_eq_false c19
      clear c19
      obtain ⟨t537, A20, H⟩ := bnd_ H
      by_cases c21 : t537 = true
      ·subst c21
       have H1 : ((laws_markInt64SS.f k t525 1).bind fun bt538 => ((laws_heldInt64SS.f k bt538.2 1).bind fun t540 => (if t540 < 0 then (some false) else (if t540 = bt538.1 then ((laws_toGraph.f k a0_0 l0_1).bind fun bt541 => ((impl_PrimeCycles.f k bt541.1 bt541.2 a1).bind fun bt545 => ((laws_eqInt64SS.f k bt545.1 t516).bind fun t549 => (if t549 = true then (if bt545.2 = t519 then ((laws_heldInt64SS.f k bt538.2 1).bind fun t550 => (if t550 < 0 then (some false) else (if t550 = bt538.1 then (some true) else (some false)))) else (some false)) else (some false))))) else (some false))))) = some true := by rw [if_pos rfl] at H; exact H
       clear H
       have H := H1
       clear H1
       obtain ⟨⟨t538, t539⟩, A22, H⟩ := bnd_ H
       dsimp only at H
       obtain ⟨t540, A23, H⟩ := bnd_ H
       by_cases c24 : t540 < 0
       ·rw [if_pos c24] at H
        have c24b0 := decide_eq_true c24
        clear c24
        exact absurd H (by simp)
       ·rw [if_neg c24] at H
        have c24b0 := decide_eq_false c24
        clear c24
        by_cases c25 : t540 = t538
        ·rw [if_pos c25] at H
         have c25b0 : (t540 == t538) = true := beq_iff_eq.mpr c25
         have c25b1 : (t540 != t538) = false := bne_eq_false_iff_eq.mpr c25
         clear c25
         obtain ⟨⟨t541, t542⟩, A26, H⟩ := bnd_ H
         dsimp only at H
         obtain ⟨⟨t545, t548⟩, A27, H⟩ := bnd_ H
         dsimp only at H
         obtain ⟨t549, A28, H⟩ := bnd_ H
         by_cases c29 : t549 = true
         ·subst c29
          have H1 : (if t548 = t519 then ((laws_heldInt64SS.f k t539 1).bind fun t550 => (if t550 < 0 then (some false) else (if t550 = t538 then (some true) else (some false)))) else (some false)) = some true := by rw [if_pos rfl] at H; exact H
          clear H
          have H := H1
          clear H1
          by_cases c30 : t548 = t519
          ·rw [if_pos c30] at H
           have c30b0 : (t548 == t519) = true := beq_iff_eq.mpr c30
           have c30b1 : (t548 != t519) = false := bne_eq_false_iff_eq.mpr c30
           clear c30
           obtain ⟨t550, A31, H⟩ := bnd_ H
           by_cases c32 : t550 < 0
           ·rw [if_pos c32] at H
            have c32b0 := decide_eq_true c32
            clear c32
            exact absurd H (by simp)
           ·rw [if_neg c32] at H
            have c32b0 := decide_eq_false c32
            clear c32
            by_cases c33 : t550 = t538
            ·rw [if_pos c33] at H
             have c33b0 : (t550 == t538) = true := beq_iff_eq.mpr c33
             have c33b1 : (t550 != t538) = false := bne_eq_false_iff_eq.mpr c33
             clear c33
             go_enter Try.func8, Try.ntmps8
             try go_wp2_with (first | ((with_reducible refine gate_dst (N := 2) rfl ?_); refine box_event ?hg (N := 2) ?hd (cs := #[.int .i64 a0_0, .slice A0_1 l0_1.length c0_1]) (t := 24) ?hr ?_; (case hd => rfl); (case hg => rfl); (case hr => first | (go_simp; done) | (go_simp; rfl)); intro gb510 hg w34 hbox hb; have Zw34 := Aside0.mk (hb.size); have ZB510 := Aside0.mk ((⟨Nat.le_of_eq hg.symm, blk_lt hbox⟩ : w.heap.size ≤ gb510 ∧ gb510 < w34.heap.size)); have BK510 := Aside0.mk (hbox); have GW510 := Aside0.mk ((by rw [hg]; exact (below_size hb_) : w.heap.size ≤ gb510)); have GE510 := Aside0.mk ((by rw [hg]; exact (below_size hb_) : w.heap.size ≤ gb510)); replace HB := Aside0.mk (below_step hb_ hb); clear hb hbox hg; have hcz35_0 : w34.cell? ⟨gb510, 0, none⟩ = some (.int .i64 a0_0) := (blk_cell BK510.out 0).trans rfl; have hcz35_1 : w34.cell? ⟨gb510, 1, none⟩ = some (.slice A0_1 l0_1.length c0_1) := (blk_cell BK510.out 1).trans rfl; have hfz35_0 := blk_frozen BK510.out 0; have hfz35_1 := blk_frozen BK510.out 1) | ((with_reducible refine gate_callee (f := 10) rfl ?_); refine goesL_ (some 18) rfl rfl Try.func10 (by kernel_rfl) rfl #[.agg #[.int .i64 a0_0, .slice A0_1 l0_1.length c0_1], .int .i64 1048576] rfl (by (try simp only [List.map_toArray, List.map_cons, List.map_nil]); first | done | rfl) ?_; (with_reducible refine (laws_szGraph.calls k a0_0 _ _ l0_1 1048576 t511 _ ?side1 ?side2 A3.out).mono ?_); (case side1 => exact (Kd.C_below HR0_1.out HB.out)); (case side2 => exact HC0_1.out); rintro e w36 ⟨rfl, hb⟩; refine ⟨_, rfl, ?_⟩; replace BK510 := Aside0.mk (blk_below (g := gb510) (o := .cells #[.int .i64 a0_0, .slice A0_1 l0_1.length c0_1] 24 (0, 0)) (blk_below BK510.out bgo_) hb); replace HB := Aside0.mk (below_step HB.out hb); have Zw36 := Aside0.mk (hb.size); (try clear hb); (try clear hkp); (try clear hd_); have hcz37_0 : w36.cell? ⟨gb510, 0, none⟩ = some (.int .i64 a0_0) := (blk_cell BK510.out 0).trans rfl; have hcz37_1 : w36.cell? ⟨gb510, 1, none⟩ = some (.slice A0_1 l0_1.length c0_1) := (blk_cell BK510.out 1).trans rfl; have hfz37_0 := blk_frozen BK510.out 0; have hfz37_1 := blk_frozen BK510.out 1) | ((with_reducible refine gate_callee (f := 12) rfl ?_); refine goesL_ (some 23) rfl rfl Try.func12 (by kernel_rfl) rfl #[.agg #[.int .i64 a0_0, .slice A0_1 l0_1.length c0_1]] rfl (by (try simp only [List.map_toArray, List.map_cons, List.map_nil]); first | done | rfl) ?_; (with_reducible refine (laws_toGraph.calls k a0_0 _ _ l0_1 t512 t513 _ ?side1 ?side2 A8.out).mono ?_); (case side1 => exact (Kd.C_below HR0_1.out HB.out)); (case side2 => exact HC0_1.out); rintro e w38 ⟨v514, rfl, ho0, hb⟩; refine ⟨_, rfl, ?_⟩; replace BK510 := Aside0.mk (blk_below (g := gb510) (o := .cells #[.int .i64 a0_0, .slice A0_1 l0_1.length c0_1] 24 (0, 0)) (blk_below BK510.out bgo_) hb); have HO515 := Aside0.mk (Kd.S_lower (Kd.S_mono (Kd.S_bound ho0) (fun k_ hk_ => (⟨hk_.2.1, hk_.2.2.1⟩ : w36.heap.size ≤ k_ ∧ k_ < w38.heap.size))) HB.out.size); replace HB := Aside0.mk (below_step HB.out hb); have Zw38 := Aside0.mk (hb.size); (try clear hb); (try clear hkp); (try clear hd_); (try clear ho0); obtain ⟨Ao39, co39, eo39⟩ := Kd.S_slice HO515.out; subst eo39) | ((with_reducible refine gate_callee (f := 31) rfl ?_); refine goesL_ (some 25) rfl rfl Try.func31 (by kernel_rfl) rfl #[.agg #[.int .i64 t512, .slice Ao39 t513.length co39], .int .i64 a1] rfl (by (try simp only [List.map_toArray, List.map_cons, List.map_nil]); first | done | rfl) ?_; (with_reducible refine (spec_PrimeCycles.calls k t512 _ _ t513 a1 t516 t519 _ ?side1 ?side2 A9.out).mono ?_); (case side1 => exact (Kd.S_reads' HO515.out).2.2); (case side2 => (have e_ := Kd.S_reads' HO515.out; have e1_ := e_.1; have e2_ := e_.2.1; omega)); rintro e w40 ⟨v517, rfl, ho0, hb⟩; refine ⟨_, rfl, ?_⟩; replace BK510 := Aside0.mk (blk_below (g := gb510) (o := .cells #[.int .i64 a0_0, .slice A0_1 l0_1.length c0_1] 24 (0, 0)) (blk_below BK510.out bgo_) hb); replace HO515 := Aside0.mk (Kd.S_below HO515.out hb); have HO518 := Aside0.mk (Kd.N_lower (Kd.N_mono (Kd.N_bound ho0) (fun k_ hk_ => (⟨hk_.1, hk_.2⟩ : w38.heap.size ≤ k_ ∧ k_ < w40.heap.size))) HB.out.size); replace HB := Aside0.mk (below_step HB.out hb); have Zw40 := Aside0.mk (hb.size); (try clear hb); (try clear hkp); (try clear hd_); (try clear ho0); obtain ⟨Ao41, co41, eo41⟩ := Kd.N_slice HO518.out; subst eo41; have hcz42_0 : w40.cell? ⟨gb510, 0, none⟩ = some (.int .i64 a0_0) := (blk_cell BK510.out 0).trans rfl; have hcz42_1 : w40.cell? ⟨gb510, 1, none⟩ = some (.slice A0_1 l0_1.length c0_1) := (blk_cell BK510.out 1).trans rfl; have hfz42_0 := blk_frozen BK510.out 0; have hfz42_1 := blk_frozen BK510.out 1) | ((with_reducible refine gate_callee (f := 12) rfl ?_); refine goesL_ (some 29) rfl rfl Try.func12 (by kernel_rfl) rfl #[.agg #[.int .i64 a0_0, .slice A0_1 l0_1.length c0_1]] rfl (by (try simp only [List.map_toArray, List.map_cons, List.map_nil]); first | done | rfl) ?_; (with_reducible refine (laws_toGraph.calls k a0_0 _ _ l0_1 t520 t521 _ ?side1 ?side2 A10.out).mono ?_); (case side1 => exact (Kd.C_below HR0_1.out HB.out)); (case side2 => exact HC0_1.out); rintro e w43 ⟨v522, rfl, ho0, hb⟩; refine ⟨_, rfl, ?_⟩; replace BK510 := Aside0.mk (blk_below (g := gb510) (o := .cells #[.int .i64 a0_0, .slice A0_1 l0_1.length c0_1] 24 (0, 0)) (blk_below BK510.out bgo_) hb); replace HO515 := Aside0.mk (Kd.S_below HO515.out hb); replace HO518 := Aside0.mk (Kd.N_below HO518.out hb); have HO523 := Aside0.mk (Kd.S_lower (Kd.S_mono (Kd.S_bound ho0) (fun k_ hk_ => (⟨hk_.2.1, hk_.2.2.1⟩ : w40.heap.size ≤ k_ ∧ k_ < w43.heap.size))) HB.out.size); replace HB := Aside0.mk (below_step HB.out hb); have Zw43 := Aside0.mk (hb.size); (try clear hb); (try clear hkp); (try clear hd_); (try clear ho0); obtain ⟨Ao44, co44, eo44⟩ := Kd.S_slice HO523.out; subst eo44) | ((with_reducible refine gate_dst (N := 8) rfl ?_); refine box_event ?hg (N := 8) ?hd (cs := #[.int .i64 0, .slice none 0 0]) (t := 29) ?hr ?_; (case hd => rfl); (case hg => rfl); (case hr => first | (go_simp; done) | (go_simp; rfl)); intro gb524 hg w45 hbox hb; replace HO515 := Aside0.mk (Kd.S_below HO515.out hb); replace HO518 := Aside0.mk (Kd.N_below HO518.out hb); replace HO523 := Aside0.mk (Kd.S_below HO523.out hb); have Zw45 := Aside0.mk (hb.size); have ZB524 := Aside0.mk ((⟨Nat.le_of_eq hg.symm, blk_lt hbox⟩ : w43.heap.size ≤ gb524 ∧ gb524 < w45.heap.size)); have BK524 := Aside0.mk (hbox); have GW524 := Aside0.mk ((by rw [hg]; exact (below_size hbs_) : w.heap.size ≤ gb524)); have GE524 := Aside0.mk ((by rw [hg]; exact (below_size hbs_) : w.heap.size ≤ gb524)); replace HB := Aside0.mk (below_step hbs_ hb); have NB510_524 := Aside0.mk ((by rw [hg]; exact Nat.ne_of_lt (blk_lt (g := gb510) (o := .cells #[.int .i64 a0_0, .slice A0_1 l0_1.length c0_1] 24 (0, 0)) (blk_below BK510.out bgo_)) : gb510 ≠ gb524)); have NB524_510 := Aside0.mk ((by rw [hg]; exact Nat.ne_of_gt (blk_lt (g := gb510) (o := .cells #[.int .i64 a0_0, .slice A0_1 l0_1.length c0_1] 24 (0, 0)) (blk_below BK510.out bgo_)) : gb524 ≠ gb510)); replace BK510 := Aside0.mk (blk_below (g := gb510) (o := .cells #[.int .i64 a0_0, .slice A0_1 l0_1.length c0_1] 24 (0, 0)) (blk_below BK510.out bgo_) hb); clear hb hbox hg; have hnb46 := NB524_510.out; have hnc46 := NB510_524.out; have hcz47_0 : w45.cell? ⟨gb524, 0, none⟩ = some (.int .i64 0) := (blk_cell BK524.out 0).trans rfl; have hcz47_1 : w45.cell? ⟨gb524, 1, none⟩ = some (.slice none 0 0) := (blk_cell BK524.out 1).trans rfl; have hfz47_0 := blk_frozen BK524.out 0; have hfz47_1 := blk_frozen BK524.out 1) | ((with_reducible refine gate_callee (f := 32) rfl ?_); have n0_ := Aside0.mk (show ((w45.setCell ⟨gb524, 0, none⟩ (.int .i64 t520)).setCell ⟨gb524, 1, none⟩ (.slice Ao44 t521.length co44)).heap[gb510]? = some (.cells #[.int .i64 a0_0, .slice A0_1 l0_1.length c0_1] 24 (0, 0)) from (by (with_reducible repeat (first | refine blk_drewN ?_ _ | refine blk_drew ?_ | refine blk_alloc ?_ _)); refine blk_far ?_ NB510_524.out _; (with_reducible repeat (first | refine blk_drewN ?_ _ | refine blk_drew ?_ | refine blk_alloc ?_ _)); refine blk_far ?_ NB510_524.out _; (with_reducible repeat (first | refine blk_drewN ?_ _ | refine blk_drew ?_ | refine blk_alloc ?_ _)); exact BK510.out)); have n1_ := Aside0.mk (show Kd.S (Kd.slice 2 (Kd.int .i64)) 26 ((w45.setCell ⟨gb524, 0, none⟩ (.int .i64 t520)).setCell ⟨gb524, 1, none⟩ (.slice Ao44 t521.length co44)) w.heap.size (fun k_ => w36.heap.size ≤ k_ ∧ k_ < w38.heap.size) (.slice Ao39 t513.length co39) t513 from (Kd.S_far (Kd.S_far HO515.out (fun k_ ho_ => (show k_ ≠ gb524 from by have h1_ := ho_.1; have h2_ := ho_.2; have h3_ := ZB524.out.1; have h4_ := ZB524.out.2; have := Zw34.out; have := Zw36.out; have := Zw38.out; have := Zw40.out; have := Zw43.out; have := Zw45.out; omega)) _) (fun k_ ho_ => (show k_ ≠ gb524 from by have h1_ := ho_.1; have h2_ := ho_.2; have h3_ := ZB524.out.1; have h4_ := ZB524.out.2; have := Zw34.out; have := Zw36.out; have := Zw38.out; have := Zw40.out; have := Zw43.out; have := Zw45.out; omega)) _)); have n2_ := Aside0.mk (show Kd.N (Kd.slice 2 (Kd.int .i64)) 26 ((w45.setCell ⟨gb524, 0, none⟩ (.int .i64 t520)).setCell ⟨gb524, 1, none⟩ (.slice Ao44 t521.length co44)) w.heap.size (fun k_ => w38.heap.size ≤ k_ ∧ k_ < w40.heap.size) (.slice Ao41 t516.length co41) t516 from (Kd.N_far (Kd.N_far HO518.out (fun k_ ho_ => (show k_ ≠ gb524 from by have h1_ := ho_.1; have h2_ := ho_.2; have h3_ := ZB524.out.1; have h4_ := ZB524.out.2; have := Zw34.out; have := Zw36.out; have := Zw38.out; have := Zw40.out; have := Zw43.out; have := Zw45.out; omega)) _) (fun k_ ho_ => (show k_ ≠ gb524 from by have h1_ := ho_.1; have h2_ := ho_.2; have h3_ := ZB524.out.1; have h4_ := ZB524.out.2; have := Zw34.out; have := Zw36.out; have := Zw38.out; have := Zw40.out; have := Zw43.out; have := Zw45.out; omega)) _)); have n3_ := Aside0.mk (show Kd.S (Kd.slice 2 (Kd.int .i64)) 26 ((w45.setCell ⟨gb524, 0, none⟩ (.int .i64 t520)).setCell ⟨gb524, 1, none⟩ (.slice Ao44 t521.length co44)) w.heap.size (fun k_ => w40.heap.size ≤ k_ ∧ k_ < w43.heap.size) (.slice Ao44 t521.length co44) t521 from (Kd.S_far (Kd.S_far HO523.out (fun k_ ho_ => (show k_ ≠ gb524 from by have h1_ := ho_.1; have h2_ := ho_.2; have h3_ := ZB524.out.1; have h4_ := ZB524.out.2; have := Zw34.out; have := Zw36.out; have := Zw38.out; have := Zw40.out; have := Zw43.out; have := Zw45.out; omega)) _) (fun k_ ho_ => (show k_ ≠ gb524 from by have h1_ := ho_.1; have h2_ := ho_.2; have h3_ := ZB524.out.1; have h4_ := ZB524.out.2; have := Zw34.out; have := Zw36.out; have := Zw38.out; have := Zw40.out; have := Zw43.out; have := Zw45.out; omega)) _)); have n4_ := Aside0.mk (show ((w45.setCell ⟨gb524, 0, none⟩ (.int .i64 t520)).setCell ⟨gb524, 1, none⟩ (.slice Ao44 t521.length co44)).heap[gb524]? = some (.cells #[.int .i64 t520, .slice Ao44 t521.length co44] 29 (0, 0)) from (by (with_reducible repeat (first | refine blk_drewN ?_ _ | refine blk_drew ?_ | refine blk_alloc ?_ _)); refine blk_put (cs := #[.int .i64 t520, .slice none 0 0]) ?_ 1 _ rfl; (with_reducible repeat (first | refine blk_drewN ?_ _ | refine blk_drew ?_ | refine blk_alloc ?_ _)); refine blk_put (cs := #[.int .i64 0, .slice none 0 0]) ?_ 0 _ rfl; (with_reducible repeat (first | refine blk_drewN ?_ _ | refine blk_drew ?_ | refine blk_alloc ?_ _)); exact BK524.out)); have n5_ := Aside0.mk (show Below w.heap.size w ((w45.setCell ⟨gb524, 0, none⟩ (.int .i64 t520)).setCell ⟨gb524, 1, none⟩ (.slice Ao44 t521.length co44)) from (below_set (below_set HB.out GE524.out) GE524.out)); have n6_ := Aside0.mk (show w45.heap.size ≤ ((w45.setCell ⟨gb524, 0, none⟩ (.int .i64 t520)).setCell ⟨gb524, 1, none⟩ (.slice Ao44 t521.length co44)).heap.size from (Kept.setCell (Kept.setCell (Kept.refl w45 (fun _ => True)) (.inl trivial) _) (.inl trivial) _).1); clear BK510; clear HO515; clear HO518; clear HO523; clear BK524; clear HB; generalize hW_ : ((w45.setCell ⟨gb524, 0, none⟩ (.int .i64 t520)).setCell ⟨gb524, 1, none⟩ (.slice Ao44 t521.length co44)) = w48 at n0_ n1_ n2_ n3_ n4_ n5_ n6_ ⊢; clear hW_; have BK510 := n0_; have HO515 := n1_; have HO518 := n2_; have HO523 := n3_; have BK524 := n4_; have HB := n5_; have Zw48 := n6_; clear n0_ n1_ n2_ n3_ n4_ n5_ n6_; refine goesL_ (some 33) rfl rfl Try.func32 (by kernel_rfl) rfl #[.agg #[.int .i64 t520, .slice Ao44 t521.length co44], .int .i64 a1] rfl (by (try simp only [List.map_toArray, List.map_cons, List.map_nil]); first | done | rfl) ?_; (with_reducible refine (impl_PrimeCycles.calls k t520 _ _ t521 a1 t525 t528 _ ?side1 ?side2 A11.out).mono ?_); (case side1 => exact (Kd.S_reads' HO523.out).2.2); (case side2 => (have e_ := Kd.S_reads' HO523.out; have e1_ := e_.1; have e2_ := e_.2.1; omega)); rintro e w49 ⟨v526, rfl, ho0, hb⟩; refine ⟨_, rfl, ?_⟩; replace BK510 := Aside0.mk (blk_below (g := gb510) (o := .cells #[.int .i64 a0_0, .slice A0_1 l0_1.length c0_1] 24 (0, 0)) (blk_below BK510.out bgo_) hb); replace HO515 := Aside0.mk (Kd.S_below HO515.out hb); replace HO518 := Aside0.mk (Kd.N_below HO518.out hb); replace HO523 := Aside0.mk (Kd.S_below HO523.out hb); replace BK524 := Aside0.mk (blk_below (g := gb524) (o := .cells #[.int .i64 t520, .slice Ao44 t521.length co44] 29 (0, 0)) (blk_below BK524.out bgo_) hb); have HO527 := Aside0.mk (Kd.S_lower (Kd.S_mono (Kd.S_bound ho0) (fun k_ hk_ => (⟨hk_.2.1, hk_.2.2.1⟩ : w48.heap.size ≤ k_ ∧ k_ < w49.heap.size))) HB.out.size); replace HB := Aside0.mk (below_step HB.out hb); have Zw49 := Aside0.mk (hb.size); (try clear hb); (try clear hkp); (try clear hd_); (try clear ho0); obtain ⟨Ao50, co50, eo50⟩ := Kd.S_slice HO527.out; subst eo50) | ((with_reducible refine gate_callee (f := 26) rfl ?_); refine goesL_ (some 38) rfl rfl Try.func26 (by kernel_rfl) rfl #[.slice Ao50 t525.length co50, .slice Ao41 t516.length co41] rfl (by (try simp only [List.map_toArray, List.map_cons, List.map_nil]); first | done | rfl) ?_; (with_reducible refine (laws_eqInt64SS.calls k _ _ t525 _ _ t516 true _ ?side1 ?side2 ?side3 ?side4 A12.out).mono ?_); (case side1 => exact (Kd.S_reads' HO527.out).2.2); (case side2 => (have e_ := Kd.S_reads' HO527.out; have e1_ := e_.1; have e2_ := e_.2.1; omega)); (case side3 => exact (Kd.N_reads' HO518.out).2.2); (case side4 => (have e_ := Kd.N_reads' HO518.out; have e1_ := e_.1; have e2_ := e_.2.1; omega)); rintro e w51 ⟨rfl, hd_⟩; refine ⟨_, rfl, ?_⟩; have hb := hd_.below; replace BK510 := Aside0.mk (blk_below (g := gb510) (o := .cells #[.int .i64 a0_0, .slice A0_1 l0_1.length c0_1] 24 (0, 0)) (blk_below BK510.out bgo_) hb); replace HO515 := Aside0.mk (Kd.S_below HO515.out hb); replace HO518 := Aside0.mk (Kd.N_below HO518.out hb); replace HO523 := Aside0.mk (Kd.S_below HO523.out hb); replace BK524 := Aside0.mk (blk_below (g := gb524) (o := .cells #[.int .i64 t520, .slice Ao44 t521.length co44] 29 (0, 0)) (blk_below BK524.out bgo_) hb); replace HO527 := Aside0.mk (Kd.S_below HO527.out hb); replace HB := Aside0.mk (below_step HB.out hb); have Zw51 := Aside0.mk (hb.size); (try clear hb); (try clear hkp); (try clear hd_)))
             have n0_ := Aside0.mk ((show w51.heap.size ≤ w51.drew.heap.size from Nat.le_refl _))
             have n1_ := Aside0.mk (Kd.S_drew HO515.out)
             have n2_ := Aside0.mk (Kd.N_drew HO518.out)
             have n3_ := Aside0.mk (Kd.S_drew HO523.out)
             have n4_ := Aside0.mk (Kd.S_drew HO527.out)
             have n5_ := Aside0.mk (blk_drew BK510.out)
             have n6_ := Aside0.mk (blk_drew BK524.out)
             have n7_ := Aside0.mk (below_drew1 HB.out)
             clear HO515
             clear HO518
             clear HO523
             clear HO527
             clear BK510
             clear BK524
             clear HB
             have Zw52 := n0_
             have HO515 := n1_
             have HO518 := n2_
             have HO523 := n3_
             have HO527 := n4_
             have BK510 := n5_
             have BK524 := n6_
             have HB := n7_
             clear n0_ n1_ n2_ n3_ n4_ n5_ n6_ n7_
             refine start_ (n := 5) (S := fun w' => w'.cell? ⟨gb524, 0, none⟩ = some (.int .i64 t520) ∧ w'.cell? ⟨gb524, 1, none⟩ = some (.slice Ao44 t521.length co44) ∧ w'.cell? ⟨gb510, 0, none⟩ = some (.int .i64 a0_0) ∧ w'.cell? ⟨gb510, 1, none⟩ = some (.slice A0_1 l0_1.length c0_1)) (ds := []) #[false, false, false, false, false] (by kernel_rfl) rfl rfl ⟨(blk_cell BK524.out 0).trans rfl, (blk_cell BK524.out 1).trans rfl, (blk_cell BK510.out 0).trans rfl, (blk_cell BK510.out 1).trans rfl⟩ (fun hHeld => ?_)
             generalize w51.drew = w52 at HO515 HO518 HO523 HO527 BK510 BK524 HB Zw52 hHeld ⊢
             refine take_ (i := 0) (N := some 45) (v := ?_) (a' := ?_) #[true, false, false, false, false] rfl rfl (by kernel_rfl) (fun _ _ _ h => h) (Or.inl ⟨by rfl, ?_⟩) hHeld ?_ ?_
             rotate_left
             ·rintro w' ⟨s0, s1, s2, s3⟩
              go_simp
              with_reducible rfl
             rotate_left
             ·simp only [Act.put, nf_]
              rfl
             refine take_ (i := 1) (N := some 46) (v := ?_) (a' := ?_) #[true, true, false, false, false] rfl rfl (by kernel_rfl) (fun _ _ _ h => h) (Or.inl ⟨by rfl, ?_⟩) hHeld ?_ ?_
             rotate_left
             ·rintro w' ⟨s0, s1, s2, s3⟩
              go_simp
              with_reducible rfl
             rotate_left
             ·simp only [Act.put, nf_]
              rfl
             refine one_ (i := 2) (N := some 47) #[true, true, true, false, false] rfl rfl (by kernel_rfl) (by decide) (fun K hK => ?_)
             refine goes_ Try.func12 (by kernel_rfl) rfl #[.agg #[.int .i64 a0_0, .slice A0_1 l0_1.length c0_1]] (by rfl) rfl rfl arg_ ?_
             with_reducible refine (laws_toGraph.calls k a0_0 _ _ l0_1 t530 t531 _ ?side1 ?side2 A15.out).mono ?_
             (case side1 => exact (Kd.C_below HR0_1.out HB.out))
             (case side2 => exact HC0_1.out)
             rintro e w53 ⟨v532, rfl, ho0, hb⟩
             refine ⟨_, rfl, ?_⟩
             have n0_ := Aside0.mk (blk_below (g := gb510) (o := .cells #[.int .i64 a0_0, .slice A0_1 l0_1.length c0_1] 24 (0, 0)) (blk_below BK510.out bgo_) hb)
             have n1_ := Aside0.mk (Kd.S_below HO515.out hb)
             have n2_ := Aside0.mk (Kd.N_below HO518.out hb)
             have n3_ := Aside0.mk (Kd.S_below HO523.out hb)
             have n4_ := Aside0.mk (blk_below (g := gb524) (o := .cells #[.int .i64 t520, .slice Ao44 t521.length co44] 29 (0, 0)) (blk_below BK524.out bgo_) hb)
             have n5_ := Aside0.mk (Kd.S_below HO527.out hb)
             have n6_ := Aside0.mk (Kd.S_lower (Kd.S_mono (Kd.S_bound ho0) (fun k_ hk_ => (⟨hk_.2.1, hk_.2.2.1⟩ : w52.heap.size ≤ k_ ∧ k_ < w53.heap.size))) HB.out.size)
             have n7_ := Aside0.mk (below_step HB.out hb)
             have n8_ := Aside0.mk (hb.size)
             clear BK510
             clear HO515
             clear HO518
             clear HO523
             clear BK524
             clear HO527
             clear HB
             have BK510 := n0_
             have HO515 := n1_
             have HO518 := n2_
             have HO523 := n3_
             have BK524 := n4_
             have HO527 := n5_
             have HO533 := n6_
             have HB := n7_
             have Zw53 := n8_
             clear n0_ n1_ n2_ n3_ n4_ n5_ n6_ n7_ n8_
             (try clear hb)
             (try clear hkp)
             (try clear hd_)
             (try clear ho0)
             obtain ⟨Ao54, co54, eo54⟩ := Kd.S_slice HO533.out
             subst eo54
             refine hK.out _ _ ⟨(blk_cell BK524.out 0).trans rfl, (blk_cell BK524.out 1).trans rfl, (blk_cell BK510.out 0).trans rfl, (blk_cell BK510.out 1).trans rfl⟩ (fun hHeld => ?_)
             clear hK K
             refine norm_ (a' := ?_) ?_ ?_
             rotate_left
             ·show Act.put _ (some 47) _ = _
              simp only [Act.put, nf_]
              rfl
             refine one_ (i := 3) (N := some 48) #[true, true, true, true, false] rfl rfl (by kernel_rfl) (by decide) (fun K hK => ?_)
             refine goes_ Try.func15 (by kernel_rfl) rfl #[.agg #[.int .i64 t520, .slice Ao44 t521.length co44], .agg #[.int .i64 t530, .slice Ao54 t531.length co54]] (by rfl) rfl rfl arg_ ?_
             with_reducible refine (laws_eqGraph.calls k t520 _ _ t521 t530 _ _ t531 true _ ?side1 ?side2 ?side3 ?side4 A16.out).mono ?_
             (case side1 => exact (Kd.S_reads' HO523.out).2.2)
             (case side2 => (have e_ := Kd.S_reads' HO523.out; have e1_ := e_.1; have e2_ := e_.2.1; omega))
             (case side3 => exact (Kd.S_reads' HO533.out).2.2)
             (case side4 => (have e_ := Kd.S_reads' HO533.out; have e1_ := e_.1; have e2_ := e_.2.1; omega))
             rintro e w55 ⟨rfl, hb⟩
             refine ⟨_, rfl, ?_⟩
             have n0_ := Aside0.mk (blk_below (g := gb510) (o := .cells #[.int .i64 a0_0, .slice A0_1 l0_1.length c0_1] 24 (0, 0)) (blk_below BK510.out bgo_) hb)
             have n1_ := Aside0.mk (Kd.S_below HO515.out hb)
             have n2_ := Aside0.mk (Kd.N_below HO518.out hb)
             have n3_ := Aside0.mk (Kd.S_below HO523.out hb)
             have n4_ := Aside0.mk (blk_below (g := gb524) (o := .cells #[.int .i64 t520, .slice Ao44 t521.length co44] 29 (0, 0)) (blk_below BK524.out bgo_) hb)
             have n5_ := Aside0.mk (Kd.S_below HO527.out hb)
             have n6_ := Aside0.mk (Kd.S_below HO533.out hb)
             have n7_ := Aside0.mk (below_step HB.out hb)
             have n8_ := Aside0.mk (hb.size)
             clear BK510
             clear HO515
             clear HO518
             clear HO523
             clear BK524
             clear HO527
             clear HO533
             clear HB
             have BK510 := n0_
             have HO515 := n1_
             have HO518 := n2_
             have HO523 := n3_
             have BK524 := n4_
             have HO527 := n5_
             have HO533 := n6_
             have HB := n7_
             have Zw55 := n8_
             clear n0_ n1_ n2_ n3_ n4_ n5_ n6_ n7_ n8_
             (try clear hb)
             (try clear hkp)
             (try clear hd_)
             refine hK.out _ _ ⟨(blk_cell BK524.out 0).trans rfl, (blk_cell BK524.out 1).trans rfl, (blk_cell BK510.out 0).trans rfl, (blk_cell BK510.out 1).trans rfl⟩ (fun hHeld => ?_)
             clear hK K
             refine norm_ (a' := ?_) ?_ ?_
             rotate_left
             ·show Act.put _ (some 48) _ = _
              simp only [Act.put, nf_]
              rfl
             refine pure_ (i := 4) (N := some 49) (v := ?_) (a' := ?_) #[true, true, true, true, true] rfl rfl (by kernel_rfl) (fun _ _ _ h => h) (Or.inl ⟨by rfl, ?_⟩) ?_ ?_
             rotate_left
             ·intro w'
              go_simp
              with_reducible rfl
             rotate_left
             ·simp only [Act.put, nf_]
              rfl
             refine done_ (by kernel_rfl) ?_
             have hcz56_0 : w55.cell? ⟨gb524, 0, none⟩ = some (.int .i64 t520) := (blk_cell BK524.out 0).trans rfl
             have hcz56_1 : w55.cell? ⟨gb524, 1, none⟩ = some (.slice Ao44 t521.length co44) := (blk_cell BK524.out 1).trans rfl
             have hfz56_0 := blk_frozen BK524.out 0
             have hfz56_1 := blk_frozen BK524.out 1
             try go_wp2_with (first | ((with_reducible refine gate_callee (f := 16) rfl ?_); refine goesL_ (some 52) rfl rfl Try.func16 (by kernel_rfl) rfl #[.agg #[.int .i64 t520, .slice Ao44 t521.length co44], .int .i64 1] rfl (by (try simp only [List.map_toArray, List.map_cons, List.map_nil]); first | done | rfl) ?_; (with_reducible refine (laws_markGraph.calls k t520 (fun k_ => w40.heap.size ≤ k_ ∧ k_ < w43.heap.size) (.slice Ao44 t521.length co44) t521 1 t535 t536 w _ ?side1 ?side2 A18.out).mono ?_); (case side1 => exact HB.out); (case side2 => exact HO523.out); rintro e w57 ⟨rfl, hy0, hb, hkp⟩; refine ⟨_, rfl, ?_⟩; replace BK510 := Aside0.mk (blk_kept (blk_below BK510.out bgo_) hkp (fun hs_ => by have h1_ := ZB510.out.1; have h2_ := ZB510.out.2; have := Zw34.out; have := Zw36.out; have := Zw38.out; have := Zw40.out; have := Zw43.out; have := Zw45.out; have := Zw48.out; have := Zw49.out; have := Zw51.out; have := Zw52.out; have := Zw53.out; have := Zw55.out; have h3_ := hs_.1; have h4_ := hs_.2; omega)); replace HO515 := Aside0.mk (Kd.S_step HO515.out (fun k_ ho_ hl_ => hkp.2 k_ hl_ (fun hs_ => by have h1_ := ho_.1; have h2_ := ho_.2; have := Zw34.out; have := Zw36.out; have := Zw38.out; have := Zw40.out; have := Zw43.out; have := Zw45.out; have := Zw48.out; have := Zw49.out; have := Zw51.out; have := Zw52.out; have := Zw53.out; have := Zw55.out; have h3_ := hs_.1; have h4_ := hs_.2; omega))); replace HO518 := Aside0.mk (Kd.N_step HO518.out (fun k_ ho_ hl_ => hkp.2 k_ hl_ (fun hs_ => by have h1_ := ho_.1; have h2_ := ho_.2; have := Zw34.out; have := Zw36.out; have := Zw38.out; have := Zw40.out; have := Zw43.out; have := Zw45.out; have := Zw48.out; have := Zw49.out; have := Zw51.out; have := Zw52.out; have := Zw53.out; have := Zw55.out; have h3_ := hs_.1; have h4_ := hs_.2; omega))); replace HO523 := Aside0.mk (hy0); replace BK524 := Aside0.mk (blk_kept (blk_below BK524.out bgo_) hkp (fun hs_ => by have h1_ := ZB524.out.1; have h2_ := ZB524.out.2; have := Zw34.out; have := Zw36.out; have := Zw38.out; have := Zw40.out; have := Zw43.out; have := Zw45.out; have := Zw48.out; have := Zw49.out; have := Zw51.out; have := Zw52.out; have := Zw53.out; have := Zw55.out; have h3_ := hs_.1; have h4_ := hs_.2; omega)); replace HO527 := Aside0.mk (Kd.S_step HO527.out (fun k_ ho_ hl_ => hkp.2 k_ hl_ (fun hs_ => by have h1_ := ho_.1; have h2_ := ho_.2; have := Zw34.out; have := Zw36.out; have := Zw38.out; have := Zw40.out; have := Zw43.out; have := Zw45.out; have := Zw48.out; have := Zw49.out; have := Zw51.out; have := Zw52.out; have := Zw53.out; have := Zw55.out; have h3_ := hs_.1; have h4_ := hs_.2; omega))); replace HO533 := Aside0.mk (Kd.S_step HO533.out (fun k_ ho_ hl_ => hkp.2 k_ hl_ (fun hs_ => by have h1_ := ho_.1; have h2_ := ho_.2; have := Zw34.out; have := Zw36.out; have := Zw38.out; have := Zw40.out; have := Zw43.out; have := Zw45.out; have := Zw48.out; have := Zw49.out; have := Zw51.out; have := Zw52.out; have := Zw53.out; have := Zw55.out; have h3_ := hs_.1; have h4_ := hs_.2; omega))); replace HB := Aside0.mk (hb); have Zw57 := Aside0.mk (hkp.1); (try clear hb); (try clear hkp); (try clear hd_); (try clear hy0)) | (go_at_call 26; (with_reducible refine (laws_eqInt64SS.calls k _ _ t525 _ _ t516 true _ ?side1 ?side2 ?side3 ?side4 A20.out).mono ?_); (case side1 => exact (Kd.S_reads' HO527.out).2.2); (case side2 => (have e_ := Kd.S_reads' HO527.out; have e1_ := e_.1; have e2_ := e_.2.1; omega)); (case side3 => exact (Kd.N_reads' HO518.out).2.2); (case side4 => (have e_ := Kd.N_reads' HO518.out; have e1_ := e_.1; have e2_ := e_.2.1; omega)); rintro e w58 ⟨rfl, hd_⟩; have hb := hd_.below; replace BK510 := Aside0.mk (blk_below (g := gb510) (o := .cells #[.int .i64 a0_0, .slice A0_1 l0_1.length c0_1] 24 (0, 0)) (blk_below BK510.out bgo_) hb); replace HO515 := Aside0.mk (Kd.S_below HO515.out hb); replace HO518 := Aside0.mk (Kd.N_below HO518.out hb); replace HO523 := Aside0.mk (Kd.S_below HO523.out hb); replace BK524 := Aside0.mk (blk_below (g := gb524) (o := .cells #[.int .i64 t520, .slice Ao44 t521.length co44] 29 (0, 0)) (blk_below BK524.out bgo_) hb); replace HO527 := Aside0.mk (Kd.S_below HO527.out hb); replace HO533 := Aside0.mk (Kd.S_below HO533.out hb); replace HB := Aside0.mk (below_step HB.out hb); have Zw58 := Aside0.mk (hb.size); (try clear hb); (try clear hkp); (try clear hd_)) | ((with_reducible refine gate_callee (f := 27) rfl ?_); refine goesL_ (some 68) rfl rfl Try.func27 (by kernel_rfl) rfl #[.slice Ao50 t525.length co50, .int .i64 1] rfl (by (try simp only [List.map_toArray, List.map_cons, List.map_nil]); first | done | rfl) ?_; (with_reducible refine (laws_markInt64SS.calls k (fun k_ => w48.heap.size ≤ k_ ∧ k_ < w49.heap.size) (.slice Ao50 t525.length co50) t525 1 t538 t539 w _ ?side1 ?side2 A22.out).mono ?_); (case side1 => exact HB.out); (case side2 => exact HO527.out); rintro e w59 ⟨rfl, hy0, hb, hkp⟩; refine ⟨_, rfl, ?_⟩; replace BK510 := Aside0.mk (blk_kept (blk_below BK510.out bgo_) hkp (fun hs_ => by have h1_ := ZB510.out.1; have h2_ := ZB510.out.2; have := Zw34.out; have := Zw36.out; have := Zw38.out; have := Zw40.out; have := Zw43.out; have := Zw45.out; have := Zw48.out; have := Zw49.out; have := Zw51.out; have := Zw52.out; have := Zw53.out; have := Zw55.out; have := Zw57.out; have := Zw58.out; have h3_ := hs_.1; have h4_ := hs_.2; omega)); replace HO515 := Aside0.mk (Kd.S_step HO515.out (fun k_ ho_ hl_ => hkp.2 k_ hl_ (fun hs_ => by have h1_ := ho_.1; have h2_ := ho_.2; have := Zw34.out; have := Zw36.out; have := Zw38.out; have := Zw40.out; have := Zw43.out; have := Zw45.out; have := Zw48.out; have := Zw49.out; have := Zw51.out; have := Zw52.out; have := Zw53.out; have := Zw55.out; have := Zw57.out; have := Zw58.out; have h3_ := hs_.1; have h4_ := hs_.2; omega))); replace HO518 := Aside0.mk (Kd.N_step HO518.out (fun k_ ho_ hl_ => hkp.2 k_ hl_ (fun hs_ => by have h1_ := ho_.1; have h2_ := ho_.2; have := Zw34.out; have := Zw36.out; have := Zw38.out; have := Zw40.out; have := Zw43.out; have := Zw45.out; have := Zw48.out; have := Zw49.out; have := Zw51.out; have := Zw52.out; have := Zw53.out; have := Zw55.out; have := Zw57.out; have := Zw58.out; have h3_ := hs_.1; have h4_ := hs_.2; omega))); replace HO523 := Aside0.mk (Kd.S_step HO523.out (fun k_ ho_ hl_ => hkp.2 k_ hl_ (fun hs_ => by have h1_ := ho_.1; have h2_ := ho_.2; have := Zw34.out; have := Zw36.out; have := Zw38.out; have := Zw40.out; have := Zw43.out; have := Zw45.out; have := Zw48.out; have := Zw49.out; have := Zw51.out; have := Zw52.out; have := Zw53.out; have := Zw55.out; have := Zw57.out; have := Zw58.out; have h3_ := hs_.1; have h4_ := hs_.2; omega))); replace BK524 := Aside0.mk (blk_kept (blk_below BK524.out bgo_) hkp (fun hs_ => by have h1_ := ZB524.out.1; have h2_ := ZB524.out.2; have := Zw34.out; have := Zw36.out; have := Zw38.out; have := Zw40.out; have := Zw43.out; have := Zw45.out; have := Zw48.out; have := Zw49.out; have := Zw51.out; have := Zw52.out; have := Zw53.out; have := Zw55.out; have := Zw57.out; have := Zw58.out; have h3_ := hs_.1; have h4_ := hs_.2; omega)); replace HO527 := Aside0.mk (hy0); replace HO533 := Aside0.mk (Kd.S_step HO533.out (fun k_ ho_ hl_ => hkp.2 k_ hl_ (fun hs_ => by have h1_ := ho_.1; have h2_ := ho_.2; have := Zw34.out; have := Zw36.out; have := Zw38.out; have := Zw40.out; have := Zw43.out; have := Zw45.out; have := Zw48.out; have := Zw49.out; have := Zw51.out; have := Zw52.out; have := Zw53.out; have := Zw55.out; have := Zw57.out; have := Zw58.out; have h3_ := hs_.1; have h4_ := hs_.2; omega))); replace HB := Aside0.mk (hb); have Zw59 := Aside0.mk (hkp.1); (try clear hb); (try clear hkp); (try clear hd_); (try clear hy0)) | ((with_reducible refine gate_callee (f := 28) rfl ?_); refine goesL_ (some 71) rfl rfl Try.func28 (by kernel_rfl) rfl #[.slice Ao50 t525.length co50, .int .i64 1] rfl (by (try simp only [List.map_toArray, List.map_cons, List.map_nil]); first | done | rfl) ?_; refine calls_of_args (args' := #[.slice Ao50 t539.length co50, .int .i64 1]) (by first | rfl | (rw [show t525.length = t539.length from (Kd.S_reads' HO527.out).1] <;> rfl) | (simp only [show t525.length = t539.length from (Kd.S_reads' HO527.out).1])) ?_; (with_reducible refine (laws_heldInt64SS.calls k _ _ t539 1 t540 _ ?side1 ?side2 A23.out).mono ?_); (case side1 => exact (Kd.S_reads' HO527.out).2.2); (case side2 => (have e_ := Kd.S_reads' HO527.out; have e1_ := e_.1; have e2_ := e_.2.1; omega)); rintro e w60 ⟨rfl, hd_⟩; refine ⟨_, rfl, ?_⟩; have hb := hd_.below; replace BK510 := Aside0.mk (blk_below (g := gb510) (o := .cells #[.int .i64 a0_0, .slice A0_1 l0_1.length c0_1] 24 (0, 0)) (blk_below BK510.out bgo_) hb); replace HO515 := Aside0.mk (Kd.S_below HO515.out hb); replace HO518 := Aside0.mk (Kd.N_below HO518.out hb); replace HO523 := Aside0.mk (Kd.S_below HO523.out hb); replace BK524 := Aside0.mk (blk_below (g := gb524) (o := .cells #[.int .i64 t520, .slice Ao44 t521.length co44] 29 (0, 0)) (blk_below BK524.out bgo_) hb); replace HO527 := Aside0.mk (Kd.S_below HO527.out hb); replace HO533 := Aside0.mk (Kd.S_below HO533.out hb); replace HB := Aside0.mk (below_step HB.out hb); have Zw60 := Aside0.mk (hb.size); (try clear hb); (try clear hkp); (try clear hd_); have hcz61_0 : w60.cell? ⟨gb510, 0, none⟩ = some (.int .i64 a0_0) := (blk_cell BK510.out 0).trans rfl; have hcz61_1 : w60.cell? ⟨gb510, 1, none⟩ = some (.slice A0_1 l0_1.length c0_1) := (blk_cell BK510.out 1).trans rfl; have hfz61_0 := blk_frozen BK510.out 0; have hfz61_1 := blk_frozen BK510.out 1) | ((with_reducible refine gate_callee (f := 12) rfl ?_); refine goesL_ (some 79) rfl rfl Try.func12 (by kernel_rfl) rfl #[.agg #[.int .i64 a0_0, .slice A0_1 l0_1.length c0_1]] rfl (by (try simp only [List.map_toArray, List.map_cons, List.map_nil]); first | done | rfl) ?_; (with_reducible refine (laws_toGraph.calls k a0_0 _ _ l0_1 t541 t542 _ ?side1 ?side2 A26.out).mono ?_); (case side1 => exact (Kd.C_below HR0_1.out HB.out)); (case side2 => exact HC0_1.out); rintro e w62 ⟨v543, rfl, ho0, hb⟩; refine ⟨_, rfl, ?_⟩; replace BK510 := Aside0.mk (blk_below (g := gb510) (o := .cells #[.int .i64 a0_0, .slice A0_1 l0_1.length c0_1] 24 (0, 0)) (blk_below BK510.out bgo_) hb); replace HO515 := Aside0.mk (Kd.S_below HO515.out hb); replace HO518 := Aside0.mk (Kd.N_below HO518.out hb); replace HO523 := Aside0.mk (Kd.S_below HO523.out hb); replace BK524 := Aside0.mk (blk_below (g := gb524) (o := .cells #[.int .i64 t520, .slice Ao44 t521.length co44] 29 (0, 0)) (blk_below BK524.out bgo_) hb); replace HO527 := Aside0.mk (Kd.S_below HO527.out hb); replace HO533 := Aside0.mk (Kd.S_below HO533.out hb); have HO544 := Aside0.mk (Kd.S_lower (Kd.S_mono (Kd.S_bound ho0) (fun k_ hk_ => (⟨hk_.2.1, hk_.2.2.1⟩ : w60.heap.size ≤ k_ ∧ k_ < w62.heap.size))) HB.out.size); replace HB := Aside0.mk (below_step HB.out hb); have Zw62 := Aside0.mk (hb.size); (try clear hb); (try clear hkp); (try clear hd_); (try clear ho0); obtain ⟨Ao63, co63, eo63⟩ := Kd.S_slice HO544.out; subst eo63) | ((with_reducible refine gate_callee (f := 32) rfl ?_); refine goesL_ (some 81) rfl rfl Try.func32 (by kernel_rfl) rfl #[.agg #[.int .i64 t541, .slice Ao63 t542.length co63], .int .i64 a1] rfl (by (try simp only [List.map_toArray, List.map_cons, List.map_nil]); first | done | rfl) ?_; (with_reducible refine (impl_PrimeCycles.calls k t541 _ _ t542 a1 t545 t548 _ ?side1 ?side2 A27.out).mono ?_); (case side1 => exact (Kd.S_reads' HO544.out).2.2); (case side2 => (have e_ := Kd.S_reads' HO544.out; have e1_ := e_.1; have e2_ := e_.2.1; omega)); rintro e w64 ⟨v546, rfl, ho0, hb⟩; refine ⟨_, rfl, ?_⟩; replace BK510 := Aside0.mk (blk_below (g := gb510) (o := .cells #[.int .i64 a0_0, .slice A0_1 l0_1.length c0_1] 24 (0, 0)) (blk_below BK510.out bgo_) hb); replace HO515 := Aside0.mk (Kd.S_below HO515.out hb); replace HO518 := Aside0.mk (Kd.N_below HO518.out hb); replace HO523 := Aside0.mk (Kd.S_below HO523.out hb); replace BK524 := Aside0.mk (blk_below (g := gb524) (o := .cells #[.int .i64 t520, .slice Ao44 t521.length co44] 29 (0, 0)) (blk_below BK524.out bgo_) hb); replace HO527 := Aside0.mk (Kd.S_below HO527.out hb); replace HO533 := Aside0.mk (Kd.S_below HO533.out hb); replace HO544 := Aside0.mk (Kd.S_below HO544.out hb); have HO547 := Aside0.mk (Kd.S_lower (Kd.S_mono (Kd.S_bound ho0) (fun k_ hk_ => (⟨hk_.2.1, hk_.2.2.1⟩ : w62.heap.size ≤ k_ ∧ k_ < w64.heap.size))) HB.out.size); replace HB := Aside0.mk (below_step HB.out hb); have Zw64 := Aside0.mk (hb.size); (try clear hb); (try clear hkp); (try clear hd_); (try clear ho0); obtain ⟨Ao65, co65, eo65⟩ := Kd.S_slice HO547.out; subst eo65) | ((with_reducible refine gate_callee (f := 26) rfl ?_); refine goesL_ (some 86) rfl rfl Try.func26 (by kernel_rfl) rfl #[.slice Ao65 t545.length co65, .slice Ao41 t516.length co41] rfl (by (try simp only [List.map_toArray, List.map_cons, List.map_nil]); first | done | rfl) ?_; (with_reducible refine (laws_eqInt64SS.calls k _ _ t545 _ _ t516 true _ ?side1 ?side2 ?side3 ?side4 A28.out).mono ?_); (case side1 => exact (Kd.S_reads' HO547.out).2.2); (case side2 => (have e_ := Kd.S_reads' HO547.out; have e1_ := e_.1; have e2_ := e_.2.1; omega)); (case side3 => exact (Kd.N_reads' HO518.out).2.2); (case side4 => (have e_ := Kd.N_reads' HO518.out; have e1_ := e_.1; have e2_ := e_.2.1; omega)); rintro e w66 ⟨rfl, hd_⟩; refine ⟨_, rfl, ?_⟩; have hb := hd_.below; replace BK510 := Aside0.mk (blk_below (g := gb510) (o := .cells #[.int .i64 a0_0, .slice A0_1 l0_1.length c0_1] 24 (0, 0)) (blk_below BK510.out bgo_) hb); replace HO515 := Aside0.mk (Kd.S_below HO515.out hb); replace HO518 := Aside0.mk (Kd.N_below HO518.out hb); replace HO523 := Aside0.mk (Kd.S_below HO523.out hb); replace BK524 := Aside0.mk (blk_below (g := gb524) (o := .cells #[.int .i64 t520, .slice Ao44 t521.length co44] 29 (0, 0)) (blk_below BK524.out bgo_) hb); replace HO527 := Aside0.mk (Kd.S_below HO527.out hb); replace HO533 := Aside0.mk (Kd.S_below HO533.out hb); replace HO544 := Aside0.mk (Kd.S_below HO544.out hb); replace HO547 := Aside0.mk (Kd.S_below HO547.out hb); replace HB := Aside0.mk (below_step HB.out hb); have Zw66 := Aside0.mk (hb.size); (try clear hb); (try clear hkp); (try clear hd_)) | ((with_reducible refine gate_callee (f := 28) rfl ?_); refine goesL_ (some 95) rfl rfl Try.func28 (by kernel_rfl) rfl #[.slice Ao50 t525.length co50, .int .i64 1] rfl (by (try simp only [List.map_toArray, List.map_cons, List.map_nil]); first | done | rfl) ?_; refine calls_of_args (args' := #[.slice Ao50 t539.length co50, .int .i64 1]) (by first | rfl | (rw [show t525.length = t539.length from (Kd.S_reads' HO527.out).1] <;> rfl) | (simp only [show t525.length = t539.length from (Kd.S_reads' HO527.out).1])) ?_; (with_reducible refine (laws_heldInt64SS.calls k _ _ t539 1 t550 _ ?side1 ?side2 A31.out).mono ?_); (case side1 => exact (Kd.S_reads' HO527.out).2.2); (case side2 => (have e_ := Kd.S_reads' HO527.out; have e1_ := e_.1; have e2_ := e_.2.1; omega)); rintro e w67 ⟨rfl, hd_⟩; refine ⟨_, rfl, ?_⟩; have hb := hd_.below; replace BK510 := Aside0.mk (blk_below (g := gb510) (o := .cells #[.int .i64 a0_0, .slice A0_1 l0_1.length c0_1] 24 (0, 0)) (blk_below BK510.out bgo_) hb); replace HO515 := Aside0.mk (Kd.S_below HO515.out hb); replace HO518 := Aside0.mk (Kd.N_below HO518.out hb); replace HO523 := Aside0.mk (Kd.S_below HO523.out hb); replace BK524 := Aside0.mk (blk_below (g := gb524) (o := .cells #[.int .i64 t520, .slice Ao44 t521.length co44] 29 (0, 0)) (blk_below BK524.out bgo_) hb); replace HO527 := Aside0.mk (Kd.S_below HO527.out hb); replace HO533 := Aside0.mk (Kd.S_below HO533.out hb); replace HO544 := Aside0.mk (Kd.S_below HO544.out hb); replace HO547 := Aside0.mk (Kd.S_below HO547.out hb); replace HB := Aside0.mk (below_step HB.out hb); have Zw67 := Aside0.mk (hb.size); (try clear hb); (try clear hkp); (try clear hd_)))
             go_ret
             exact ⟨er_, hbs_⟩
            ·rw [if_neg c33] at H
             have c33b0 : (t550 == t538) = false := beq_eq_false_iff_ne.mpr c33
             have c33b1 : (t550 != t538) = true := bne_iff_ne.mpr c33
             exact absurd H (by simp)
          ·rw [if_neg c30] at H
           have c30b0 : (t548 == t519) = false := beq_eq_false_iff_ne.mpr c30
           have c30b1 : (t548 != t519) = true := bne_iff_ne.mpr c30
           exact absurd H (by simp)
         ·replace c29 := Bool.eq_false_iff.mpr c29
          subst c29
          have H1 : (some false) = some true := by rw [if_neg (show ¬ (false = true) by decide)] at H; exact H
          clear H
          have H := H1
          clear H1
          exact absurd H (by simp)
        ·rw [if_neg c25] at H
         have c25b0 : (t540 == t538) = false := beq_eq_false_iff_ne.mpr c25
         have c25b1 : (t540 != t538) = true := bne_iff_ne.mpr c25
         exact absurd H (by simp)
      ·replace c21 := Bool.eq_false_iff.mpr c21
       subst c21
       have H1 : (some false) = some true := by rw [if_neg (show ¬ (false = true) by decide)] at H; exact H
       clear H
       have H := H1
       clear H1
       exact absurd H (by simp)
    ·replace c17 := Bool.eq_false_iff.mpr c17
     subst c17
     have H1 : (some false) = some true := by rw [if_neg (show ¬ (false = true) by decide)] at H; exact H
     clear H
     have H := H1
     clear H1
     exact absurd H (by simp)
   ·rw [if_neg c14] at H
    have c14b0 : (t528 == t519) = false := beq_eq_false_iff_ne.mpr c14
    have c14b1 : (t528 != t519) = true := bne_iff_ne.mpr c14
    exact absurd H (by simp)
  ·replace c13 := Bool.eq_false_iff.mpr c13
   subst c13
   have H1 : (some false) = some true := by rw [if_neg (show ¬ (false = true) by decide)] at H; exact H
   clear H
   have H := H1
   clear H1
   exact absurd H (by simp)

/-- THE ONE PURE STATEMENT of laws_FnExactPrimeCycles: yours. -/
def laws_FnExactPrimeCycles.Pure : Prop := ∀ (a0_0 : Int) (l0_1 : List (List Int)) (a1 : Int), (Lit.int .i64 a0_0).wf = true → l0_1.length ≤ maxLen → (∀ r ∈ l0_1, r.length ≤ maxLen ∧ ∀ y ∈ r, (Lit.int .i64 y).wf = true) → (Lit.int .i64 a1).wf = true → ∃ k, laws_FnExactPrimeCycles.f k a0_0 l0_1 a1 = some true
theorem laws_FnExactPrimeCycles.walk (P : laws_FnExactPrimeCycles.Pure) (a0_0 : Int) (A0_1 : Option Addr) (c0_1 : Nat) (l0_1 : List (List Int)) (a1 : Int) (w : World) (hw0_0 : (Lit.int .i64 a0_0).wf = true) (hm0_1 : l0_1.length ≤ maxLen) (hw0_1 : (∀ r ∈ l0_1, r.length ≤ maxLen ∧ ∀ y ∈ r, (Lit.int .i64 y).wf = true)) (hr0_1 : Kd.C (Kd.slice 2 (Kd.int .i64)) w A0_1 l0_1.length l0_1) (hc0_1 : l0_1.length ≤ c0_1) (hw1 : (Lit.int .i64 a1).wf = true) :
  Calls Try.prog 8 #[.agg #[.int .i64 a0_0, .slice A0_1 l0_1.length c0_1], .int .i64 a1] w fun e w' => e = .returned (.bool true) ∧ Below w.heap.size w w' := by
 obtain ⟨k, h⟩ := P a0_0 l0_1 a1 hw0_0 hm0_1 hw0_1 hw1
 refine (laws_FnExactPrimeCycles.calls k a0_0 _ _ l0_1 a1 w hr0_1 hc0_1 h).mono ?_
 rintro e w' ⟨rfl, hd⟩
 exact ⟨rfl, hd⟩

end Go.Proofs.Ytipigagbgpoecaa.G
