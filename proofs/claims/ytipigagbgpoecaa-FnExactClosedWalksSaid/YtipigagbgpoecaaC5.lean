/- The printed functions that this law reaches, and their contracts: part 5. -/
-- printed by this repo's wip/printer out of the kit's print with its own changes
import Derived.Test.YtipigagbgpoecaaC4
namespace Go.Proofs.Ytipigagbgpoecaa.G
open Go.RowKit Go.Proofs.YtipigagbgpoecaaW.PrintWords Go.Proofs.YtipigagbgpoecaaW.PrintLast Go.Proofs.YtipigagbgpoecaaW.PrintMore
attribute [local go_sem] max2_int min2_int max_two min_two max_three min_three max_four min_four   -- for this text's walks alone
set_option linter.unusedVariables false
set_option linter.unusedSimpArgs false

/-! ### laws_FnExactClosedWalks: function 7 -/
def laws_FnExactClosedWalks.f (k : Nat) (a0_0 : Int) (l0_1 : List (List Int)) (a1 : Int) : Option (Bool) := (laws_szGraph.f k a0_0 l0_1 1048576).bind fun t371 => (if t371 < 0 then (some true) else ((laws_toGraph.f k a0_0 l0_1).bind fun bt372 => ((spec_ClosedWalks.f k bt372.1 bt372.2 a1).bind fun bt376 => ((laws_toGraph.f k a0_0 l0_1).bind fun bt380 => ((impl_ClosedWalks.f k bt380.1 bt380.2 a1).bind fun bt385 => ((laws_eqInt64SS.f k bt385.1 bt376.1).bind fun t389 => (if t389 = true then (if bt385.2 = bt376.2 then ((laws_toGraph.f k a0_0 l0_1).bind fun bt390 => ((laws_eqGraph.f k bt380.1 bt380.2 bt390.1 bt390.2).bind fun t394 => (if t394 = true then ((laws_markGraph.f k bt380.1 bt380.2 1).bind fun bt395 => (if bt395.1 < 0 then (some false) else ((laws_eqInt64SS.f k bt385.1 bt376.1).bind fun t397 => (if t397 = true then ((laws_markInt64SS.f k bt385.1 1).bind fun bt398 => ((laws_heldInt64SS.f k bt398.2 1).bind fun t400 => (if t400 < 0 then (some false) else (if t400 = bt398.1 then ((laws_toGraph.f k a0_0 l0_1).bind fun bt401 => ((impl_ClosedWalks.f k bt401.1 bt401.2 a1).bind fun bt405 => ((laws_eqInt64SS.f k bt405.1 bt376.1).bind fun t409 => (if t409 = true then (if bt405.2 = bt376.2 then ((laws_heldInt64SS.f k bt398.2 1).bind fun t410 => (if t410 < 0 then (some false) else (if t410 = bt398.1 then (some true) else (some false)))) else (some false)) else (some false))))) else (some false))))) else (some false))))) else (some false)))) else (some false)) else (some false))))))))
set_option maxHeartbeats 8000000 in
set_option maxRecDepth 100000 in
theorem laws_FnExactClosedWalks.calls (k : Nat) (a0_0 : Int) (A0_1 : Option Addr) (c0_1 : Nat) (l0_1 : List (List Int)) (a1 : Int) (w : World) (hr0_1 : Kd.C (Kd.slice 2 (Kd.int .i64)) w A0_1 l0_1.length l0_1) (hc0_1 : l0_1.length ≤ c0_1) (h : laws_FnExactClosedWalks.f k a0_0 l0_1 a1 = some true) :
  Calls Try.prog 7 #[.agg #[.int .i64 a0_0, .slice A0_1 l0_1.length c0_1], .int .i64 a1] w fun e w' => e = .returned (.bool true) ∧ Below w.heap.size w w' := by
 have hu24 := Try.underlying24
 have hu29 := Try.underlying29
 have HR0_1 := Aside0.mk hr0_1
 have HC0_1 := Aside0.mk hc0_1
 clear hr0_1 hc0_1
 have HB := Aside0.mk (Below.refl w.heap.size w)
 have H : ((laws_szGraph.f k a0_0 l0_1 1048576).bind fun t371 => (if t371 < 0 then (some true) else ((laws_toGraph.f k a0_0 l0_1).bind fun bt372 => ((spec_ClosedWalks.f k bt372.1 bt372.2 a1).bind fun bt376 => ((laws_toGraph.f k a0_0 l0_1).bind fun bt380 => ((impl_ClosedWalks.f k bt380.1 bt380.2 a1).bind fun bt385 => ((laws_eqInt64SS.f k bt385.1 bt376.1).bind fun t389 => (if t389 = true then (if bt385.2 = bt376.2 then ((laws_toGraph.f k a0_0 l0_1).bind fun bt390 => ((laws_eqGraph.f k bt380.1 bt380.2 bt390.1 bt390.2).bind fun t394 => (if t394 = true then ((laws_markGraph.f k bt380.1 bt380.2 1).bind fun bt395 => (if bt395.1 < 0 then (some false) else ((laws_eqInt64SS.f k bt385.1 bt376.1).bind fun t397 => (if t397 = true then ((laws_markInt64SS.f k bt385.1 1).bind fun bt398 => ((laws_heldInt64SS.f k bt398.2 1).bind fun t400 => (if t400 < 0 then (some false) else (if t400 = bt398.1 then ((laws_toGraph.f k a0_0 l0_1).bind fun bt401 => ((impl_ClosedWalks.f k bt401.1 bt401.2 a1).bind fun bt405 => ((laws_eqInt64SS.f k bt405.1 bt376.1).bind fun t409 => (if t409 = true then (if bt405.2 = bt376.2 then ((laws_heldInt64SS.f k bt398.2 1).bind fun t410 => (if t410 < 0 then (some false) else (if t410 = bt398.1 then (some true) else (some false)))) else (some false)) else (some false))))) else (some false))))) else (some false))))) else (some false)))) else (some false)) else (some false))))))))) = some true := h
 clear h
 obtain ⟨t371, A3, H⟩ := bnd_ H
 by_cases c4 : t371 < 0
 ·rw [if_pos c4] at H
  have c4b0 := decide_eq_true c4
  clear c4
  go_enter Try.func7, Try.ntmps7
  go_wp2_with (first | ((with_reducible refine gate_dst (N := 2) rfl ?_); refine box_event ?hg (N := 2) ?hd (cs := #[.int .i64 a0_0, .slice A0_1 l0_1.length c0_1]) (t := 24) ?hr ?_; (case hd => rfl); (case hg => rfl); (case hr => first | (go_simp; done) | (go_simp; rfl)); intro gb370 hg w5 hbox hb; have Zw5 := Aside0.mk (hb.size); have ZB370 := Aside0.mk ((⟨Nat.le_of_eq hg.symm, blk_lt hbox⟩ : w.heap.size ≤ gb370 ∧ gb370 < w5.heap.size)); have BK370 := Aside0.mk (hbox); have GW370 := Aside0.mk ((by rw [hg]; exact (below_size hb_) : w.heap.size ≤ gb370)); have GE370 := Aside0.mk ((by rw [hg]; exact (below_size hb_) : w.heap.size ≤ gb370)); replace HB := Aside0.mk (below_step hb_ hb); clear hb hbox hg; have hcz6_0 : w5.cell? ⟨gb370, 0, none⟩ = some (.int .i64 a0_0) := (blk_cell BK370.out 0).trans rfl; have hcz6_1 : w5.cell? ⟨gb370, 1, none⟩ = some (.slice A0_1 l0_1.length c0_1) := (blk_cell BK370.out 1).trans rfl; have hfz6_0 := blk_frozen BK370.out 0; have hfz6_1 := blk_frozen BK370.out 1) | ((with_reducible refine gate_callee (f := 10) rfl ?_); refine goesL_ (some 18) rfl rfl Try.func10 (by kernel_rfl) rfl #[.agg #[.int .i64 a0_0, .slice A0_1 l0_1.length c0_1], .int .i64 1048576] rfl (by (try simp only [List.map_toArray, List.map_cons, List.map_nil]); first | done | rfl) ?_; (with_reducible refine (laws_szGraph.calls k a0_0 _ _ l0_1 1048576 t371 _ ?side1 ?side2 A3.out).mono ?_); (case side1 => exact (Kd.C_below HR0_1.out HB.out)); (case side2 => exact HC0_1.out); rintro e w7 ⟨rfl, hb⟩; refine ⟨_, rfl, ?_⟩; replace BK370 := Aside0.mk (blk_below (g := gb370) (o := .cells #[.int .i64 a0_0, .slice A0_1 l0_1.length c0_1] 24 (0, 0)) (blk_below BK370.out bgo_) hb); replace HB := Aside0.mk (below_step HB.out hb); have Zw7 := Aside0.mk (hb.size); (try clear hb); (try clear hkp); (try clear hd_)))
  go_ret
  exact ⟨er_, hbs_⟩
 ·rw [if_neg c4] at H
  have c4b0 := decide_eq_false c4
  clear c4
  obtain ⟨⟨t372, t373⟩, A8, H⟩ := bnd_ H
  dsimp only at H
  obtain ⟨⟨t376, t379⟩, A9, H⟩ := bnd_ H
  dsimp only at H
  obtain ⟨⟨t380, t381⟩, A10, H⟩ := bnd_ H
  dsimp only at H
  obtain ⟨⟨t385, t388⟩, A11, H⟩ := bnd_ H
  dsimp only at H
  obtain ⟨t389, A12, H⟩ := bnd_ H
  by_cases c13 : t389 = true
  ·subst c13
   have H1 : (if t388 = t379 then ((laws_toGraph.f k a0_0 l0_1).bind fun bt390 => ((laws_eqGraph.f k t380 t381 bt390.1 bt390.2).bind fun t394 => (if t394 = true then ((laws_markGraph.f k t380 t381 1).bind fun bt395 => (if bt395.1 < 0 then (some false) else ((laws_eqInt64SS.f k t385 t376).bind fun t397 => (if t397 = true then ((laws_markInt64SS.f k t385 1).bind fun bt398 => ((laws_heldInt64SS.f k bt398.2 1).bind fun t400 => (if t400 < 0 then (some false) else (if t400 = bt398.1 then ((laws_toGraph.f k a0_0 l0_1).bind fun bt401 => ((impl_ClosedWalks.f k bt401.1 bt401.2 a1).bind fun bt405 => ((laws_eqInt64SS.f k bt405.1 t376).bind fun t409 => (if t409 = true then (if bt405.2 = t379 then ((laws_heldInt64SS.f k bt398.2 1).bind fun t410 => (if t410 < 0 then (some false) else (if t410 = bt398.1 then (some true) else (some false)))) else (some false)) else (some false))))) else (some false))))) else (some false))))) else (some false)))) else (some false)) = some true := by rw [if_pos rfl] at H; exact H
   clear H
   have H := H1
   clear H1
   by_cases c14 : t388 = t379
   ·rw [if_pos c14] at H
    have c14b0 : (t388 == t379) = true := beq_iff_eq.mpr c14
    have c14b1 : (t388 != t379) = false := bne_eq_false_iff_eq.mpr c14
    clear c14
    obtain ⟨⟨t390, t391⟩, A15, H⟩ := bnd_ H
    dsimp only at H
    obtain ⟨t394, A16, H⟩ := bnd_ H
    by_cases c17 : t394 = true
    ·subst c17
     have H1 : ((laws_markGraph.f k t380 t381 1).bind fun bt395 => (if bt395.1 < 0 then (some false) else ((laws_eqInt64SS.f k t385 t376).bind fun t397 => (if t397 = true then ((laws_markInt64SS.f k t385 1).bind fun bt398 => ((laws_heldInt64SS.f k bt398.2 1).bind fun t400 => (if t400 < 0 then (some false) else (if t400 = bt398.1 then ((laws_toGraph.f k a0_0 l0_1).bind fun bt401 => ((impl_ClosedWalks.f k bt401.1 bt401.2 a1).bind fun bt405 => ((laws_eqInt64SS.f k bt405.1 t376).bind fun t409 => (if t409 = true then (if bt405.2 = t379 then ((laws_heldInt64SS.f k bt398.2 1).bind fun t410 => (if t410 < 0 then (some false) else (if t410 = bt398.1 then (some true) else (some false)))) else (some false)) else (some false))))) else (some false))))) else (some false))))) = some true := by rw [if_pos rfl] at H; exact H
     clear H
     have H := H1
     clear H1
     obtain ⟨⟨t395, t396⟩, A18, H⟩ := bnd_ H
     dsimp only at H
     by_cases c19 : t395 < 0
     ·rw [if_pos c19] at H
      have c19b0 := decide_eq_true c19
      clear c19
      exact absurd H (by simp)
     ·rw [if_neg c19] at H
      have c19b0 := decide_eq_false c19
      clear c19
      obtain ⟨t397, A20, H⟩ := bnd_ H
      by_cases c21 : t397 = true
      ·subst c21
       have H1 : ((laws_markInt64SS.f k t385 1).bind fun bt398 => ((laws_heldInt64SS.f k bt398.2 1).bind fun t400 => (if t400 < 0 then (some false) else (if t400 = bt398.1 then ((laws_toGraph.f k a0_0 l0_1).bind fun bt401 => ((impl_ClosedWalks.f k bt401.1 bt401.2 a1).bind fun bt405 => ((laws_eqInt64SS.f k bt405.1 t376).bind fun t409 => (if t409 = true then (if bt405.2 = t379 then ((laws_heldInt64SS.f k bt398.2 1).bind fun t410 => (if t410 < 0 then (some false) else (if t410 = bt398.1 then (some true) else (some false)))) else (some false)) else (some false))))) else (some false))))) = some true := by rw [if_pos rfl] at H; exact H
       clear H
       have H := H1
       clear H1
       obtain ⟨⟨t398, t399⟩, A22, H⟩ := bnd_ H
       dsimp only at H
       obtain ⟨t400, A23, H⟩ := bnd_ H
       by_cases c24 : t400 < 0
       ·rw [if_pos c24] at H
        have c24b0 := decide_eq_true c24
        clear c24
        exact absurd H (by simp)
       ·rw [if_neg c24] at H
        have c24b0 := decide_eq_false c24
        clear c24
        by_cases c25 : t400 = t398
        ·rw [if_pos c25] at H
         have c25b0 : (t400 == t398) = true := beq_iff_eq.mpr c25
         have c25b1 : (t400 != t398) = false := bne_eq_false_iff_eq.mpr c25
         clear c25
         obtain ⟨⟨t401, t402⟩, A26, H⟩ := bnd_ H
         dsimp only at H
         obtain ⟨⟨t405, t408⟩, A27, H⟩ := bnd_ H
         dsimp only at H
         obtain ⟨t409, A28, H⟩ := bnd_ H
         by_cases c29 : t409 = true
         ·subst c29
          have H1 : (if t408 = t379 then ((laws_heldInt64SS.f k t399 1).bind fun t410 => (if t410 < 0 then (some false) else (if t410 = t398 then (some true) else (some false)))) else (some false)) = some true := by rw [if_pos rfl] at H; exact H
          clear H
          have H := H1
          clear H1
          by_cases c30 : t408 = t379
          ·rw [if_pos c30] at H
           have c30b0 : (t408 == t379) = true := beq_iff_eq.mpr c30
           have c30b1 : (t408 != t379) = false := bne_eq_false_iff_eq.mpr c30
           clear c30
           obtain ⟨t410, A31, H⟩ := bnd_ H
           by_cases c32 : t410 < 0
           ·rw [if_pos c32] at H
            have c32b0 := decide_eq_true c32
            clear c32
            exact absurd H (by simp)
           ·rw [if_neg c32] at H
            have c32b0 := decide_eq_false c32
            clear c32
            by_cases c33 : t410 = t398
            ·rw [if_pos c33] at H
             have c33b0 : (t410 == t398) = true := beq_iff_eq.mpr c33
             have c33b1 : (t410 != t398) = false := bne_eq_false_iff_eq.mpr c33
             clear c33
             go_enter Try.func7, Try.ntmps7
             try go_wp2_with (first | ((with_reducible refine gate_dst (N := 2) rfl ?_); refine box_event ?hg (N := 2) ?hd (cs := #[.int .i64 a0_0, .slice A0_1 l0_1.length c0_1]) (t := 24) ?hr ?_; (case hd => rfl); (case hg => rfl); (case hr => first | (go_simp; done) | (go_simp; rfl)); intro gb370 hg w34 hbox hb; have Zw34 := Aside0.mk (hb.size); have ZB370 := Aside0.mk ((⟨Nat.le_of_eq hg.symm, blk_lt hbox⟩ : w.heap.size ≤ gb370 ∧ gb370 < w34.heap.size)); have BK370 := Aside0.mk (hbox); have GW370 := Aside0.mk ((by rw [hg]; exact (below_size hb_) : w.heap.size ≤ gb370)); have GE370 := Aside0.mk ((by rw [hg]; exact (below_size hb_) : w.heap.size ≤ gb370)); replace HB := Aside0.mk (below_step hb_ hb); clear hb hbox hg; have hcz35_0 : w34.cell? ⟨gb370, 0, none⟩ = some (.int .i64 a0_0) := (blk_cell BK370.out 0).trans rfl; have hcz35_1 : w34.cell? ⟨gb370, 1, none⟩ = some (.slice A0_1 l0_1.length c0_1) := (blk_cell BK370.out 1).trans rfl; have hfz35_0 := blk_frozen BK370.out 0; have hfz35_1 := blk_frozen BK370.out 1) | ((with_reducible refine gate_callee (f := 10) rfl ?_); refine goesL_ (some 18) rfl rfl Try.func10 (by kernel_rfl) rfl #[.agg #[.int .i64 a0_0, .slice A0_1 l0_1.length c0_1], .int .i64 1048576] rfl (by (try simp only [List.map_toArray, List.map_cons, List.map_nil]); first | done | rfl) ?_; (with_reducible refine (laws_szGraph.calls k a0_0 _ _ l0_1 1048576 t371 _ ?side1 ?side2 A3.out).mono ?_); (case side1 => exact (Kd.C_below HR0_1.out HB.out)); (case side2 => exact HC0_1.out); rintro e w36 ⟨rfl, hb⟩; refine ⟨_, rfl, ?_⟩; replace BK370 := Aside0.mk (blk_below (g := gb370) (o := .cells #[.int .i64 a0_0, .slice A0_1 l0_1.length c0_1] 24 (0, 0)) (blk_below BK370.out bgo_) hb); replace HB := Aside0.mk (below_step HB.out hb); have Zw36 := Aside0.mk (hb.size); (try clear hb); (try clear hkp); (try clear hd_); have hcz37_0 : w36.cell? ⟨gb370, 0, none⟩ = some (.int .i64 a0_0) := (blk_cell BK370.out 0).trans rfl; have hcz37_1 : w36.cell? ⟨gb370, 1, none⟩ = some (.slice A0_1 l0_1.length c0_1) := (blk_cell BK370.out 1).trans rfl; have hfz37_0 := blk_frozen BK370.out 0; have hfz37_1 := blk_frozen BK370.out 1) | ((with_reducible refine gate_callee (f := 12) rfl ?_); refine goesL_ (some 23) rfl rfl Try.func12 (by kernel_rfl) rfl #[.agg #[.int .i64 a0_0, .slice A0_1 l0_1.length c0_1]] rfl (by (try simp only [List.map_toArray, List.map_cons, List.map_nil]); first | done | rfl) ?_; (with_reducible refine (laws_toGraph.calls k a0_0 _ _ l0_1 t372 t373 _ ?side1 ?side2 A8.out).mono ?_); (case side1 => exact (Kd.C_below HR0_1.out HB.out)); (case side2 => exact HC0_1.out); rintro e w38 ⟨v374, rfl, ho0, hb⟩; refine ⟨_, rfl, ?_⟩; replace BK370 := Aside0.mk (blk_below (g := gb370) (o := .cells #[.int .i64 a0_0, .slice A0_1 l0_1.length c0_1] 24 (0, 0)) (blk_below BK370.out bgo_) hb); have HO375 := Aside0.mk (Kd.S_lower (Kd.S_mono (Kd.S_bound ho0) (fun k_ hk_ => (⟨hk_.2.1, hk_.2.2.1⟩ : w36.heap.size ≤ k_ ∧ k_ < w38.heap.size))) HB.out.size); replace HB := Aside0.mk (below_step HB.out hb); have Zw38 := Aside0.mk (hb.size); (try clear hb); (try clear hkp); (try clear hd_); (try clear ho0); obtain ⟨Ao39, co39, eo39⟩ := Kd.S_slice HO375.out; subst eo39) | ((with_reducible refine gate_callee (f := 29) rfl ?_); refine goesL_ (some 25) rfl rfl Try.func29 (by kernel_rfl) rfl #[.agg #[.int .i64 t372, .slice Ao39 t373.length co39], .int .i64 a1] rfl (by (try simp only [List.map_toArray, List.map_cons, List.map_nil]); first | done | rfl) ?_; (with_reducible refine (spec_ClosedWalks.calls k t372 _ _ t373 a1 t376 t379 _ ?side1 ?side2 A9.out).mono ?_); (case side1 => exact (Kd.S_reads' HO375.out).2.2); (case side2 => (have e_ := Kd.S_reads' HO375.out; have e1_ := e_.1; have e2_ := e_.2.1; omega)); rintro e w40 ⟨v377, rfl, ho0, hb⟩; refine ⟨_, rfl, ?_⟩; replace BK370 := Aside0.mk (blk_below (g := gb370) (o := .cells #[.int .i64 a0_0, .slice A0_1 l0_1.length c0_1] 24 (0, 0)) (blk_below BK370.out bgo_) hb); replace HO375 := Aside0.mk (Kd.S_below HO375.out hb); have HO378 := Aside0.mk (Kd.N_lower (Kd.N_mono (Kd.N_bound ho0) (fun k_ hk_ => (⟨hk_.1, hk_.2⟩ : w38.heap.size ≤ k_ ∧ k_ < w40.heap.size))) HB.out.size); replace HB := Aside0.mk (below_step HB.out hb); have Zw40 := Aside0.mk (hb.size); (try clear hb); (try clear hkp); (try clear hd_); (try clear ho0); obtain ⟨Ao41, co41, eo41⟩ := Kd.N_slice HO378.out; subst eo41; have hcz42_0 : w40.cell? ⟨gb370, 0, none⟩ = some (.int .i64 a0_0) := (blk_cell BK370.out 0).trans rfl; have hcz42_1 : w40.cell? ⟨gb370, 1, none⟩ = some (.slice A0_1 l0_1.length c0_1) := (blk_cell BK370.out 1).trans rfl; have hfz42_0 := blk_frozen BK370.out 0; have hfz42_1 := blk_frozen BK370.out 1) | ((with_reducible refine gate_callee (f := 12) rfl ?_); refine goesL_ (some 29) rfl rfl Try.func12 (by kernel_rfl) rfl #[.agg #[.int .i64 a0_0, .slice A0_1 l0_1.length c0_1]] rfl (by (try simp only [List.map_toArray, List.map_cons, List.map_nil]); first | done | rfl) ?_; (with_reducible refine (laws_toGraph.calls k a0_0 _ _ l0_1 t380 t381 _ ?side1 ?side2 A10.out).mono ?_); (case side1 => exact (Kd.C_below HR0_1.out HB.out)); (case side2 => exact HC0_1.out); rintro e w43 ⟨v382, rfl, ho0, hb⟩; refine ⟨_, rfl, ?_⟩; replace BK370 := Aside0.mk (blk_below (g := gb370) (o := .cells #[.int .i64 a0_0, .slice A0_1 l0_1.length c0_1] 24 (0, 0)) (blk_below BK370.out bgo_) hb); replace HO375 := Aside0.mk (Kd.S_below HO375.out hb); replace HO378 := Aside0.mk (Kd.N_below HO378.out hb); have HO383 := Aside0.mk (Kd.S_lower (Kd.S_mono (Kd.S_bound ho0) (fun k_ hk_ => (⟨hk_.2.1, hk_.2.2.1⟩ : w40.heap.size ≤ k_ ∧ k_ < w43.heap.size))) HB.out.size); replace HB := Aside0.mk (below_step HB.out hb); have Zw43 := Aside0.mk (hb.size); (try clear hb); (try clear hkp); (try clear hd_); (try clear ho0); obtain ⟨Ao44, co44, eo44⟩ := Kd.S_slice HO383.out; subst eo44) | ((with_reducible refine gate_dst (N := 8) rfl ?_); refine box_event ?hg (N := 8) ?hd (cs := #[.int .i64 0, .slice none 0 0]) (t := 29) ?hr ?_; (case hd => rfl); (case hg => rfl); (case hr => first | (go_simp; done) | (go_simp; rfl)); intro gb384 hg w45 hbox hb; replace HO375 := Aside0.mk (Kd.S_below HO375.out hb); replace HO378 := Aside0.mk (Kd.N_below HO378.out hb); replace HO383 := Aside0.mk (Kd.S_below HO383.out hb); have Zw45 := Aside0.mk (hb.size); have ZB384 := Aside0.mk ((⟨Nat.le_of_eq hg.symm, blk_lt hbox⟩ : w43.heap.size ≤ gb384 ∧ gb384 < w45.heap.size)); have BK384 := Aside0.mk (hbox); have GW384 := Aside0.mk ((by rw [hg]; exact (below_size hbs_) : w.heap.size ≤ gb384)); have GE384 := Aside0.mk ((by rw [hg]; exact (below_size hbs_) : w.heap.size ≤ gb384)); replace HB := Aside0.mk (below_step hbs_ hb); have NB370_384 := Aside0.mk ((by rw [hg]; exact Nat.ne_of_lt (blk_lt (g := gb370) (o := .cells #[.int .i64 a0_0, .slice A0_1 l0_1.length c0_1] 24 (0, 0)) (blk_below BK370.out bgo_)) : gb370 ≠ gb384)); have NB384_370 := Aside0.mk ((by rw [hg]; exact Nat.ne_of_gt (blk_lt (g := gb370) (o := .cells #[.int .i64 a0_0, .slice A0_1 l0_1.length c0_1] 24 (0, 0)) (blk_below BK370.out bgo_)) : gb384 ≠ gb370)); replace BK370 := Aside0.mk (blk_below (g := gb370) (o := .cells #[.int .i64 a0_0, .slice A0_1 l0_1.length c0_1] 24 (0, 0)) (blk_below BK370.out bgo_) hb); clear hb hbox hg; have hnb46 := NB384_370.out; have hnc46 := NB370_384.out; have hcz47_0 : w45.cell? ⟨gb384, 0, none⟩ = some (.int .i64 0) := (blk_cell BK384.out 0).trans rfl; have hcz47_1 : w45.cell? ⟨gb384, 1, none⟩ = some (.slice none 0 0) := (blk_cell BK384.out 1).trans rfl; have hfz47_0 := blk_frozen BK384.out 0; have hfz47_1 := blk_frozen BK384.out 1) | ((with_reducible refine gate_callee (f := 30) rfl ?_); have n0_ := Aside0.mk (show ((w45.setCell ⟨gb384, 0, none⟩ (.int .i64 t380)).setCell ⟨gb384, 1, none⟩ (.slice Ao44 t381.length co44)).heap[gb370]? = some (.cells #[.int .i64 a0_0, .slice A0_1 l0_1.length c0_1] 24 (0, 0)) from (by (with_reducible repeat (first | refine blk_drewN ?_ _ | refine blk_drew ?_ | refine blk_alloc ?_ _)); refine blk_far ?_ NB370_384.out _; (with_reducible repeat (first | refine blk_drewN ?_ _ | refine blk_drew ?_ | refine blk_alloc ?_ _)); refine blk_far ?_ NB370_384.out _; (with_reducible repeat (first | refine blk_drewN ?_ _ | refine blk_drew ?_ | refine blk_alloc ?_ _)); exact BK370.out)); have n1_ := Aside0.mk (show Kd.S (Kd.slice 2 (Kd.int .i64)) 26 ((w45.setCell ⟨gb384, 0, none⟩ (.int .i64 t380)).setCell ⟨gb384, 1, none⟩ (.slice Ao44 t381.length co44)) w.heap.size (fun k_ => w36.heap.size ≤ k_ ∧ k_ < w38.heap.size) (.slice Ao39 t373.length co39) t373 from (Kd.S_far (Kd.S_far HO375.out (fun k_ ho_ => (show k_ ≠ gb384 from by have h1_ := ho_.1; have h2_ := ho_.2; have h3_ := ZB384.out.1; have h4_ := ZB384.out.2; have := Zw34.out; have := Zw36.out; have := Zw38.out; have := Zw40.out; have := Zw43.out; have := Zw45.out; omega)) _) (fun k_ ho_ => (show k_ ≠ gb384 from by have h1_ := ho_.1; have h2_ := ho_.2; have h3_ := ZB384.out.1; have h4_ := ZB384.out.2; have := Zw34.out; have := Zw36.out; have := Zw38.out; have := Zw40.out; have := Zw43.out; have := Zw45.out; omega)) _)); have n2_ := Aside0.mk (show Kd.N (Kd.slice 2 (Kd.int .i64)) 26 ((w45.setCell ⟨gb384, 0, none⟩ (.int .i64 t380)).setCell ⟨gb384, 1, none⟩ (.slice Ao44 t381.length co44)) w.heap.size (fun k_ => w38.heap.size ≤ k_ ∧ k_ < w40.heap.size) (.slice Ao41 t376.length co41) t376 from (Kd.N_far (Kd.N_far HO378.out (fun k_ ho_ => (show k_ ≠ gb384 from by have h1_ := ho_.1; have h2_ := ho_.2; have h3_ := ZB384.out.1; have h4_ := ZB384.out.2; have := Zw34.out; have := Zw36.out; have := Zw38.out; have := Zw40.out; have := Zw43.out; have := Zw45.out; omega)) _) (fun k_ ho_ => (show k_ ≠ gb384 from by have h1_ := ho_.1; have h2_ := ho_.2; have h3_ := ZB384.out.1; have h4_ := ZB384.out.2; have := Zw34.out; have := Zw36.out; have := Zw38.out; have := Zw40.out; have := Zw43.out; have := Zw45.out; omega)) _)); have n3_ := Aside0.mk (show Kd.S (Kd.slice 2 (Kd.int .i64)) 26 ((w45.setCell ⟨gb384, 0, none⟩ (.int .i64 t380)).setCell ⟨gb384, 1, none⟩ (.slice Ao44 t381.length co44)) w.heap.size (fun k_ => w40.heap.size ≤ k_ ∧ k_ < w43.heap.size) (.slice Ao44 t381.length co44) t381 from (Kd.S_far (Kd.S_far HO383.out (fun k_ ho_ => (show k_ ≠ gb384 from by have h1_ := ho_.1; have h2_ := ho_.2; have h3_ := ZB384.out.1; have h4_ := ZB384.out.2; have := Zw34.out; have := Zw36.out; have := Zw38.out; have := Zw40.out; have := Zw43.out; have := Zw45.out; omega)) _) (fun k_ ho_ => (show k_ ≠ gb384 from by have h1_ := ho_.1; have h2_ := ho_.2; have h3_ := ZB384.out.1; have h4_ := ZB384.out.2; have := Zw34.out; have := Zw36.out; have := Zw38.out; have := Zw40.out; have := Zw43.out; have := Zw45.out; omega)) _)); have n4_ := Aside0.mk (show ((w45.setCell ⟨gb384, 0, none⟩ (.int .i64 t380)).setCell ⟨gb384, 1, none⟩ (.slice Ao44 t381.length co44)).heap[gb384]? = some (.cells #[.int .i64 t380, .slice Ao44 t381.length co44] 29 (0, 0)) from (by (with_reducible repeat (first | refine blk_drewN ?_ _ | refine blk_drew ?_ | refine blk_alloc ?_ _)); refine blk_put (cs := #[.int .i64 t380, .slice none 0 0]) ?_ 1 _ rfl; (with_reducible repeat (first | refine blk_drewN ?_ _ | refine blk_drew ?_ | refine blk_alloc ?_ _)); refine blk_put (cs := #[.int .i64 0, .slice none 0 0]) ?_ 0 _ rfl; (with_reducible repeat (first | refine blk_drewN ?_ _ | refine blk_drew ?_ | refine blk_alloc ?_ _)); exact BK384.out)); have n5_ := Aside0.mk (show Below w.heap.size w ((w45.setCell ⟨gb384, 0, none⟩ (.int .i64 t380)).setCell ⟨gb384, 1, none⟩ (.slice Ao44 t381.length co44)) from (below_set (below_set HB.out GE384.out) GE384.out)); have n6_ := Aside0.mk (show w45.heap.size ≤ ((w45.setCell ⟨gb384, 0, none⟩ (.int .i64 t380)).setCell ⟨gb384, 1, none⟩ (.slice Ao44 t381.length co44)).heap.size from (Kept.setCell (Kept.setCell (Kept.refl w45 (fun _ => True)) (.inl trivial) _) (.inl trivial) _).1); clear BK370; clear HO375; clear HO378; clear HO383; clear BK384; clear HB; generalize hW_ : ((w45.setCell ⟨gb384, 0, none⟩ (.int .i64 t380)).setCell ⟨gb384, 1, none⟩ (.slice Ao44 t381.length co44)) = w48 at n0_ n1_ n2_ n3_ n4_ n5_ n6_ ⊢; clear hW_; have BK370 := n0_; have HO375 := n1_; have HO378 := n2_; have HO383 := n3_; have BK384 := n4_; have HB := n5_; have Zw48 := n6_; clear n0_ n1_ n2_ n3_ n4_ n5_ n6_; refine goesL_ (some 33) rfl rfl Try.func30 (by kernel_rfl) rfl #[.agg #[.int .i64 t380, .slice Ao44 t381.length co44], .int .i64 a1] rfl (by (try simp only [List.map_toArray, List.map_cons, List.map_nil]); first | done | rfl) ?_; (with_reducible refine (impl_ClosedWalks.calls k t380 _ _ t381 a1 t385 t388 _ ?side1 ?side2 A11.out).mono ?_); (case side1 => exact (Kd.S_reads' HO383.out).2.2); (case side2 => (have e_ := Kd.S_reads' HO383.out; have e1_ := e_.1; have e2_ := e_.2.1; omega)); rintro e w49 ⟨v386, rfl, ho0, hb⟩; refine ⟨_, rfl, ?_⟩; replace BK370 := Aside0.mk (blk_below (g := gb370) (o := .cells #[.int .i64 a0_0, .slice A0_1 l0_1.length c0_1] 24 (0, 0)) (blk_below BK370.out bgo_) hb); replace HO375 := Aside0.mk (Kd.S_below HO375.out hb); replace HO378 := Aside0.mk (Kd.N_below HO378.out hb); replace HO383 := Aside0.mk (Kd.S_below HO383.out hb); replace BK384 := Aside0.mk (blk_below (g := gb384) (o := .cells #[.int .i64 t380, .slice Ao44 t381.length co44] 29 (0, 0)) (blk_below BK384.out bgo_) hb); have HO387 := Aside0.mk (Kd.S_lower (Kd.S_mono (Kd.S_bound ho0) (fun k_ hk_ => (⟨hk_.2.1, hk_.2.2.1⟩ : w48.heap.size ≤ k_ ∧ k_ < w49.heap.size))) HB.out.size); replace HB := Aside0.mk (below_step HB.out hb); have Zw49 := Aside0.mk (hb.size); (try clear hb); (try clear hkp); (try clear hd_); (try clear ho0); obtain ⟨Ao50, co50, eo50⟩ := Kd.S_slice HO387.out; subst eo50) | ((with_reducible refine gate_callee (f := 26) rfl ?_); refine goesL_ (some 38) rfl rfl Try.func26 (by kernel_rfl) rfl #[.slice Ao50 t385.length co50, .slice Ao41 t376.length co41] rfl (by (try simp only [List.map_toArray, List.map_cons, List.map_nil]); first | done | rfl) ?_; (with_reducible refine (laws_eqInt64SS.calls k _ _ t385 _ _ t376 true _ ?side1 ?side2 ?side3 ?side4 A12.out).mono ?_); (case side1 => exact (Kd.S_reads' HO387.out).2.2); (case side2 => (have e_ := Kd.S_reads' HO387.out; have e1_ := e_.1; have e2_ := e_.2.1; omega)); (case side3 => exact (Kd.N_reads' HO378.out).2.2); (case side4 => (have e_ := Kd.N_reads' HO378.out; have e1_ := e_.1; have e2_ := e_.2.1; omega)); rintro e w51 ⟨rfl, hd_⟩; refine ⟨_, rfl, ?_⟩; have hb := hd_.below; replace BK370 := Aside0.mk (blk_below (g := gb370) (o := .cells #[.int .i64 a0_0, .slice A0_1 l0_1.length c0_1] 24 (0, 0)) (blk_below BK370.out bgo_) hb); replace HO375 := Aside0.mk (Kd.S_below HO375.out hb); replace HO378 := Aside0.mk (Kd.N_below HO378.out hb); replace HO383 := Aside0.mk (Kd.S_below HO383.out hb); replace BK384 := Aside0.mk (blk_below (g := gb384) (o := .cells #[.int .i64 t380, .slice Ao44 t381.length co44] 29 (0, 0)) (blk_below BK384.out bgo_) hb); replace HO387 := Aside0.mk (Kd.S_below HO387.out hb); replace HB := Aside0.mk (below_step HB.out hb); have Zw51 := Aside0.mk (hb.size); (try clear hb); (try clear hkp); (try clear hd_)))
             have n0_ := Aside0.mk ((show w51.heap.size ≤ w51.drew.heap.size from Nat.le_refl _))
             have n1_ := Aside0.mk (Kd.S_drew HO375.out)
             have n2_ := Aside0.mk (Kd.N_drew HO378.out)
             have n3_ := Aside0.mk (Kd.S_drew HO383.out)
             have n4_ := Aside0.mk (Kd.S_drew HO387.out)
             have n5_ := Aside0.mk (blk_drew BK370.out)
             have n6_ := Aside0.mk (blk_drew BK384.out)
             have n7_ := Aside0.mk (below_drew1 HB.out)
             clear HO375
             clear HO378
             clear HO383
             clear HO387
             clear BK370
             clear BK384
             clear HB
             have Zw52 := n0_
             have HO375 := n1_
             have HO378 := n2_
             have HO383 := n3_
             have HO387 := n4_
             have BK370 := n5_
             have BK384 := n6_
             have HB := n7_
             clear n0_ n1_ n2_ n3_ n4_ n5_ n6_ n7_
             refine start_ (n := 5) (S := fun w' => w'.cell? ⟨gb384, 0, none⟩ = some (.int .i64 t380) ∧ w'.cell? ⟨gb384, 1, none⟩ = some (.slice Ao44 t381.length co44) ∧ w'.cell? ⟨gb370, 0, none⟩ = some (.int .i64 a0_0) ∧ w'.cell? ⟨gb370, 1, none⟩ = some (.slice A0_1 l0_1.length c0_1)) (ds := []) #[false, false, false, false, false] (by kernel_rfl) rfl rfl ⟨(blk_cell BK384.out 0).trans rfl, (blk_cell BK384.out 1).trans rfl, (blk_cell BK370.out 0).trans rfl, (blk_cell BK370.out 1).trans rfl⟩ (fun hHeld => ?_)
             generalize w51.drew = w52 at HO375 HO378 HO383 HO387 BK370 BK384 HB Zw52 hHeld ⊢
             refine take_ (i := 0) (N := some 45) (v := ?_) (a' := ?_) #[true, false, false, false, false] rfl rfl (by kernel_rfl) (fun _ _ _ h => h) (Or.inl ⟨by rfl, ?_⟩) hHeld ?_ ?_
             rotate_left
             ·rintro w' ⟨s0, s1, s2, s3⟩
              go_simp
              with_reducible rfl
             rotate_left
             ·simp only [Act.put, nf_]
              rfl
             refine take_ (i := 1) (N := some 46) (v := ?_) (a' := ?_) #[true, true, false, false, false] rfl rfl (by kernel_rfl) (fun _ _ _ h => h) (Or.inl ⟨by rfl, ?_⟩) hHeld ?_ ?_
             rotate_left
             ·rintro w' ⟨s0, s1, s2, s3⟩
              go_simp
              with_reducible rfl
             rotate_left
             ·simp only [Act.put, nf_]
              rfl
             refine one_ (i := 2) (N := some 47) #[true, true, true, false, false] rfl rfl (by kernel_rfl) (by decide) (fun K hK => ?_)
             refine goes_ Try.func12 (by kernel_rfl) rfl #[.agg #[.int .i64 a0_0, .slice A0_1 l0_1.length c0_1]] (by rfl) rfl rfl arg_ ?_
             with_reducible refine (laws_toGraph.calls k a0_0 _ _ l0_1 t390 t391 _ ?side1 ?side2 A15.out).mono ?_
             (case side1 => exact (Kd.C_below HR0_1.out HB.out))
             (case side2 => exact HC0_1.out)
             rintro e w53 ⟨v392, rfl, ho0, hb⟩
             refine ⟨_, rfl, ?_⟩
             have n0_ := Aside0.mk (blk_below (g := gb370) (o := .cells #[.int .i64 a0_0, .slice A0_1 l0_1.length c0_1] 24 (0, 0)) (blk_below BK370.out bgo_) hb)
             have n1_ := Aside0.mk (Kd.S_below HO375.out hb)
             have n2_ := Aside0.mk (Kd.N_below HO378.out hb)
             have n3_ := Aside0.mk (Kd.S_below HO383.out hb)
             have n4_ := Aside0.mk (blk_below (g := gb384) (o := .cells #[.int .i64 t380, .slice Ao44 t381.length co44] 29 (0, 0)) (blk_below BK384.out bgo_) hb)
             have n5_ := Aside0.mk (Kd.S_below HO387.out hb)
             have n6_ := Aside0.mk (Kd.S_lower (Kd.S_mono (Kd.S_bound ho0) (fun k_ hk_ => (⟨hk_.2.1, hk_.2.2.1⟩ : w52.heap.size ≤ k_ ∧ k_ < w53.heap.size))) HB.out.size)
             have n7_ := Aside0.mk (below_step HB.out hb)
             have n8_ := Aside0.mk (hb.size)
             clear BK370
             clear HO375
             clear HO378
             clear HO383
             clear BK384
             clear HO387
             clear HB
             have BK370 := n0_
             have HO375 := n1_
             have HO378 := n2_
             have HO383 := n3_
             have BK384 := n4_
             have HO387 := n5_
             have HO393 := n6_
             have HB := n7_
             have Zw53 := n8_
             clear n0_ n1_ n2_ n3_ n4_ n5_ n6_ n7_ n8_
             (try clear hb)
             (try clear hkp)
             (try clear hd_)
             (try clear ho0)
             obtain ⟨Ao54, co54, eo54⟩ := Kd.S_slice HO393.out
             subst eo54
             refine hK.out _ _ ⟨(blk_cell BK384.out 0).trans rfl, (blk_cell BK384.out 1).trans rfl, (blk_cell BK370.out 0).trans rfl, (blk_cell BK370.out 1).trans rfl⟩ (fun hHeld => ?_)
             clear hK K
             refine norm_ (a' := ?_) ?_ ?_
             rotate_left
             ·show Act.put _ (some 47) _ = _
              simp only [Act.put, nf_]
              rfl
             refine one_ (i := 3) (N := some 48) #[true, true, true, true, false] rfl rfl (by kernel_rfl) (by decide) (fun K hK => ?_)
             refine goes_ Try.func15 (by kernel_rfl) rfl #[.agg #[.int .i64 t380, .slice Ao44 t381.length co44], .agg #[.int .i64 t390, .slice Ao54 t391.length co54]] (by rfl) rfl rfl arg_ ?_
             with_reducible refine (laws_eqGraph.calls k t380 _ _ t381 t390 _ _ t391 true _ ?side1 ?side2 ?side3 ?side4 A16.out).mono ?_
             (case side1 => exact (Kd.S_reads' HO383.out).2.2)
             (case side2 => (have e_ := Kd.S_reads' HO383.out; have e1_ := e_.1; have e2_ := e_.2.1; omega))
             (case side3 => exact (Kd.S_reads' HO393.out).2.2)
             (case side4 => (have e_ := Kd.S_reads' HO393.out; have e1_ := e_.1; have e2_ := e_.2.1; omega))
             rintro e w55 ⟨rfl, hb⟩
             refine ⟨_, rfl, ?_⟩
             have n0_ := Aside0.mk (blk_below (g := gb370) (o := .cells #[.int .i64 a0_0, .slice A0_1 l0_1.length c0_1] 24 (0, 0)) (blk_below BK370.out bgo_) hb)
             have n1_ := Aside0.mk (Kd.S_below HO375.out hb)
             have n2_ := Aside0.mk (Kd.N_below HO378.out hb)
             have n3_ := Aside0.mk (Kd.S_below HO383.out hb)
             have n4_ := Aside0.mk (blk_below (g := gb384) (o := .cells #[.int .i64 t380, .slice Ao44 t381.length co44] 29 (0, 0)) (blk_below BK384.out bgo_) hb)
             have n5_ := Aside0.mk (Kd.S_below HO387.out hb)
             have n6_ := Aside0.mk (Kd.S_below HO393.out hb)
             have n7_ := Aside0.mk (below_step HB.out hb)
             have n8_ := Aside0.mk (hb.size)
             clear BK370
             clear HO375
             clear HO378
             clear HO383
             clear BK384
             clear HO387
             clear HO393
             clear HB
             have BK370 := n0_
             have HO375 := n1_
             have HO378 := n2_
             have HO383 := n3_
             have BK384 := n4_
             have HO387 := n5_
             have HO393 := n6_
             have HB := n7_
             have Zw55 := n8_
             clear n0_ n1_ n2_ n3_ n4_ n5_ n6_ n7_ n8_
             (try clear hb)
             (try clear hkp)
             (try clear hd_)
             refine hK.out _ _ ⟨(blk_cell BK384.out 0).trans rfl, (blk_cell BK384.out 1).trans rfl, (blk_cell BK370.out 0).trans rfl, (blk_cell BK370.out 1).trans rfl⟩ (fun hHeld => ?_)
             clear hK K
             refine norm_ (a' := ?_) ?_ ?_
             rotate_left
             ·show Act.put _ (some 48) _ = _
              simp only [Act.put, nf_]
              rfl
             refine pure_ (i := 4) (N := some 49) (v := ?_) (a' := ?_) #[true, true, true, true, true] rfl rfl (by kernel_rfl) (fun _ _ _ h => h) (Or.inl ⟨by rfl, ?_⟩) ?_ ?_
             rotate_left
             ·intro w'
              go_simp
              with_reducible rfl
             rotate_left
             ·simp only [Act.put, nf_]
              rfl
             refine done_ (by kernel_rfl) ?_
             have hcz56_0 : w55.cell? ⟨gb384, 0, none⟩ = some (.int .i64 t380) := (blk_cell BK384.out 0).trans rfl
             have hcz56_1 : w55.cell? ⟨gb384, 1, none⟩ = some (.slice Ao44 t381.length co44) := (blk_cell BK384.out 1).trans rfl
             have hfz56_0 := blk_frozen BK384.out 0
             have hfz56_1 := blk_frozen BK384.out 1
             try go_wp2_with (first | ((with_reducible refine gate_callee (f := 16) rfl ?_); refine goesL_ (some 52) rfl rfl Try.func16 (by kernel_rfl) rfl #[.agg #[.int .i64 t380, .slice Ao44 t381.length co44], .int .i64 1] rfl (by (try simp only [List.map_toArray, List.map_cons, List.map_nil]); first | done | rfl) ?_; (with_reducible refine (laws_markGraph.calls k t380 (fun k_ => w40.heap.size ≤ k_ ∧ k_ < w43.heap.size) (.slice Ao44 t381.length co44) t381 1 t395 t396 w _ ?side1 ?side2 A18.out).mono ?_); (case side1 => exact HB.out); (case side2 => exact HO383.out); rintro e w57 ⟨rfl, hy0, hb, hkp⟩; refine ⟨_, rfl, ?_⟩; replace BK370 := Aside0.mk (blk_kept (blk_below BK370.out bgo_) hkp (fun hs_ => by have h1_ := ZB370.out.1; have h2_ := ZB370.out.2; have := Zw34.out; have := Zw36.out; have := Zw38.out; have := Zw40.out; have := Zw43.out; have := Zw45.out; have := Zw48.out; have := Zw49.out; have := Zw51.out; have := Zw52.out; have := Zw53.out; have := Zw55.out; have h3_ := hs_.1; have h4_ := hs_.2; omega)); replace HO375 := Aside0.mk (Kd.S_step HO375.out (fun k_ ho_ hl_ => hkp.2 k_ hl_ (fun hs_ => by have h1_ := ho_.1; have h2_ := ho_.2; have := Zw34.out; have := Zw36.out; have := Zw38.out; have := Zw40.out; have := Zw43.out; have := Zw45.out; have := Zw48.out; have := Zw49.out; have := Zw51.out; have := Zw52.out; have := Zw53.out; have := Zw55.out; have h3_ := hs_.1; have h4_ := hs_.2; omega))); replace HO378 := Aside0.mk (Kd.N_step HO378.out (fun k_ ho_ hl_ => hkp.2 k_ hl_ (fun hs_ => by have h1_ := ho_.1; have h2_ := ho_.2; have := Zw34.out; have := Zw36.out; have := Zw38.out; have := Zw40.out; have := Zw43.out; have := Zw45.out; have := Zw48.out; have := Zw49.out; have := Zw51.out; have := Zw52.out; have := Zw53.out; have := Zw55.out; have h3_ := hs_.1; have h4_ := hs_.2; omega))); replace HO383 := Aside0.mk (hy0); replace BK384 := Aside0.mk (blk_kept (blk_below BK384.out bgo_) hkp (fun hs_ => by have h1_ := ZB384.out.1; have h2_ := ZB384.out.2; have := Zw34.out; have := Zw36.out; have := Zw38.out; have := Zw40.out; have := Zw43.out; have := Zw45.out; have := Zw48.out; have := Zw49.out; have := Zw51.out; have := Zw52.out; have := Zw53.out; have := Zw55.out; have h3_ := hs_.1; have h4_ := hs_.2; omega)); replace HO387 := Aside0.mk (Kd.S_step HO387.out (fun k_ ho_ hl_ => hkp.2 k_ hl_ (fun hs_ => by have h1_ := ho_.1; have h2_ := ho_.2; have := Zw34.out; have := Zw36.out; have := Zw38.out; have := Zw40.out; have := Zw43.out; have := Zw45.out; have := Zw48.out; have := Zw49.out; have := Zw51.out; have := Zw52.out; have := Zw53.out; have := Zw55.out; have h3_ := hs_.1; have h4_ := hs_.2; omega))); replace HO393 := Aside0.mk (Kd.S_step HO393.out (fun k_ ho_ hl_ => hkp.2 k_ hl_ (fun hs_ => by have h1_ := ho_.1; have h2_ := ho_.2; have := Zw34.out; have := Zw36.out; have := Zw38.out; have := Zw40.out; have := Zw43.out; have := Zw45.out; have := Zw48.out; have := Zw49.out; have := Zw51.out; have := Zw52.out; have := Zw53.out; have := Zw55.out; have h3_ := hs_.1; have h4_ := hs_.2; omega))); replace HB := Aside0.mk (hb); have Zw57 := Aside0.mk (hkp.1); (try clear hb); (try clear hkp); (try clear hd_); (try clear hy0)) | (go_at_call 26; (with_reducible refine (laws_eqInt64SS.calls k _ _ t385 _ _ t376 true _ ?side1 ?side2 ?side3 ?side4 A20.out).mono ?_); (case side1 => exact (Kd.S_reads' HO387.out).2.2); (case side2 => (have e_ := Kd.S_reads' HO387.out; have e1_ := e_.1; have e2_ := e_.2.1; omega)); (case side3 => exact (Kd.N_reads' HO378.out).2.2); (case side4 => (have e_ := Kd.N_reads' HO378.out; have e1_ := e_.1; have e2_ := e_.2.1; omega)); rintro e w58 ⟨rfl, hd_⟩; have hb := hd_.below; replace BK370 := Aside0.mk (blk_below (g := gb370) (o := .cells #[.int .i64 a0_0, .slice A0_1 l0_1.length c0_1] 24 (0, 0)) (blk_below BK370.out bgo_) hb); replace HO375 := Aside0.mk (Kd.S_below HO375.out hb); replace HO378 := Aside0.mk (Kd.N_below HO378.out hb); replace HO383 := Aside0.mk (Kd.S_below HO383.out hb); replace BK384 := Aside0.mk (blk_below (g := gb384) (o := .cells #[.int .i64 t380, .slice Ao44 t381.length co44] 29 (0, 0)) (blk_below BK384.out bgo_) hb); replace HO387 := Aside0.mk (Kd.S_below HO387.out hb); replace HO393 := Aside0.mk (Kd.S_below HO393.out hb); replace HB := Aside0.mk (below_step HB.out hb); have Zw58 := Aside0.mk (hb.size); (try clear hb); (try clear hkp); (try clear hd_)) | ((with_reducible refine gate_callee (f := 27) rfl ?_); refine goesL_ (some 68) rfl rfl Try.func27 (by kernel_rfl) rfl #[.slice Ao50 t385.length co50, .int .i64 1] rfl (by (try simp only [List.map_toArray, List.map_cons, List.map_nil]); first | done | rfl) ?_; (with_reducible refine (laws_markInt64SS.calls k (fun k_ => w48.heap.size ≤ k_ ∧ k_ < w49.heap.size) (.slice Ao50 t385.length co50) t385 1 t398 t399 w _ ?side1 ?side2 A22.out).mono ?_); (case side1 => exact HB.out); (case side2 => exact HO387.out); rintro e w59 ⟨rfl, hy0, hb, hkp⟩; refine ⟨_, rfl, ?_⟩; replace BK370 := Aside0.mk (blk_kept (blk_below BK370.out bgo_) hkp (fun hs_ => by have h1_ := ZB370.out.1; have h2_ := ZB370.out.2; have := Zw34.out; have := Zw36.out; have := Zw38.out; have := Zw40.out; have := Zw43.out; have := Zw45.out; have := Zw48.out; have := Zw49.out; have := Zw51.out; have := Zw52.out; have := Zw53.out; have := Zw55.out; have := Zw57.out; have := Zw58.out; have h3_ := hs_.1; have h4_ := hs_.2; omega)); replace HO375 := Aside0.mk (Kd.S_step HO375.out (fun k_ ho_ hl_ => hkp.2 k_ hl_ (fun hs_ => by have h1_ := ho_.1; have h2_ := ho_.2; have := Zw34.out; have := Zw36.out; have := Zw38.out; have := Zw40.out; have := Zw43.out; have := Zw45.out; have := Zw48.out; have := Zw49.out; have := Zw51.out; have := Zw52.out; have := Zw53.out; have := Zw55.out; have := Zw57.out; have := Zw58.out; have h3_ := hs_.1; have h4_ := hs_.2; omega))); replace HO378 := Aside0.mk (Kd.N_step HO378.out (fun k_ ho_ hl_ => hkp.2 k_ hl_ (fun hs_ => by have h1_ := ho_.1; have h2_ := ho_.2; have := Zw34.out; have := Zw36.out; have := Zw38.out; have := Zw40.out; have := Zw43.out; have := Zw45.out; have := Zw48.out; have := Zw49.out; have := Zw51.out; have := Zw52.out; have := Zw53.out; have := Zw55.out; have := Zw57.out; have := Zw58.out; have h3_ := hs_.1; have h4_ := hs_.2; omega))); replace HO383 := Aside0.mk (Kd.S_step HO383.out (fun k_ ho_ hl_ => hkp.2 k_ hl_ (fun hs_ => by have h1_ := ho_.1; have h2_ := ho_.2; have := Zw34.out; have := Zw36.out; have := Zw38.out; have := Zw40.out; have := Zw43.out; have := Zw45.out; have := Zw48.out; have := Zw49.out; have := Zw51.out; have := Zw52.out; have := Zw53.out; have := Zw55.out; have := Zw57.out; have := Zw58.out; have h3_ := hs_.1; have h4_ := hs_.2; omega))); replace BK384 := Aside0.mk (blk_kept (blk_below BK384.out bgo_) hkp (fun hs_ => by have h1_ := ZB384.out.1; have h2_ := ZB384.out.2; have := Zw34.out; have := Zw36.out; have := Zw38.out; have := Zw40.out; have := Zw43.out; have := Zw45.out; have := Zw48.out; have := Zw49.out; have := Zw51.out; have := Zw52.out; have := Zw53.out; have := Zw55.out; have := Zw57.out; have := Zw58.out; have h3_ := hs_.1; have h4_ := hs_.2; omega)); replace HO387 := Aside0.mk (hy0); replace HO393 := Aside0.mk (Kd.S_step HO393.out (fun k_ ho_ hl_ => hkp.2 k_ hl_ (fun hs_ => by have h1_ := ho_.1; have h2_ := ho_.2; have := Zw34.out; have := Zw36.out; have := Zw38.out; have := Zw40.out; have := Zw43.out; have := Zw45.out; have := Zw48.out; have := Zw49.out; have := Zw51.out; have := Zw52.out; have := Zw53.out; have := Zw55.out; have := Zw57.out; have := Zw58.out; have h3_ := hs_.1; have h4_ := hs_.2; omega))); replace HB := Aside0.mk (hb); have Zw59 := Aside0.mk (hkp.1); (try clear hb); (try clear hkp); (try clear hd_); (try clear hy0)) | ((with_reducible refine gate_callee (f := 28) rfl ?_); refine goesL_ (some 71) rfl rfl Try.func28 (by kernel_rfl) rfl #[.slice Ao50 t385.length co50, .int .i64 1] rfl (by (try simp only [List.map_toArray, List.map_cons, List.map_nil]); first | done | rfl) ?_; refine calls_of_args (args' := #[.slice Ao50 t399.length co50, .int .i64 1]) (by first | rfl | (rw [show t385.length = t399.length from (Kd.S_reads' HO387.out).1] <;> rfl) | (simp only [show t385.length = t399.length from (Kd.S_reads' HO387.out).1])) ?_; (with_reducible refine (laws_heldInt64SS.calls k _ _ t399 1 t400 _ ?side1 ?side2 A23.out).mono ?_); (case side1 => exact (Kd.S_reads' HO387.out).2.2); (case side2 => (have e_ := Kd.S_reads' HO387.out; have e1_ := e_.1; have e2_ := e_.2.1; omega)); rintro e w60 ⟨rfl, hd_⟩; refine ⟨_, rfl, ?_⟩; have hb := hd_.below; replace BK370 := Aside0.mk (blk_below (g := gb370) (o := .cells #[.int .i64 a0_0, .slice A0_1 l0_1.length c0_1] 24 (0, 0)) (blk_below BK370.out bgo_) hb); replace HO375 := Aside0.mk (Kd.S_below HO375.out hb); replace HO378 := Aside0.mk (Kd.N_below HO378.out hb); replace HO383 := Aside0.mk (Kd.S_below HO383.out hb); replace BK384 := Aside0.mk (blk_below (g := gb384) (o := .cells #[.int .i64 t380, .slice Ao44 t381.length co44] 29 (0, 0)) (blk_below BK384.out bgo_) hb); replace HO387 := Aside0.mk (Kd.S_below HO387.out hb); replace HO393 := Aside0.mk (Kd.S_below HO393.out hb); replace HB := Aside0.mk (below_step HB.out hb); have Zw60 := Aside0.mk (hb.size); (try clear hb); (try clear hkp); (try clear hd_); have hcz61_0 : w60.cell? ⟨gb370, 0, none⟩ = some (.int .i64 a0_0) := (blk_cell BK370.out 0).trans rfl; have hcz61_1 : w60.cell? ⟨gb370, 1, none⟩ = some (.slice A0_1 l0_1.length c0_1) := (blk_cell BK370.out 1).trans rfl; have hfz61_0 := blk_frozen BK370.out 0; have hfz61_1 := blk_frozen BK370.out 1) | ((with_reducible refine gate_callee (f := 12) rfl ?_); refine goesL_ (some 79) rfl rfl Try.func12 (by kernel_rfl) rfl #[.agg #[.int .i64 a0_0, .slice A0_1 l0_1.length c0_1]] rfl (by (try simp only [List.map_toArray, List.map_cons, List.map_nil]); first | done | rfl) ?_; (with_reducible refine (laws_toGraph.calls k a0_0 _ _ l0_1 t401 t402 _ ?side1 ?side2 A26.out).mono ?_); (case side1 => exact (Kd.C_below HR0_1.out HB.out)); (case side2 => exact HC0_1.out); rintro e w62 ⟨v403, rfl, ho0, hb⟩; refine ⟨_, rfl, ?_⟩; replace BK370 := Aside0.mk (blk_below (g := gb370) (o := .cells #[.int .i64 a0_0, .slice A0_1 l0_1.length c0_1] 24 (0, 0)) (blk_below BK370.out bgo_) hb); replace HO375 := Aside0.mk (Kd.S_below HO375.out hb); replace HO378 := Aside0.mk (Kd.N_below HO378.out hb); replace HO383 := Aside0.mk (Kd.S_below HO383.out hb); replace BK384 := Aside0.mk (blk_below (g := gb384) (o := .cells #[.int .i64 t380, .slice Ao44 t381.length co44] 29 (0, 0)) (blk_below BK384.out bgo_) hb); replace HO387 := Aside0.mk (Kd.S_below HO387.out hb); replace HO393 := Aside0.mk (Kd.S_below HO393.out hb); have HO404 := Aside0.mk (Kd.S_lower (Kd.S_mono (Kd.S_bound ho0) (fun k_ hk_ => (⟨hk_.2.1, hk_.2.2.1⟩ : w60.heap.size ≤ k_ ∧ k_ < w62.heap.size))) HB.out.size); replace HB := Aside0.mk (below_step HB.out hb); have Zw62 := Aside0.mk (hb.size); (try clear hb); (try clear hkp); (try clear hd_); (try clear ho0); obtain ⟨Ao63, co63, eo63⟩ := Kd.S_slice HO404.out; subst eo63) | ((with_reducible refine gate_callee (f := 30) rfl ?_); refine goesL_ (some 81) rfl rfl Try.func30 (by kernel_rfl) rfl #[.agg #[.int .i64 t401, .slice Ao63 t402.length co63], .int .i64 a1] rfl (by (try simp only [List.map_toArray, List.map_cons, List.map_nil]); first | done | rfl) ?_; (with_reducible refine (impl_ClosedWalks.calls k t401 _ _ t402 a1 t405 t408 _ ?side1 ?side2 A27.out).mono ?_); (case side1 => exact (Kd.S_reads' HO404.out).2.2); (case side2 => (have e_ := Kd.S_reads' HO404.out; have e1_ := e_.1; have e2_ := e_.2.1; omega)); rintro e w64 ⟨v406, rfl, ho0, hb⟩; refine ⟨_, rfl, ?_⟩; replace BK370 := Aside0.mk (blk_below (g := gb370) (o := .cells #[.int .i64 a0_0, .slice A0_1 l0_1.length c0_1] 24 (0, 0)) (blk_below BK370.out bgo_) hb); replace HO375 := Aside0.mk (Kd.S_below HO375.out hb); replace HO378 := Aside0.mk (Kd.N_below HO378.out hb); replace HO383 := Aside0.mk (Kd.S_below HO383.out hb); replace BK384 := Aside0.mk (blk_below (g := gb384) (o := .cells #[.int .i64 t380, .slice Ao44 t381.length co44] 29 (0, 0)) (blk_below BK384.out bgo_) hb); replace HO387 := Aside0.mk (Kd.S_below HO387.out hb); replace HO393 := Aside0.mk (Kd.S_below HO393.out hb); replace HO404 := Aside0.mk (Kd.S_below HO404.out hb); have HO407 := Aside0.mk (Kd.S_lower (Kd.S_mono (Kd.S_bound ho0) (fun k_ hk_ => (⟨hk_.2.1, hk_.2.2.1⟩ : w62.heap.size ≤ k_ ∧ k_ < w64.heap.size))) HB.out.size); replace HB := Aside0.mk (below_step HB.out hb); have Zw64 := Aside0.mk (hb.size); (try clear hb); (try clear hkp); (try clear hd_); (try clear ho0); obtain ⟨Ao65, co65, eo65⟩ := Kd.S_slice HO407.out; subst eo65) | ((with_reducible refine gate_callee (f := 26) rfl ?_); refine goesL_ (some 86) rfl rfl Try.func26 (by kernel_rfl) rfl #[.slice Ao65 t405.length co65, .slice Ao41 t376.length co41] rfl (by (try simp only [List.map_toArray, List.map_cons, List.map_nil]); first | done | rfl) ?_; (with_reducible refine (laws_eqInt64SS.calls k _ _ t405 _ _ t376 true _ ?side1 ?side2 ?side3 ?side4 A28.out).mono ?_); (case side1 => exact (Kd.S_reads' HO407.out).2.2); (case side2 => (have e_ := Kd.S_reads' HO407.out; have e1_ := e_.1; have e2_ := e_.2.1; omega)); (case side3 => exact (Kd.N_reads' HO378.out).2.2); (case side4 => (have e_ := Kd.N_reads' HO378.out; have e1_ := e_.1; have e2_ := e_.2.1; omega)); rintro e w66 ⟨rfl, hd_⟩; refine ⟨_, rfl, ?_⟩; have hb := hd_.below; replace BK370 := Aside0.mk (blk_below (g := gb370) (o := .cells #[.int .i64 a0_0, .slice A0_1 l0_1.length c0_1] 24 (0, 0)) (blk_below BK370.out bgo_) hb); replace HO375 := Aside0.mk (Kd.S_below HO375.out hb); replace HO378 := Aside0.mk (Kd.N_below HO378.out hb); replace HO383 := Aside0.mk (Kd.S_below HO383.out hb); replace BK384 := Aside0.mk (blk_below (g := gb384) (o := .cells #[.int .i64 t380, .slice Ao44 t381.length co44] 29 (0, 0)) (blk_below BK384.out bgo_) hb); replace HO387 := Aside0.mk (Kd.S_below HO387.out hb); replace HO393 := Aside0.mk (Kd.S_below HO393.out hb); replace HO404 := Aside0.mk (Kd.S_below HO404.out hb); replace HO407 := Aside0.mk (Kd.S_below HO407.out hb); replace HB := Aside0.mk (below_step HB.out hb); have Zw66 := Aside0.mk (hb.size); (try clear hb); (try clear hkp); (try clear hd_)) | ((with_reducible refine gate_callee (f := 28) rfl ?_); refine goesL_ (some 95) rfl rfl Try.func28 (by kernel_rfl) rfl #[.slice Ao50 t385.length co50, .int .i64 1] rfl (by (try simp only [List.map_toArray, List.map_cons, List.map_nil]); first | done | rfl) ?_; refine calls_of_args (args' := #[.slice Ao50 t399.length co50, .int .i64 1]) (by first | rfl | (rw [show t385.length = t399.length from (Kd.S_reads' HO387.out).1] <;> rfl) | (simp only [show t385.length = t399.length from (Kd.S_reads' HO387.out).1])) ?_; (with_reducible refine (laws_heldInt64SS.calls k _ _ t399 1 t410 _ ?side1 ?side2 A31.out).mono ?_); (case side1 => exact (Kd.S_reads' HO387.out).2.2); (case side2 => (have e_ := Kd.S_reads' HO387.out; have e1_ := e_.1; have e2_ := e_.2.1; omega)); rintro e w67 ⟨rfl, hd_⟩; refine ⟨_, rfl, ?_⟩; have hb := hd_.below; replace BK370 := Aside0.mk (blk_below (g := gb370) (o := .cells #[.int .i64 a0_0, .slice A0_1 l0_1.length c0_1] 24 (0, 0)) (blk_below BK370.out bgo_) hb); replace HO375 := Aside0.mk (Kd.S_below HO375.out hb); replace HO378 := Aside0.mk (Kd.N_below HO378.out hb); replace HO383 := Aside0.mk (Kd.S_below HO383.out hb); replace BK384 := Aside0.mk (blk_below (g := gb384) (o := .cells #[.int .i64 t380, .slice Ao44 t381.length co44] 29 (0, 0)) (blk_below BK384.out bgo_) hb); replace HO387 := Aside0.mk (Kd.S_below HO387.out hb); replace HO393 := Aside0.mk (Kd.S_below HO393.out hb); replace HO404 := Aside0.mk (Kd.S_below HO404.out hb); replace HO407 := Aside0.mk (Kd.S_below HO407.out hb); replace HB := Aside0.mk (below_step HB.out hb); have Zw67 := Aside0.mk (hb.size); (try clear hb); (try clear hkp); (try clear hd_)))
             go_ret
             exact ⟨er_, hbs_⟩
            ·rw [if_neg c33] at H
             have c33b0 : (t410 == t398) = false := beq_eq_false_iff_ne.mpr c33
             have c33b1 : (t410 != t398) = true := bne_iff_ne.mpr c33
             exact absurd H (by simp)
          ·rw [if_neg c30] at H
           have c30b0 : (t408 == t379) = false := beq_eq_false_iff_ne.mpr c30
           have c30b1 : (t408 != t379) = true := bne_iff_ne.mpr c30
           exact absurd H (by simp)
         ·replace c29 := Bool.eq_false_iff.mpr c29
          subst c29
          have H1 : (some false) = some true := by rw [if_neg (show ¬ (false = true) by decide)] at H; exact H
          clear H
          have H := H1
          clear H1
          exact absurd H (by simp)
        ·rw [if_neg c25] at H
         have c25b0 : (t400 == t398) = false := beq_eq_false_iff_ne.mpr c25
         have c25b1 : (t400 != t398) = true := bne_iff_ne.mpr c25
         exact absurd H (by simp)
      ·replace c21 := Bool.eq_false_iff.mpr c21
       subst c21
       have H1 : (some false) = some true := by rw [if_neg (show ¬ (false = true) by decide)] at H; exact H
       clear H
       have H := H1
       clear H1
       exact absurd H (by simp)
    ·replace c17 := Bool.eq_false_iff.mpr c17
     subst c17
     have H1 : (some false) = some true := by rw [if_neg (show ¬ (false = true) by decide)] at H; exact H
     clear H
     have H := H1
     clear H1
     exact absurd H (by simp)
   ·rw [if_neg c14] at H
    have c14b0 : (t388 == t379) = false := beq_eq_false_iff_ne.mpr c14
    have c14b1 : (t388 != t379) = true := bne_iff_ne.mpr c14
    exact absurd H (by simp)
  ·replace c13 := Bool.eq_false_iff.mpr c13
   subst c13
   have H1 : (some false) = some true := by rw [if_neg (show ¬ (false = true) by decide)] at H; exact H
   clear H
   have H := H1
   clear H1
   exact absurd H (by simp)

/-- THE ONE PURE STATEMENT of laws_FnExactClosedWalks: yours. -/
def laws_FnExactClosedWalks.Pure : Prop := ∀ (a0_0 : Int) (l0_1 : List (List Int)) (a1 : Int), (Lit.int .i64 a0_0).wf = true → l0_1.length ≤ maxLen → (∀ r ∈ l0_1, r.length ≤ maxLen ∧ ∀ y ∈ r, (Lit.int .i64 y).wf = true) → (Lit.int .i64 a1).wf = true → ∃ k, laws_FnExactClosedWalks.f k a0_0 l0_1 a1 = some true
theorem laws_FnExactClosedWalks.walk (P : laws_FnExactClosedWalks.Pure) (a0_0 : Int) (A0_1 : Option Addr) (c0_1 : Nat) (l0_1 : List (List Int)) (a1 : Int) (w : World) (hw0_0 : (Lit.int .i64 a0_0).wf = true) (hm0_1 : l0_1.length ≤ maxLen) (hw0_1 : (∀ r ∈ l0_1, r.length ≤ maxLen ∧ ∀ y ∈ r, (Lit.int .i64 y).wf = true)) (hr0_1 : Kd.C (Kd.slice 2 (Kd.int .i64)) w A0_1 l0_1.length l0_1) (hc0_1 : l0_1.length ≤ c0_1) (hw1 : (Lit.int .i64 a1).wf = true) :
  Calls Try.prog 7 #[.agg #[.int .i64 a0_0, .slice A0_1 l0_1.length c0_1], .int .i64 a1] w fun e w' => e = .returned (.bool true) ∧ Below w.heap.size w w' := by
 obtain ⟨k, h⟩ := P a0_0 l0_1 a1 hw0_0 hm0_1 hw0_1 hw1
 refine (laws_FnExactClosedWalks.calls k a0_0 _ _ l0_1 a1 w hr0_1 hc0_1 h).mono ?_
 rintro e w' ⟨rfl, hd⟩
 exact ⟨rfl, hd⟩

end Go.Proofs.Ytipigagbgpoecaa.G
