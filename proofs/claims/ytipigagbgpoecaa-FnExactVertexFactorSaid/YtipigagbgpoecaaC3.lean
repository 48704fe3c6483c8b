/- The printed functions that this law reaches, and their contracts: part 3. -/
-- printed by this repo's wip/printer out of the kit's print with its own changes
import Derived.Test.YtipigagbgpoecaaC2
namespace Go.Proofs.Ytipigagbgpoecaa.G
open Go.RowKit Go.Proofs.YtipigagbgpoecaaW.PrintWords Go.Proofs.YtipigagbgpoecaaW.PrintLast Go.Proofs.YtipigagbgpoecaaW.PrintMore
attribute [local go_sem] max2_int min2_int max_two min_two max_three min_three max_four min_four   -- for this text's walks alone
set_option linter.unusedVariables false
set_option linter.unusedSimpArgs false

/-! ### laws_FnExactVertexFactor: function 3 -/
def laws_FnExactVertexFactor.f (k : Nat) (a0_0 : Int) (l0_1 : List (List Int)) : Option (Bool) := (laws_szGraph.f k a0_0 l0_1 1048576).bind fun t354 => (if t354 < 0 then (some true) else ((laws_toGraph.f k a0_0 l0_1).bind fun bt355 => ((spec_VertexFactor.f k bt355.1 bt355.2).bind fun bt359 => ((laws_toGraph.f k a0_0 l0_1).bind fun bt363 => ((impl_VertexFactor.f k bt363.1 bt363.2).bind fun bt368 => ((laws_eqInt64S.f k bt368.1 bt359.1).bind fun t372 => (if t372 = true then (if bt368.2 = bt359.2 then ((laws_toGraph.f k a0_0 l0_1).bind fun bt373 => ((laws_eqGraph.f k bt363.1 bt363.2 bt373.1 bt373.2).bind fun t377 => (if t377 = true then ((laws_markGraph.f k bt363.1 bt363.2 1).bind fun bt378 => (if bt378.1 < 0 then (some false) else ((laws_eqInt64S.f k bt368.1 bt359.1).bind fun t380 => (if t380 = true then ((laws_markInt64S.f k bt368.1 1).bind fun bt381 => ((laws_heldInt64S.f k bt381.2 1).bind fun t383 => (if t383 < 0 then (some false) else (if t383 = bt381.1 then ((laws_toGraph.f k a0_0 l0_1).bind fun bt384 => ((impl_VertexFactor.f k bt384.1 bt384.2).bind fun bt388 => ((laws_eqInt64S.f k bt388.1 bt359.1).bind fun t392 => (if t392 = true then (if bt388.2 = bt359.2 then ((laws_heldInt64S.f k bt381.2 1).bind fun t393 => (if t393 < 0 then (some false) else (if t393 = bt381.1 then (some true) else (some false)))) else (some false)) else (some false))))) else (some false))))) else (some false))))) else (some false)))) else (some false)) else (some false))))))))
set_option maxHeartbeats 8000000 in
set_option maxRecDepth 100000 in
theorem laws_FnExactVertexFactor.calls (k : Nat) (a0_0 : Int) (A0_1 : Option Addr) (c0_1 : Nat) (l0_1 : List (List Int)) (w : World) (hr0_1 : Kd.C (Kd.slice 2 (Kd.int .i64)) w A0_1 l0_1.length l0_1) (hc0_1 : l0_1.length ≤ c0_1) (h : laws_FnExactVertexFactor.f k a0_0 l0_1 = some true) :
  Calls Try.prog 3 #[.agg #[.int .i64 a0_0, .slice A0_1 l0_1.length c0_1]] w fun e w' => e = .returned (.bool true) ∧ Below w.heap.size w w' := by
 have hu24 := Try.underlying24
 have hu29 := Try.underlying29
 have HR0_1 := Aside0.mk hr0_1
 have HC0_1 := Aside0.mk hc0_1
 clear hr0_1 hc0_1
 have HB := Aside0.mk (Below.refl w.heap.size w)
 have H : ((laws_szGraph.f k a0_0 l0_1 1048576).bind fun t354 => (if t354 < 0 then (some true) else ((laws_toGraph.f k a0_0 l0_1).bind fun bt355 => ((spec_VertexFactor.f k bt355.1 bt355.2).bind fun bt359 => ((laws_toGraph.f k a0_0 l0_1).bind fun bt363 => ((impl_VertexFactor.f k bt363.1 bt363.2).bind fun bt368 => ((laws_eqInt64S.f k bt368.1 bt359.1).bind fun t372 => (if t372 = true then (if bt368.2 = bt359.2 then ((laws_toGraph.f k a0_0 l0_1).bind fun bt373 => ((laws_eqGraph.f k bt363.1 bt363.2 bt373.1 bt373.2).bind fun t377 => (if t377 = true then ((laws_markGraph.f k bt363.1 bt363.2 1).bind fun bt378 => (if bt378.1 < 0 then (some false) else ((laws_eqInt64S.f k bt368.1 bt359.1).bind fun t380 => (if t380 = true then ((laws_markInt64S.f k bt368.1 1).bind fun bt381 => ((laws_heldInt64S.f k bt381.2 1).bind fun t383 => (if t383 < 0 then (some false) else (if t383 = bt381.1 then ((laws_toGraph.f k a0_0 l0_1).bind fun bt384 => ((impl_VertexFactor.f k bt384.1 bt384.2).bind fun bt388 => ((laws_eqInt64S.f k bt388.1 bt359.1).bind fun t392 => (if t392 = true then (if bt388.2 = bt359.2 then ((laws_heldInt64S.f k bt381.2 1).bind fun t393 => (if t393 < 0 then (some false) else (if t393 = bt381.1 then (some true) else (some false)))) else (some false)) else (some false))))) else (some false))))) else (some false))))) else (some false)))) else (some false)) else (some false))))))))) = some true := h
 clear h
 obtain ⟨t354, A2, H⟩ := bnd_ H
 by_cases c3 : t354 < 0
 ·rw [if_pos c3] at H
  have c3b0 := decide_eq_true c3
  clear c3
  go_enter Try.func3, Try.ntmps3
  go_wp2_with (first | ((with_reducible refine gate_dst (N := 1) rfl ?_); refine box_event ?hg (N := 1) ?hd (cs := #[.int .i64 a0_0, .slice A0_1 l0_1.length c0_1]) (t := 24) ?hr ?_; (case hd => rfl); (case hg => rfl); (case hr => first | (go_simp; done) | (go_simp; rfl)); intro gb353 hg w4 hbox hb; have Zw4 := Aside0.mk (hb.size); have ZB353 := Aside0.mk ((⟨Nat.le_of_eq hg.symm, blk_lt hbox⟩ : w.heap.size ≤ gb353 ∧ gb353 < w4.heap.size)); have BK353 := Aside0.mk (hbox); have GW353 := Aside0.mk ((by rw [hg]; exact (below_size hb_) : w.heap.size ≤ gb353)); have GE353 := Aside0.mk ((by rw [hg]; exact (below_size hb_) : w.heap.size ≤ gb353)); replace HB := Aside0.mk (below_step hb_ hb); clear hb hbox hg; have hcz5_0 : w4.cell? ⟨gb353, 0, none⟩ = some (.int .i64 a0_0) := (blk_cell BK353.out 0).trans rfl; have hcz5_1 : w4.cell? ⟨gb353, 1, none⟩ = some (.slice A0_1 l0_1.length c0_1) := (blk_cell BK353.out 1).trans rfl; have hfz5_0 := blk_frozen BK353.out 0; have hfz5_1 := blk_frozen BK353.out 1) | ((with_reducible refine gate_callee (f := 10) rfl ?_); refine goesL_ (some 16) rfl rfl Try.func10 (by kernel_rfl) rfl #[.agg #[.int .i64 a0_0, .slice A0_1 l0_1.length c0_1], .int .i64 1048576] rfl (by (try simp only [List.map_toArray, List.map_cons, List.map_nil]); first | done | rfl) ?_; (with_reducible refine (laws_szGraph.calls k a0_0 _ _ l0_1 1048576 t354 _ ?side1 ?side2 A2.out).mono ?_); (case side1 => exact (Kd.C_below HR0_1.out HB.out)); (case side2 => exact HC0_1.out); rintro e w6 ⟨rfl, hb⟩; refine ⟨_, rfl, ?_⟩; replace BK353 := Aside0.mk (blk_below (g := gb353) (o := .cells #[.int .i64 a0_0, .slice A0_1 l0_1.length c0_1] 24 (0, 0)) (blk_below BK353.out bgo_) hb); replace HB := Aside0.mk (below_step HB.out hb); have Zw6 := Aside0.mk (hb.size); (try clear hb); (try clear hkp); (try clear hd_)))
  go_ret
  exact ⟨er_, hbs_⟩
 ·rw [if_neg c3] at H
  have c3b0 := decide_eq_false c3
  clear c3
  obtain ⟨⟨t355, t356⟩, A7, H⟩ := bnd_ H
  dsimp only at H
  obtain ⟨⟨t359, t362⟩, A8, H⟩ := bnd_ H
  dsimp only at H
  obtain ⟨⟨t363, t364⟩, A9, H⟩ := bnd_ H
  dsimp only at H
  obtain ⟨⟨t368, t371⟩, A10, H⟩ := bnd_ H
  dsimp only at H
  obtain ⟨t372, A11, H⟩ := bnd_ H
  by_cases c12 : t372 = true
  ·subst c12
   have H1 : (if t371 = t362 then ((laws_toGraph.f k a0_0 l0_1).bind fun bt373 => ((laws_eqGraph.f k t363 t364 bt373.1 bt373.2).bind fun t377 => (if t377 = true then ((laws_markGraph.f k t363 t364 1).bind fun bt378 => (if bt378.1 < 0 then (some false) else ((laws_eqInt64S.f k t368 t359).bind fun t380 => (if t380 = true then ((laws_markInt64S.f k t368 1).bind fun bt381 => ((laws_heldInt64S.f k bt381.2 1).bind fun t383 => (if t383 < 0 then (some false) else (if t383 = bt381.1 then ((laws_toGraph.f k a0_0 l0_1).bind fun bt384 => ((impl_VertexFactor.f k bt384.1 bt384.2).bind fun bt388 => ((laws_eqInt64S.f k bt388.1 t359).bind fun t392 => (if t392 = true then (if bt388.2 = t362 then ((laws_heldInt64S.f k bt381.2 1).bind fun t393 => (if t393 < 0 then (some false) else (if t393 = bt381.1 then (some true) else (some false)))) else (some false)) else (some false))))) else (some false))))) else (some false))))) else (some false)))) else (some false)) = some true := by rw [if_pos rfl] at H; exact H
   clear H
   have H := H1
   clear H1
   by_cases c13 : t371 = t362
   ·rw [if_pos c13] at H
    have c13b0 : (t371 == t362) = true := beq_iff_eq.mpr c13
    have c13b1 : (t371 != t362) = false := bne_eq_false_iff_eq.mpr c13
    clear c13
    obtain ⟨⟨t373, t374⟩, A14, H⟩ := bnd_ H
    dsimp only at H
    obtain ⟨t377, A15, H⟩ := bnd_ H
    by_cases c16 : t377 = true
    ·subst c16
     have H1 : ((laws_markGraph.f k t363 t364 1).bind fun bt378 => (if bt378.1 < 0 then (some false) else ((laws_eqInt64S.f k t368 t359).bind fun t380 => (if t380 = true then ((laws_markInt64S.f k t368 1).bind fun bt381 => ((laws_heldInt64S.f k bt381.2 1).bind fun t383 => (if t383 < 0 then (some false) else (if t383 = bt381.1 then ((laws_toGraph.f k a0_0 l0_1).bind fun bt384 => ((impl_VertexFactor.f k bt384.1 bt384.2).bind fun bt388 => ((laws_eqInt64S.f k bt388.1 t359).bind fun t392 => (if t392 = true then (if bt388.2 = t362 then ((laws_heldInt64S.f k bt381.2 1).bind fun t393 => (if t393 < 0 then (some false) else (if t393 = bt381.1 then (some true) else (some false)))) else (some false)) else (some false))))) else (some false))))) else (some false))))) = some true := by rw [if_pos rfl] at H; exact H
     clear H
     have H := H1
     clear H1
     obtain ⟨⟨t378, t379⟩, A17, H⟩ := bnd_ H
     dsimp only at H
     by_cases c18 : t378 < 0
     ·rw [if_pos c18] at H
      have c18b0 := decide_eq_true c18
      clear c18
      exact absurd H (by simp)
     ·rw [if_neg c18] at H
      have c18b0 := decide_eq_false c18
      clear c18
      obtain ⟨t380, A19, H⟩ := bnd_ H
      by_cases c20 : t380 = true
      ·subst c20
       have H1 : ((laws_markInt64S.f k t368 1).bind fun bt381 => ((laws_heldInt64S.f k bt381.2 1).bind fun t383 => (if t383 < 0 then (some false) else (if t383 = bt381.1 then ((laws_toGraph.f k a0_0 l0_1).bind fun bt384 => ((impl_VertexFactor.f k bt384.1 bt384.2).bind fun bt388 => ((laws_eqInt64S.f k bt388.1 t359).bind fun t392 => (if t392 = true then (if bt388.2 = t362 then ((laws_heldInt64S.f k bt381.2 1).bind fun t393 => (if t393 < 0 then (some false) else (if t393 = bt381.1 then (some true) else (some false)))) else (some false)) else (some false))))) else (some false))))) = some true := by rw [if_pos rfl] at H; exact H
       clear H
       have H := H1
       clear H1
       obtain ⟨⟨t381, t382⟩, A21, H⟩ := bnd_ H
       dsimp only at H
       obtain ⟨t383, A22, H⟩ := bnd_ H
       by_cases c23 : t383 < 0
       ·rw [if_pos c23] at H
        have c23b0 := decide_eq_true c23
        clear c23
        exact absurd H (by simp)
       ·rw [if_neg c23] at H
        have c23b0 := decide_eq_false c23
        clear c23
        by_cases c24 : t383 = t381
        ·rw [if_pos c24] at H
         have c24b0 : (t383 == t381) = true := beq_iff_eq.mpr c24
         have c24b1 : (t383 != t381) = false := bne_eq_false_iff_eq.mpr c24
         clear c24
         obtain ⟨⟨t384, t385⟩, A25, H⟩ := bnd_ H
         dsimp only at H
         obtain ⟨⟨t388, t391⟩, A26, H⟩ := bnd_ H
         dsimp only at H
         obtain ⟨t392, A27, H⟩ := bnd_ H
         by_cases c28 : t392 = true
         ·subst c28
          have H1 : (if t391 = t362 then ((laws_heldInt64S.f k t382 1).bind fun t393 => (if t393 < 0 then (some false) else (if t393 = t381 then (some true) else (some false)))) else (some false)) = some true := by rw [if_pos rfl] at H; exact H
          clear H
          have H := H1
          clear H1
          by_cases c29 : t391 = t362
          ·rw [if_pos c29] at H
           have c29b0 : (t391 == t362) = true := beq_iff_eq.mpr c29
           have c29b1 : (t391 != t362) = false := bne_eq_false_iff_eq.mpr c29
           clear c29
           obtain ⟨t393, A30, H⟩ := bnd_ H
           by_cases c31 : t393 < 0
           ·rw [if_pos c31] at H
            have c31b0 := decide_eq_true c31
            clear c31
            exact absurd H (by simp)
           ·rw [if_neg c31] at H
            have c31b0 := decide_eq_false c31
            clear c31
            by_cases c32 : t393 = t381
            ·rw [if_pos c32] at H
             have c32b0 : (t393 == t381) = true := beq_iff_eq.mpr c32
             have c32b1 : (t393 != t381) = false := bne_eq_false_iff_eq.mpr c32
             clear c32
             go_enter Try.func3, Try.ntmps3
             try go_wp2_with (first | ((with_reducible refine gate_dst (N := 1) rfl ?_); refine box_event ?hg (N := 1) ?hd (cs := #[.int .i64 a0_0, .slice A0_1 l0_1.length c0_1]) (t := 24) ?hr ?_; (case hd => rfl); (case hg => rfl); (case hr => first | (go_simp; done) | (go_simp; rfl)); intro gb353 hg w33 hbox hb; have Zw33 := Aside0.mk (hb.size); have ZB353 := Aside0.mk ((⟨Nat.le_of_eq hg.symm, blk_lt hbox⟩ : w.heap.size ≤ gb353 ∧ gb353 < w33.heap.size)); have BK353 := Aside0.mk (hbox); have GW353 := Aside0.mk ((by rw [hg]; exact (below_size hb_) : w.heap.size ≤ gb353)); have GE353 := Aside0.mk ((by rw [hg]; exact (below_size hb_) : w.heap.size ≤ gb353)); replace HB := Aside0.mk (below_step hb_ hb); clear hb hbox hg; have hcz34_0 : w33.cell? ⟨gb353, 0, none⟩ = some (.int .i64 a0_0) := (blk_cell BK353.out 0).trans rfl; have hcz34_1 : w33.cell? ⟨gb353, 1, none⟩ = some (.slice A0_1 l0_1.length c0_1) := (blk_cell BK353.out 1).trans rfl; have hfz34_0 := blk_frozen BK353.out 0; have hfz34_1 := blk_frozen BK353.out 1) | ((with_reducible refine gate_callee (f := 10) rfl ?_); refine goesL_ (some 16) rfl rfl Try.func10 (by kernel_rfl) rfl #[.agg #[.int .i64 a0_0, .slice A0_1 l0_1.length c0_1], .int .i64 1048576] rfl (by (try simp only [List.map_toArray, List.map_cons, List.map_nil]); first | done | rfl) ?_; (with_reducible refine (laws_szGraph.calls k a0_0 _ _ l0_1 1048576 t354 _ ?side1 ?side2 A2.out).mono ?_); (case side1 => exact (Kd.C_below HR0_1.out HB.out)); (case side2 => exact HC0_1.out); rintro e w35 ⟨rfl, hb⟩; refine ⟨_, rfl, ?_⟩; replace BK353 := Aside0.mk (blk_below (g := gb353) (o := .cells #[.int .i64 a0_0, .slice A0_1 l0_1.length c0_1] 24 (0, 0)) (blk_below BK353.out bgo_) hb); replace HB := Aside0.mk (below_step HB.out hb); have Zw35 := Aside0.mk (hb.size); (try clear hb); (try clear hkp); (try clear hd_); have hcz36_0 : w35.cell? ⟨gb353, 0, none⟩ = some (.int .i64 a0_0) := (blk_cell BK353.out 0).trans rfl; have hcz36_1 : w35.cell? ⟨gb353, 1, none⟩ = some (.slice A0_1 l0_1.length c0_1) := (blk_cell BK353.out 1).trans rfl; have hfz36_0 := blk_frozen BK353.out 0; have hfz36_1 := blk_frozen BK353.out 1) | ((with_reducible refine gate_callee (f := 12) rfl ?_); refine goesL_ (some 21) rfl rfl Try.func12 (by kernel_rfl) rfl #[.agg #[.int .i64 a0_0, .slice A0_1 l0_1.length c0_1]] rfl (by (try simp only [List.map_toArray, List.map_cons, List.map_nil]); first | done | rfl) ?_; (with_reducible refine (laws_toGraph.calls k a0_0 _ _ l0_1 t355 t356 _ ?side1 ?side2 A7.out).mono ?_); (case side1 => exact (Kd.C_below HR0_1.out HB.out)); (case side2 => exact HC0_1.out); rintro e w37 ⟨v357, rfl, ho0, hb⟩; refine ⟨_, rfl, ?_⟩; replace BK353 := Aside0.mk (blk_below (g := gb353) (o := .cells #[.int .i64 a0_0, .slice A0_1 l0_1.length c0_1] 24 (0, 0)) (blk_below BK353.out bgo_) hb); have HO358 := Aside0.mk (Kd.S_lower (Kd.S_mono (Kd.S_bound ho0) (fun k_ hk_ => (⟨hk_.2.1, hk_.2.2.1⟩ : w35.heap.size ≤ k_ ∧ k_ < w37.heap.size))) HB.out.size); replace HB := Aside0.mk (below_step HB.out hb); have Zw37 := Aside0.mk (hb.size); (try clear hb); (try clear hkp); (try clear hd_); (try clear ho0); obtain ⟨Ao38, co38, eo38⟩ := Kd.S_slice HO358.out; subst eo38) | ((with_reducible refine gate_callee (f := 11) rfl ?_); refine goesL_ (some 22) rfl rfl Try.func11 (by kernel_rfl) rfl #[.agg #[.int .i64 t355, .slice Ao38 t356.length co38]] rfl (by (try simp only [List.map_toArray, List.map_cons, List.map_nil]); first | done | rfl) ?_; (with_reducible refine (spec_VertexFactor.calls k t355 _ _ t356 t359 t362 _ ?side1 ?side2 A8.out).mono ?_); (case side1 => exact (Kd.S_reads' HO358.out).2.2); (case side2 => (have e_ := Kd.S_reads' HO358.out; have e1_ := e_.1; have e2_ := e_.2.1; omega)); rintro e w39 ⟨v360, rfl, ho0, hb⟩; refine ⟨_, rfl, ?_⟩; replace BK353 := Aside0.mk (blk_below (g := gb353) (o := .cells #[.int .i64 a0_0, .slice A0_1 l0_1.length c0_1] 24 (0, 0)) (blk_below BK353.out bgo_) hb); replace HO358 := Aside0.mk (Kd.S_below HO358.out hb); have HO361 := Aside0.mk (Kd.R_lower (Kd.R_mono (Kd.R_bound ho0) (fun k_ hk_ => (⟨hk_.2.1, hk_.2.2.1⟩ : w37.heap.size ≤ k_ ∧ k_ < w39.heap.size))) HB.out.size); replace HB := Aside0.mk (below_step HB.out hb); have Zw39 := Aside0.mk (hb.size); (try clear hb); (try clear hkp); (try clear hd_); (try clear ho0); obtain ⟨Ao40, co40, eo40⟩ := Kd.R_slice HO361.out; subst eo40; have hcz41_0 : w39.cell? ⟨gb353, 0, none⟩ = some (.int .i64 a0_0) := (blk_cell BK353.out 0).trans rfl; have hcz41_1 : w39.cell? ⟨gb353, 1, none⟩ = some (.slice A0_1 l0_1.length c0_1) := (blk_cell BK353.out 1).trans rfl; have hfz41_0 := blk_frozen BK353.out 0; have hfz41_1 := blk_frozen BK353.out 1) | ((with_reducible refine gate_callee (f := 12) rfl ?_); refine goesL_ (some 26) rfl rfl Try.func12 (by kernel_rfl) rfl #[.agg #[.int .i64 a0_0, .slice A0_1 l0_1.length c0_1]] rfl (by (try simp only [List.map_toArray, List.map_cons, List.map_nil]); first | done | rfl) ?_; (with_reducible refine (laws_toGraph.calls k a0_0 _ _ l0_1 t363 t364 _ ?side1 ?side2 A9.out).mono ?_); (case side1 => exact (Kd.C_below HR0_1.out HB.out)); (case side2 => exact HC0_1.out); rintro e w42 ⟨v365, rfl, ho0, hb⟩; refine ⟨_, rfl, ?_⟩; replace BK353 := Aside0.mk (blk_below (g := gb353) (o := .cells #[.int .i64 a0_0, .slice A0_1 l0_1.length c0_1] 24 (0, 0)) (blk_below BK353.out bgo_) hb); replace HO358 := Aside0.mk (Kd.S_below HO358.out hb); replace HO361 := Aside0.mk (Kd.R_below HO361.out hb); have HO366 := Aside0.mk (Kd.S_lower (Kd.S_mono (Kd.S_bound ho0) (fun k_ hk_ => (⟨hk_.2.1, hk_.2.2.1⟩ : w39.heap.size ≤ k_ ∧ k_ < w42.heap.size))) HB.out.size); replace HB := Aside0.mk (below_step HB.out hb); have Zw42 := Aside0.mk (hb.size); (try clear hb); (try clear hkp); (try clear hd_); (try clear ho0); obtain ⟨Ao43, co43, eo43⟩ := Kd.S_slice HO366.out; subst eo43) | ((with_reducible refine gate_dst (N := 6) rfl ?_); refine box_event ?hg (N := 6) ?hd (cs := #[.int .i64 0, .slice none 0 0]) (t := 29) ?hr ?_; (case hd => rfl); (case hg => rfl); (case hr => first | (go_simp; done) | (go_simp; rfl)); intro gb367 hg w44 hbox hb; replace HO358 := Aside0.mk (Kd.S_below HO358.out hb); replace HO361 := Aside0.mk (Kd.R_below HO361.out hb); replace HO366 := Aside0.mk (Kd.S_below HO366.out hb); have Zw44 := Aside0.mk (hb.size); have ZB367 := Aside0.mk ((⟨Nat.le_of_eq hg.symm, blk_lt hbox⟩ : w42.heap.size ≤ gb367 ∧ gb367 < w44.heap.size)); have BK367 := Aside0.mk (hbox); have GW367 := Aside0.mk ((by rw [hg]; exact (below_size hbs_) : w.heap.size ≤ gb367)); have GE367 := Aside0.mk ((by rw [hg]; exact (below_size hbs_) : w.heap.size ≤ gb367)); replace HB := Aside0.mk (below_step hbs_ hb); have NB353_367 := Aside0.mk ((by rw [hg]; exact Nat.ne_of_lt (blk_lt (g := gb353) (o := .cells #[.int .i64 a0_0, .slice A0_1 l0_1.length c0_1] 24 (0, 0)) (blk_below BK353.out bgo_)) : gb353 ≠ gb367)); have NB367_353 := Aside0.mk ((by rw [hg]; exact Nat.ne_of_gt (blk_lt (g := gb353) (o := .cells #[.int .i64 a0_0, .slice A0_1 l0_1.length c0_1] 24 (0, 0)) (blk_below BK353.out bgo_)) : gb367 ≠ gb353)); replace BK353 := Aside0.mk (blk_below (g := gb353) (o := .cells #[.int .i64 a0_0, .slice A0_1 l0_1.length c0_1] 24 (0, 0)) (blk_below BK353.out bgo_) hb); clear hb hbox hg; have hnb45 := NB367_353.out; have hnc45 := NB353_367.out; have hcz46_0 : w44.cell? ⟨gb367, 0, none⟩ = some (.int .i64 0) := (blk_cell BK367.out 0).trans rfl; have hcz46_1 : w44.cell? ⟨gb367, 1, none⟩ = some (.slice none 0 0) := (blk_cell BK367.out 1).trans rfl; have hfz46_0 := blk_frozen BK367.out 0; have hfz46_1 := blk_frozen BK367.out 1) | ((with_reducible refine gate_callee (f := 13) rfl ?_); have n0_ := Aside0.mk (show ((w44.setCell ⟨gb367, 0, none⟩ (.int .i64 t363)).setCell ⟨gb367, 1, none⟩ (.slice Ao43 t364.length co43)).heap[gb353]? = some (.cells #[.int .i64 a0_0, .slice A0_1 l0_1.length c0_1] 24 (0, 0)) from (by (with_reducible repeat (first | refine blk_drewN ?_ _ | refine blk_drew ?_ | refine blk_alloc ?_ _)); refine blk_far ?_ NB353_367.out _; (with_reducible repeat (first | refine blk_drewN ?_ _ | refine blk_drew ?_ | refine blk_alloc ?_ _)); refine blk_far ?_ NB353_367.out _; (with_reducible repeat (first | refine blk_drewN ?_ _ | refine blk_drew ?_ | refine blk_alloc ?_ _)); exact BK353.out)); have n1_ := Aside0.mk (show Kd.S (Kd.slice 2 (Kd.int .i64)) 26 ((w44.setCell ⟨gb367, 0, none⟩ (.int .i64 t363)).setCell ⟨gb367, 1, none⟩ (.slice Ao43 t364.length co43)) w.heap.size (fun k_ => w35.heap.size ≤ k_ ∧ k_ < w37.heap.size) (.slice Ao38 t356.length co38) t356 from (Kd.S_far (Kd.S_far HO358.out (fun k_ ho_ => (show k_ ≠ gb367 from by have h1_ := ho_.1; have h2_ := ho_.2; have h3_ := ZB367.out.1; have h4_ := ZB367.out.2; have := Zw33.out; have := Zw35.out; have := Zw37.out; have := Zw39.out; have := Zw42.out; have := Zw44.out; omega)) _) (fun k_ ho_ => (show k_ ≠ gb367 from by have h1_ := ho_.1; have h2_ := ho_.2; have h3_ := ZB367.out.1; have h4_ := ZB367.out.2; have := Zw33.out; have := Zw35.out; have := Zw37.out; have := Zw39.out; have := Zw42.out; have := Zw44.out; omega)) _)); have n2_ := Aside0.mk (show Kd.R (Kd.int .i64) 2 ((w44.setCell ⟨gb367, 0, none⟩ (.int .i64 t363)).setCell ⟨gb367, 1, none⟩ (.slice Ao43 t364.length co43)) w.heap.size (fun k_ => w37.heap.size ≤ k_ ∧ k_ < w39.heap.size) (.slice Ao40 t359.length co40) t359 from (Kd.R_far (Kd.R_far HO361.out (fun k_ ho_ => (show k_ ≠ gb367 from by have h1_ := ho_.1; have h2_ := ho_.2; have h3_ := ZB367.out.1; have h4_ := ZB367.out.2; have := Zw33.out; have := Zw35.out; have := Zw37.out; have := Zw39.out; have := Zw42.out; have := Zw44.out; omega)) _) (fun k_ ho_ => (show k_ ≠ gb367 from by have h1_ := ho_.1; have h2_ := ho_.2; have h3_ := ZB367.out.1; have h4_ := ZB367.out.2; have := Zw33.out; have := Zw35.out; have := Zw37.out; have := Zw39.out; have := Zw42.out; have := Zw44.out; omega)) _)); have n3_ := Aside0.mk (show Kd.S (Kd.slice 2 (Kd.int .i64)) 26 ((w44.setCell ⟨gb367, 0, none⟩ (.int .i64 t363)).setCell ⟨gb367, 1, none⟩ (.slice Ao43 t364.length co43)) w.heap.size (fun k_ => w39.heap.size ≤ k_ ∧ k_ < w42.heap.size) (.slice Ao43 t364.length co43) t364 from (Kd.S_far (Kd.S_far HO366.out (fun k_ ho_ => (show k_ ≠ gb367 from by have h1_ := ho_.1; have h2_ := ho_.2; have h3_ := ZB367.out.1; have h4_ := ZB367.out.2; have := Zw33.out; have := Zw35.out; have := Zw37.out; have := Zw39.out; have := Zw42.out; have := Zw44.out; omega)) _) (fun k_ ho_ => (show k_ ≠ gb367 from by have h1_ := ho_.1; have h2_ := ho_.2; have h3_ := ZB367.out.1; have h4_ := ZB367.out.2; have := Zw33.out; have := Zw35.out; have := Zw37.out; have := Zw39.out; have := Zw42.out; have := Zw44.out; omega)) _)); have n4_ := Aside0.mk (show ((w44.setCell ⟨gb367, 0, none⟩ (.int .i64 t363)).setCell ⟨gb367, 1, none⟩ (.slice Ao43 t364.length co43)).heap[gb367]? = some (.cells #[.int .i64 t363, .slice Ao43 t364.length co43] 29 (0, 0)) from (by (with_reducible repeat (first | refine blk_drewN ?_ _ | refine blk_drew ?_ | refine blk_alloc ?_ _)); refine blk_put (cs := #[.int .i64 t363, .slice none 0 0]) ?_ 1 _ rfl; (with_reducible repeat (first | refine blk_drewN ?_ _ | refine blk_drew ?_ | refine blk_alloc ?_ _)); refine blk_put (cs := #[.int .i64 0, .slice none 0 0]) ?_ 0 _ rfl; (with_reducible repeat (first | refine blk_drewN ?_ _ | refine blk_drew ?_ | refine blk_alloc ?_ _)); exact BK367.out)); have n5_ := Aside0.mk (show Below w.heap.size w ((w44.setCell ⟨gb367, 0, none⟩ (.int .i64 t363)).setCell ⟨gb367, 1, none⟩ (.slice Ao43 t364.length co43)) from (below_set (below_set HB.out GE367.out) GE367.out)); have n6_ := Aside0.mk (show w44.heap.size ≤ ((w44.setCell ⟨gb367, 0, none⟩ (.int .i64 t363)).setCell ⟨gb367, 1, none⟩ (.slice Ao43 t364.length co43)).heap.size from (Kept.setCell (Kept.setCell (Kept.refl w44 (fun _ => True)) (.inl trivial) _) (.inl trivial) _).1); clear BK353; clear HO358; clear HO361; clear HO366; clear BK367; clear HB; generalize hW_ : ((w44.setCell ⟨gb367, 0, none⟩ (.int .i64 t363)).setCell ⟨gb367, 1, none⟩ (.slice Ao43 t364.length co43)) = w47 at n0_ n1_ n2_ n3_ n4_ n5_ n6_ ⊢; clear hW_; have BK353 := n0_; have HO358 := n1_; have HO361 := n2_; have HO366 := n3_; have BK367 := n4_; have HB := n5_; have Zw47 := n6_; clear n0_ n1_ n2_ n3_ n4_ n5_ n6_; refine goesL_ (some 29) rfl rfl Try.func13 (by kernel_rfl) rfl #[.agg #[.int .i64 t363, .slice Ao43 t364.length co43]] rfl (by (try simp only [List.map_toArray, List.map_cons, List.map_nil]); first | done | rfl) ?_; (with_reducible refine (impl_VertexFactor.calls k t363 _ _ t364 t368 t371 _ ?side1 ?side2 A10.out).mono ?_); (case side1 => exact (Kd.S_reads' HO366.out).2.2); (case side2 => (have e_ := Kd.S_reads' HO366.out; have e1_ := e_.1; have e2_ := e_.2.1; omega)); rintro e w48 ⟨v369, rfl, ho0, hb⟩; refine ⟨_, rfl, ?_⟩; replace BK353 := Aside0.mk (blk_below (g := gb353) (o := .cells #[.int .i64 a0_0, .slice A0_1 l0_1.length c0_1] 24 (0, 0)) (blk_below BK353.out bgo_) hb); replace HO358 := Aside0.mk (Kd.S_below HO358.out hb); replace HO361 := Aside0.mk (Kd.R_below HO361.out hb); replace HO366 := Aside0.mk (Kd.S_below HO366.out hb); replace BK367 := Aside0.mk (blk_below (g := gb367) (o := .cells #[.int .i64 t363, .slice Ao43 t364.length co43] 29 (0, 0)) (blk_below BK367.out bgo_) hb); have HO370 := Aside0.mk (Kd.R_lower (Kd.R_mono (Kd.R_bound ho0) (fun k_ hk_ => (⟨hk_.2.1, hk_.2.2.1⟩ : w47.heap.size ≤ k_ ∧ k_ < w48.heap.size))) HB.out.size); replace HB := Aside0.mk (below_step HB.out hb); have Zw48 := Aside0.mk (hb.size); (try clear hb); (try clear hkp); (try clear hd_); (try clear ho0); obtain ⟨Ao49, co49, eo49⟩ := Kd.R_slice HO370.out; subst eo49) | ((with_reducible refine gate_callee (f := 14) rfl ?_); refine goesL_ (some 34) rfl rfl Try.func14 (by kernel_rfl) rfl #[.slice Ao49 t368.length co49, .slice Ao40 t359.length co40] rfl (by (try simp only [List.map_toArray, List.map_cons, List.map_nil]); first | done | rfl) ?_; (with_reducible refine (laws_eqInt64S.calls k _ _ t368 _ _ t359 true _ ?side1 ?side2 ?side3 ?side4 A11.out).mono ?_); (case side1 => exact (Kd.R_reads' HO370.out).2.2); (case side2 => (have e_ := Kd.R_reads' HO370.out; have e1_ := e_.1; have e2_ := e_.2.1; omega)); (case side3 => exact (Kd.R_reads' HO361.out).2.2); (case side4 => (have e_ := Kd.R_reads' HO361.out; have e1_ := e_.1; have e2_ := e_.2.1; omega)); rintro e w50 ⟨rfl, hd_⟩; refine ⟨_, rfl, ?_⟩; have hb := hd_.below; replace BK353 := Aside0.mk (blk_below (g := gb353) (o := .cells #[.int .i64 a0_0, .slice A0_1 l0_1.length c0_1] 24 (0, 0)) (blk_below BK353.out bgo_) hb); replace HO358 := Aside0.mk (Kd.S_below HO358.out hb); replace HO361 := Aside0.mk (Kd.R_below HO361.out hb); replace HO366 := Aside0.mk (Kd.S_below HO366.out hb); replace BK367 := Aside0.mk (blk_below (g := gb367) (o := .cells #[.int .i64 t363, .slice Ao43 t364.length co43] 29 (0, 0)) (blk_below BK367.out bgo_) hb); replace HO370 := Aside0.mk (Kd.R_below HO370.out hb); replace HB := Aside0.mk (below_step HB.out hb); have Zw50 := Aside0.mk (hb.size); (try clear hb); (try clear hkp); (try clear hd_)))
             have n0_ := Aside0.mk ((show w50.heap.size ≤ w50.drew.heap.size from Nat.le_refl _))
             have n1_ := Aside0.mk (Kd.S_drew HO358.out)
             have n2_ := Aside0.mk (Kd.R_drew HO361.out)
             have n3_ := Aside0.mk (Kd.S_drew HO366.out)
             have n4_ := Aside0.mk (Kd.R_drew HO370.out)
             have n5_ := Aside0.mk (blk_drew BK353.out)
             have n6_ := Aside0.mk (blk_drew BK367.out)
             have n7_ := Aside0.mk (below_drew1 HB.out)
             clear HO358
             clear HO361
             clear HO366
             clear HO370
             clear BK353
             clear BK367
             clear HB
             have Zw51 := n0_
             have HO358 := n1_
             have HO361 := n2_
             have HO366 := n3_
             have HO370 := n4_
             have BK353 := n5_
             have BK367 := n6_
             have HB := n7_
             clear n0_ n1_ n2_ n3_ n4_ n5_ n6_ n7_
             refine start_ (n := 5) (S := fun w' => w'.cell? ⟨gb367, 0, none⟩ = some (.int .i64 t363) ∧ w'.cell? ⟨gb367, 1, none⟩ = some (.slice Ao43 t364.length co43) ∧ w'.cell? ⟨gb353, 0, none⟩ = some (.int .i64 a0_0) ∧ w'.cell? ⟨gb353, 1, none⟩ = some (.slice A0_1 l0_1.length c0_1)) (ds := []) #[false, false, false, false, false] (by kernel_rfl) rfl rfl ⟨(blk_cell BK367.out 0).trans rfl, (blk_cell BK367.out 1).trans rfl, (blk_cell BK353.out 0).trans rfl, (blk_cell BK353.out 1).trans rfl⟩ (fun hHeld => ?_)
             generalize w50.drew = w51 at HO358 HO361 HO366 HO370 BK353 BK367 HB Zw51 hHeld ⊢
             refine take_ (i := 0) (N := some 41) (v := ?_) (a' := ?_) #[true, false, false, false, false] rfl rfl (by kernel_rfl) (fun _ _ _ h => h) (Or.inl ⟨by rfl, ?_⟩) hHeld ?_ ?_
             rotate_left
             ·rintro w' ⟨s0, s1, s2, s3⟩
              go_simp
              with_reducible rfl
             rotate_left
             ·simp only [Act.put, nf_]
              rfl
             refine take_ (i := 1) (N := some 42) (v := ?_) (a' := ?_) #[true, true, false, false, false] rfl rfl (by kernel_rfl) (fun _ _ _ h => h) (Or.inl ⟨by rfl, ?_⟩) hHeld ?_ ?_
             rotate_left
             ·rintro w' ⟨s0, s1, s2, s3⟩
              go_simp
              with_reducible rfl
             rotate_left
             ·simp only [Act.put, nf_]
              rfl
             refine one_ (i := 2) (N := some 43) #[true, true, true, false, false] rfl rfl (by kernel_rfl) (by decide) (fun K hK => ?_)
             refine goes_ Try.func12 (by kernel_rfl) rfl #[.agg #[.int .i64 a0_0, .slice A0_1 l0_1.length c0_1]] (by rfl) rfl rfl arg_ ?_
             with_reducible refine (laws_toGraph.calls k a0_0 _ _ l0_1 t373 t374 _ ?side1 ?side2 A14.out).mono ?_
             (case side1 => exact (Kd.C_below HR0_1.out HB.out))
             (case side2 => exact HC0_1.out)
             rintro e w52 ⟨v375, rfl, ho0, hb⟩
             refine ⟨_, rfl, ?_⟩
             have n0_ := Aside0.mk (blk_below (g := gb353) (o := .cells #[.int .i64 a0_0, .slice A0_1 l0_1.length c0_1] 24 (0, 0)) (blk_below BK353.out bgo_) hb)
             have n1_ := Aside0.mk (Kd.S_below HO358.out hb)
             have n2_ := Aside0.mk (Kd.R_below HO361.out hb)
             have n3_ := Aside0.mk (Kd.S_below HO366.out hb)
             have n4_ := Aside0.mk (blk_below (g := gb367) (o := .cells #[.int .i64 t363, .slice Ao43 t364.length co43] 29 (0, 0)) (blk_below BK367.out bgo_) hb)
             have n5_ := Aside0.mk (Kd.R_below HO370.out hb)
             have n6_ := Aside0.mk (Kd.S_lower (Kd.S_mono (Kd.S_bound ho0) (fun k_ hk_ => (⟨hk_.2.1, hk_.2.2.1⟩ : w51.heap.size ≤ k_ ∧ k_ < w52.heap.size))) HB.out.size)
             have n7_ := Aside0.mk (below_step HB.out hb)
             have n8_ := Aside0.mk (hb.size)
             clear BK353
             clear HO358
             clear HO361
             clear HO366
             clear BK367
             clear HO370
             clear HB
             have BK353 := n0_
             have HO358 := n1_
             have HO361 := n2_
             have HO366 := n3_
             have BK367 := n4_
             have HO370 := n5_
             have HO376 := n6_
             have HB := n7_
             have Zw52 := n8_
             clear n0_ n1_ n2_ n3_ n4_ n5_ n6_ n7_ n8_
             (try clear hb)
             (try clear hkp)
             (try clear hd_)
             (try clear ho0)
             obtain ⟨Ao53, co53, eo53⟩ := Kd.S_slice HO376.out
             subst eo53
             refine hK.out _ _ ⟨(blk_cell BK367.out 0).trans rfl, (blk_cell BK367.out 1).trans rfl, (blk_cell BK353.out 0).trans rfl, (blk_cell BK353.out 1).trans rfl⟩ (fun hHeld => ?_)
             clear hK K
             refine norm_ (a' := ?_) ?_ ?_
             rotate_left
             ·show Act.put _ (some 43) _ = _
              simp only [Act.put, nf_]
              rfl
             refine one_ (i := 3) (N := some 44) #[true, true, true, true, false] rfl rfl (by kernel_rfl) (by decide) (fun K hK => ?_)
             refine goes_ Try.func15 (by kernel_rfl) rfl #[.agg #[.int .i64 t363, .slice Ao43 t364.length co43], .agg #[.int .i64 t373, .slice Ao53 t374.length co53]] (by rfl) rfl rfl arg_ ?_
             with_reducible refine (laws_eqGraph.calls k t363 _ _ t364 t373 _ _ t374 true _ ?side1 ?side2 ?side3 ?side4 A15.out).mono ?_
             (case side1 => exact (Kd.S_reads' HO366.out).2.2)
             (case side2 => (have e_ := Kd.S_reads' HO366.out; have e1_ := e_.1; have e2_ := e_.2.1; omega))
             (case side3 => exact (Kd.S_reads' HO376.out).2.2)
             (case side4 => (have e_ := Kd.S_reads' HO376.out; have e1_ := e_.1; have e2_ := e_.2.1; omega))
             rintro e w54 ⟨rfl, hb⟩
             refine ⟨_, rfl, ?_⟩
             have n0_ := Aside0.mk (blk_below (g := gb353) (o := .cells #[.int .i64 a0_0, .slice A0_1 l0_1.length c0_1] 24 (0, 0)) (blk_below BK353.out bgo_) hb)
             have n1_ := Aside0.mk (Kd.S_below HO358.out hb)
             have n2_ := Aside0.mk (Kd.R_below HO361.out hb)
             have n3_ := Aside0.mk (Kd.S_below HO366.out hb)
             have n4_ := Aside0.mk (blk_below (g := gb367) (o := .cells #[.int .i64 t363, .slice Ao43 t364.length co43] 29 (0, 0)) (blk_below BK367.out bgo_) hb)
             have n5_ := Aside0.mk (Kd.R_below HO370.out hb)
             have n6_ := Aside0.mk (Kd.S_below HO376.out hb)
             have n7_ := Aside0.mk (below_step HB.out hb)
             have n8_ := Aside0.mk (hb.size)
             clear BK353
             clear HO358
             clear HO361
             clear HO366
             clear BK367
             clear HO370
             clear HO376
             clear HB
             have BK353 := n0_
             have HO358 := n1_
             have HO361 := n2_
             have HO366 := n3_
             have BK367 := n4_
             have HO370 := n5_
             have HO376 := n6_
             have HB := n7_
             have Zw54 := n8_
             clear n0_ n1_ n2_ n3_ n4_ n5_ n6_ n7_ n8_
             (try clear hb)
             (try clear hkp)
             (try clear hd_)
             refine hK.out _ _ ⟨(blk_cell BK367.out 0).trans rfl, (blk_cell BK367.out 1).trans rfl, (blk_cell BK353.out 0).trans rfl, (blk_cell BK353.out 1).trans rfl⟩ (fun hHeld => ?_)
             clear hK K
             refine norm_ (a' := ?_) ?_ ?_
             rotate_left
             ·show Act.put _ (some 44) _ = _
              simp only [Act.put, nf_]
              rfl
             refine pure_ (i := 4) (N := some 45) (v := ?_) (a' := ?_) #[true, true, true, true, true] rfl rfl (by kernel_rfl) (fun _ _ _ h => h) (Or.inl ⟨by rfl, ?_⟩) ?_ ?_
             rotate_left
             ·intro w'
              go_simp
              with_reducible rfl
             rotate_left
             ·simp only [Act.put, nf_]
              rfl
             refine done_ (by kernel_rfl) ?_
             have hcz55_0 : w54.cell? ⟨gb367, 0, none⟩ = some (.int .i64 t363) := (blk_cell BK367.out 0).trans rfl
             have hcz55_1 : w54.cell? ⟨gb367, 1, none⟩ = some (.slice Ao43 t364.length co43) := (blk_cell BK367.out 1).trans rfl
             have hfz55_0 := blk_frozen BK367.out 0
             have hfz55_1 := blk_frozen BK367.out 1
             try go_wp2_with (first | ((with_reducible refine gate_callee (f := 16) rfl ?_); refine goesL_ (some 48) rfl rfl Try.func16 (by kernel_rfl) rfl #[.agg #[.int .i64 t363, .slice Ao43 t364.length co43], .int .i64 1] rfl (by (try simp only [List.map_toArray, List.map_cons, List.map_nil]); first | done | rfl) ?_; (with_reducible refine (laws_markGraph.calls k t363 (fun k_ => w39.heap.size ≤ k_ ∧ k_ < w42.heap.size) (.slice Ao43 t364.length co43) t364 1 t378 t379 w _ ?side1 ?side2 A17.out).mono ?_); (case side1 => exact HB.out); (case side2 => exact HO366.out); rintro e w56 ⟨rfl, hy0, hb, hkp⟩; refine ⟨_, rfl, ?_⟩; replace BK353 := Aside0.mk (blk_kept (blk_below BK353.out bgo_) hkp (fun hs_ => by have h1_ := ZB353.out.1; have h2_ := ZB353.out.2; have := Zw33.out; have := Zw35.out; have := Zw37.out; have := Zw39.out; have := Zw42.out; have := Zw44.out; have := Zw47.out; have := Zw48.out; have := Zw50.out; have := Zw51.out; have := Zw52.out; have := Zw54.out; have h3_ := hs_.1; have h4_ := hs_.2; omega)); replace HO358 := Aside0.mk (Kd.S_step HO358.out (fun k_ ho_ hl_ => hkp.2 k_ hl_ (fun hs_ => by have h1_ := ho_.1; have h2_ := ho_.2; have := Zw33.out; have := Zw35.out; have := Zw37.out; have := Zw39.out; have := Zw42.out; have := Zw44.out; have := Zw47.out; have := Zw48.out; have := Zw50.out; have := Zw51.out; have := Zw52.out; have := Zw54.out; have h3_ := hs_.1; have h4_ := hs_.2; omega))); replace HO361 := Aside0.mk (Kd.R_step HO361.out (fun k_ ho_ hl_ => hkp.2 k_ hl_ (fun hs_ => by have h1_ := ho_.1; have h2_ := ho_.2; have := Zw33.out; have := Zw35.out; have := Zw37.out; have := Zw39.out; have := Zw42.out; have := Zw44.out; have := Zw47.out; have := Zw48.out; have := Zw50.out; have := Zw51.out; have := Zw52.out; have := Zw54.out; have h3_ := hs_.1; have h4_ := hs_.2; omega))); replace HO366 := Aside0.mk (hy0); replace BK367 := Aside0.mk (blk_kept (blk_below BK367.out bgo_) hkp (fun hs_ => by have h1_ := ZB367.out.1; have h2_ := ZB367.out.2; have := Zw33.out; have := Zw35.out; have := Zw37.out; have := Zw39.out; have := Zw42.out; have := Zw44.out; have := Zw47.out; have := Zw48.out; have := Zw50.out; have := Zw51.out; have := Zw52.out; have := Zw54.out; have h3_ := hs_.1; have h4_ := hs_.2; omega)); replace HO370 := Aside0.mk (Kd.R_step HO370.out (fun k_ ho_ hl_ => hkp.2 k_ hl_ (fun hs_ => by have h1_ := ho_.1; have h2_ := ho_.2; have := Zw33.out; have := Zw35.out; have := Zw37.out; have := Zw39.out; have := Zw42.out; have := Zw44.out; have := Zw47.out; have := Zw48.out; have := Zw50.out; have := Zw51.out; have := Zw52.out; have := Zw54.out; have h3_ := hs_.1; have h4_ := hs_.2; omega))); replace HO376 := Aside0.mk (Kd.S_step HO376.out (fun k_ ho_ hl_ => hkp.2 k_ hl_ (fun hs_ => by have h1_ := ho_.1; have h2_ := ho_.2; have := Zw33.out; have := Zw35.out; have := Zw37.out; have := Zw39.out; have := Zw42.out; have := Zw44.out; have := Zw47.out; have := Zw48.out; have := Zw50.out; have := Zw51.out; have := Zw52.out; have := Zw54.out; have h3_ := hs_.1; have h4_ := hs_.2; omega))); replace HB := Aside0.mk (hb); have Zw56 := Aside0.mk (hkp.1); (try clear hb); (try clear hkp); (try clear hd_); (try clear hy0)) | (go_at_call 14; (with_reducible refine (laws_eqInt64S.calls k _ _ t368 _ _ t359 true _ ?side1 ?side2 ?side3 ?side4 A19.out).mono ?_); (case side1 => exact (Kd.R_reads' HO370.out).2.2); (case side2 => (have e_ := Kd.R_reads' HO370.out; have e1_ := e_.1; have e2_ := e_.2.1; omega)); (case side3 => exact (Kd.R_reads' HO361.out).2.2); (case side4 => (have e_ := Kd.R_reads' HO361.out; have e1_ := e_.1; have e2_ := e_.2.1; omega)); rintro e w57 ⟨rfl, hd_⟩; have hb := hd_.below; replace BK353 := Aside0.mk (blk_below (g := gb353) (o := .cells #[.int .i64 a0_0, .slice A0_1 l0_1.length c0_1] 24 (0, 0)) (blk_below BK353.out bgo_) hb); replace HO358 := Aside0.mk (Kd.S_below HO358.out hb); replace HO361 := Aside0.mk (Kd.R_below HO361.out hb); replace HO366 := Aside0.mk (Kd.S_below HO366.out hb); replace BK367 := Aside0.mk (blk_below (g := gb367) (o := .cells #[.int .i64 t363, .slice Ao43 t364.length co43] 29 (0, 0)) (blk_below BK367.out bgo_) hb); replace HO370 := Aside0.mk (Kd.R_below HO370.out hb); replace HO376 := Aside0.mk (Kd.S_below HO376.out hb); replace HB := Aside0.mk (below_step HB.out hb); have Zw57 := Aside0.mk (hb.size); (try clear hb); (try clear hkp); (try clear hd_)) | ((with_reducible refine gate_callee (f := 17) rfl ?_); refine goesL_ (some 64) rfl rfl Try.func17 (by kernel_rfl) rfl #[.slice Ao49 t368.length co49, .int .i64 1] rfl (by (try simp only [List.map_toArray, List.map_cons, List.map_nil]); first | done | rfl) ?_; (with_reducible refine (laws_markInt64S.calls k (fun k_ => w47.heap.size ≤ k_ ∧ k_ < w48.heap.size) (.slice Ao49 t368.length co49) t368 1 t381 t382 w _ ?side1 ?side2 A21.out).mono ?_); (case side1 => exact HB.out); (case side2 => exact HO370.out); rintro e w58 ⟨rfl, hy0, hb, hkp⟩; refine ⟨_, rfl, ?_⟩; replace BK353 := Aside0.mk (blk_kept (blk_below BK353.out bgo_) hkp (fun hs_ => by have h1_ := ZB353.out.1; have h2_ := ZB353.out.2; have := Zw33.out; have := Zw35.out; have := Zw37.out; have := Zw39.out; have := Zw42.out; have := Zw44.out; have := Zw47.out; have := Zw48.out; have := Zw50.out; have := Zw51.out; have := Zw52.out; have := Zw54.out; have := Zw56.out; have := Zw57.out; have h3_ := hs_.1; have h4_ := hs_.2; omega)); replace HO358 := Aside0.mk (Kd.S_step HO358.out (fun k_ ho_ hl_ => hkp.2 k_ hl_ (fun hs_ => by have h1_ := ho_.1; have h2_ := ho_.2; have := Zw33.out; have := Zw35.out; have := Zw37.out; have := Zw39.out; have := Zw42.out; have := Zw44.out; have := Zw47.out; have := Zw48.out; have := Zw50.out; have := Zw51.out; have := Zw52.out; have := Zw54.out; have := Zw56.out; have := Zw57.out; have h3_ := hs_.1; have h4_ := hs_.2; omega))); replace HO361 := Aside0.mk (Kd.R_step HO361.out (fun k_ ho_ hl_ => hkp.2 k_ hl_ (fun hs_ => by have h1_ := ho_.1; have h2_ := ho_.2; have := Zw33.out; have := Zw35.out; have := Zw37.out; have := Zw39.out; have := Zw42.out; have := Zw44.out; have := Zw47.out; have := Zw48.out; have := Zw50.out; have := Zw51.out; have := Zw52.out; have := Zw54.out; have := Zw56.out; have := Zw57.out; have h3_ := hs_.1; have h4_ := hs_.2; omega))); replace HO366 := Aside0.mk (Kd.S_step HO366.out (fun k_ ho_ hl_ => hkp.2 k_ hl_ (fun hs_ => by have h1_ := ho_.1; have h2_ := ho_.2; have := Zw33.out; have := Zw35.out; have := Zw37.out; have := Zw39.out; have := Zw42.out; have := Zw44.out; have := Zw47.out; have := Zw48.out; have := Zw50.out; have := Zw51.out; have := Zw52.out; have := Zw54.out; have := Zw56.out; have := Zw57.out; have h3_ := hs_.1; have h4_ := hs_.2; omega))); replace BK367 := Aside0.mk (blk_kept (blk_below BK367.out bgo_) hkp (fun hs_ => by have h1_ := ZB367.out.1; have h2_ := ZB367.out.2; have := Zw33.out; have := Zw35.out; have := Zw37.out; have := Zw39.out; have := Zw42.out; have := Zw44.out; have := Zw47.out; have := Zw48.out; have := Zw50.out; have := Zw51.out; have := Zw52.out; have := Zw54.out; have := Zw56.out; have := Zw57.out; have h3_ := hs_.1; have h4_ := hs_.2; omega)); replace HO370 := Aside0.mk (Kd.R_reok rfl hy0 (fun k_ e_ => HO370.out.1 k_ e_)); replace HO376 := Aside0.mk (Kd.S_step HO376.out (fun k_ ho_ hl_ => hkp.2 k_ hl_ (fun hs_ => by have h1_ := ho_.1; have h2_ := ho_.2; have := Zw33.out; have := Zw35.out; have := Zw37.out; have := Zw39.out; have := Zw42.out; have := Zw44.out; have := Zw47.out; have := Zw48.out; have := Zw50.out; have := Zw51.out; have := Zw52.out; have := Zw54.out; have := Zw56.out; have := Zw57.out; have h3_ := hs_.1; have h4_ := hs_.2; omega))); replace HB := Aside0.mk (hb); have Zw58 := Aside0.mk (hkp.1); (try clear hb); (try clear hkp); (try clear hd_); (try clear hy0)) | ((with_reducible refine gate_callee (f := 18) rfl ?_); refine goesL_ (some 67) rfl rfl Try.func18 (by kernel_rfl) rfl #[.slice Ao49 t368.length co49, .int .i64 1] rfl (by (try simp only [List.map_toArray, List.map_cons, List.map_nil]); first | done | rfl) ?_; refine calls_of_args (args' := #[.slice Ao49 t382.length co49, .int .i64 1]) (by first | rfl | (rw [show t368.length = t382.length from (Kd.R_reads' HO370.out).1] <;> rfl) | (simp only [show t368.length = t382.length from (Kd.R_reads' HO370.out).1])) ?_; (with_reducible refine (laws_heldInt64S.calls k _ _ t382 1 t383 _ ?side1 ?side2 A22.out).mono ?_); (case side1 => exact (Kd.R_reads' HO370.out).2.2); (case side2 => (have e_ := Kd.R_reads' HO370.out; have e1_ := e_.1; have e2_ := e_.2.1; omega)); rintro e w59 ⟨rfl, hd_⟩; refine ⟨_, rfl, ?_⟩; have hb := hd_.below; replace BK353 := Aside0.mk (blk_below (g := gb353) (o := .cells #[.int .i64 a0_0, .slice A0_1 l0_1.length c0_1] 24 (0, 0)) (blk_below BK353.out bgo_) hb); replace HO358 := Aside0.mk (Kd.S_below HO358.out hb); replace HO361 := Aside0.mk (Kd.R_below HO361.out hb); replace HO366 := Aside0.mk (Kd.S_below HO366.out hb); replace BK367 := Aside0.mk (blk_below (g := gb367) (o := .cells #[.int .i64 t363, .slice Ao43 t364.length co43] 29 (0, 0)) (blk_below BK367.out bgo_) hb); replace HO370 := Aside0.mk (Kd.R_below HO370.out hb); replace HO376 := Aside0.mk (Kd.S_below HO376.out hb); replace HB := Aside0.mk (below_step HB.out hb); have Zw59 := Aside0.mk (hb.size); (try clear hb); (try clear hkp); (try clear hd_); have hcz60_0 : w59.cell? ⟨gb353, 0, none⟩ = some (.int .i64 a0_0) := (blk_cell BK353.out 0).trans rfl; have hcz60_1 : w59.cell? ⟨gb353, 1, none⟩ = some (.slice A0_1 l0_1.length c0_1) := (blk_cell BK353.out 1).trans rfl; have hfz60_0 := blk_frozen BK353.out 0; have hfz60_1 := blk_frozen BK353.out 1) | ((with_reducible refine gate_callee (f := 12) rfl ?_); refine goesL_ (some 75) rfl rfl Try.func12 (by kernel_rfl) rfl #[.agg #[.int .i64 a0_0, .slice A0_1 l0_1.length c0_1]] rfl (by (try simp only [List.map_toArray, List.map_cons, List.map_nil]); first | done | rfl) ?_; (with_reducible refine (laws_toGraph.calls k a0_0 _ _ l0_1 t384 t385 _ ?side1 ?side2 A25.out).mono ?_); (case side1 => exact (Kd.C_below HR0_1.out HB.out)); (case side2 => exact HC0_1.out); rintro e w61 ⟨v386, rfl, ho0, hb⟩; refine ⟨_, rfl, ?_⟩; replace BK353 := Aside0.mk (blk_below (g := gb353) (o := .cells #[.int .i64 a0_0, .slice A0_1 l0_1.length c0_1] 24 (0, 0)) (blk_below BK353.out bgo_) hb); replace HO358 := Aside0.mk (Kd.S_below HO358.out hb); replace HO361 := Aside0.mk (Kd.R_below HO361.out hb); replace HO366 := Aside0.mk (Kd.S_below HO366.out hb); replace BK367 := Aside0.mk (blk_below (g := gb367) (o := .cells #[.int .i64 t363, .slice Ao43 t364.length co43] 29 (0, 0)) (blk_below BK367.out bgo_) hb); replace HO370 := Aside0.mk (Kd.R_below HO370.out hb); replace HO376 := Aside0.mk (Kd.S_below HO376.out hb); have HO387 := Aside0.mk (Kd.S_lower (Kd.S_mono (Kd.S_bound ho0) (fun k_ hk_ => (⟨hk_.2.1, hk_.2.2.1⟩ : w59.heap.size ≤ k_ ∧ k_ < w61.heap.size))) HB.out.size); replace HB := Aside0.mk (below_step HB.out hb); have Zw61 := Aside0.mk (hb.size); (try clear hb); (try clear hkp); (try clear hd_); (try clear ho0); obtain ⟨Ao62, co62, eo62⟩ := Kd.S_slice HO387.out; subst eo62) | ((with_reducible refine gate_callee (f := 13) rfl ?_); refine goesL_ (some 76) rfl rfl Try.func13 (by kernel_rfl) rfl #[.agg #[.int .i64 t384, .slice Ao62 t385.length co62]] rfl (by (try simp only [List.map_toArray, List.map_cons, List.map_nil]); first | done | rfl) ?_; (with_reducible refine (impl_VertexFactor.calls k t384 _ _ t385 t388 t391 _ ?side1 ?side2 A26.out).mono ?_); (case side1 => exact (Kd.S_reads' HO387.out).2.2); (case side2 => (have e_ := Kd.S_reads' HO387.out; have e1_ := e_.1; have e2_ := e_.2.1; omega)); rintro e w63 ⟨v389, rfl, ho0, hb⟩; refine ⟨_, rfl, ?_⟩; replace BK353 := Aside0.mk (blk_below (g := gb353) (o := .cells #[.int .i64 a0_0, .slice A0_1 l0_1.length c0_1] 24 (0, 0)) (blk_below BK353.out bgo_) hb); replace HO358 := Aside0.mk (Kd.S_below HO358.out hb); replace HO361 := Aside0.mk (Kd.R_below HO361.out hb); replace HO366 := Aside0.mk (Kd.S_below HO366.out hb); replace BK367 := Aside0.mk (blk_below (g := gb367) (o := .cells #[.int .i64 t363, .slice Ao43 t364.length co43] 29 (0, 0)) (blk_below BK367.out bgo_) hb); replace HO370 := Aside0.mk (Kd.R_below HO370.out hb); replace HO376 := Aside0.mk (Kd.S_below HO376.out hb); replace HO387 := Aside0.mk (Kd.S_below HO387.out hb); have HO390 := Aside0.mk (Kd.R_lower (Kd.R_mono (Kd.R_bound ho0) (fun k_ hk_ => (⟨hk_.2.1, hk_.2.2.1⟩ : w61.heap.size ≤ k_ ∧ k_ < w63.heap.size))) HB.out.size); replace HB := Aside0.mk (below_step HB.out hb); have Zw63 := Aside0.mk (hb.size); (try clear hb); (try clear hkp); (try clear hd_); (try clear ho0); obtain ⟨Ao64, co64, eo64⟩ := Kd.R_slice HO390.out; subst eo64) | ((with_reducible refine gate_callee (f := 14) rfl ?_); refine goesL_ (some 81) rfl rfl Try.func14 (by kernel_rfl) rfl #[.slice Ao64 t388.length co64, .slice Ao40 t359.length co40] rfl (by (try simp only [List.map_toArray, List.map_cons, List.map_nil]); first | done | rfl) ?_; (with_reducible refine (laws_eqInt64S.calls k _ _ t388 _ _ t359 true _ ?side1 ?side2 ?side3 ?side4 A27.out).mono ?_); (case side1 => exact (Kd.R_reads' HO390.out).2.2); (case side2 => (have e_ := Kd.R_reads' HO390.out; have e1_ := e_.1; have e2_ := e_.2.1; omega)); (case side3 => exact (Kd.R_reads' HO361.out).2.2); (case side4 => (have e_ := Kd.R_reads' HO361.out; have e1_ := e_.1; have e2_ := e_.2.1; omega)); rintro e w65 ⟨rfl, hd_⟩; refine ⟨_, rfl, ?_⟩; have hb := hd_.below; replace BK353 := Aside0.mk (blk_below (g := gb353) (o := .cells #[.int .i64 a0_0, .slice A0_1 l0_1.length c0_1] 24 (0, 0)) (blk_below BK353.out bgo_) hb); replace HO358 := Aside0.mk (Kd.S_below HO358.out hb); replace HO361 := Aside0.mk (Kd.R_below HO361.out hb); replace HO366 := Aside0.mk (Kd.S_below HO366.out hb); replace BK367 := Aside0.mk (blk_below (g := gb367) (o := .cells #[.int .i64 t363, .slice Ao43 t364.length co43] 29 (0, 0)) (blk_below BK367.out bgo_) hb); replace HO370 := Aside0.mk (Kd.R_below HO370.out hb); replace HO376 := Aside0.mk (Kd.S_below HO376.out hb); replace HO387 := Aside0.mk (Kd.S_below HO387.out hb); replace HO390 := Aside0.mk (Kd.R_below HO390.out hb); replace HB := Aside0.mk (below_step HB.out hb); have Zw65 := Aside0.mk (hb.size); (try clear hb); (try clear hkp); (try clear hd_)) | ((with_reducible refine gate_callee (f := 18) rfl ?_); refine goesL_ (some 90) rfl rfl Try.func18 (by kernel_rfl) rfl #[.slice Ao49 t368.length co49, .int .i64 1] rfl (by (try simp only [List.map_toArray, List.map_cons, List.map_nil]); first | done | rfl) ?_; refine calls_of_args (args' := #[.slice Ao49 t382.length co49, .int .i64 1]) (by first | rfl | (rw [show t368.length = t382.length from (Kd.R_reads' HO370.out).1] <;> rfl) | (simp only [show t368.length = t382.length from (Kd.R_reads' HO370.out).1])) ?_; (with_reducible refine (laws_heldInt64S.calls k _ _ t382 1 t393 _ ?side1 ?side2 A30.out).mono ?_); (case side1 => exact (Kd.R_reads' HO370.out).2.2); (case side2 => (have e_ := Kd.R_reads' HO370.out; have e1_ := e_.1; have e2_ := e_.2.1; omega)); rintro e w66 ⟨rfl, hd_⟩; refine ⟨_, rfl, ?_⟩; have hb := hd_.below; replace BK353 := Aside0.mk (blk_below (g := gb353) (o := .cells #[.int .i64 a0_0, .slice A0_1 l0_1.length c0_1] 24 (0, 0)) (blk_below BK353.out bgo_) hb); replace HO358 := Aside0.mk (Kd.S_below HO358.out hb); replace HO361 := Aside0.mk (Kd.R_below HO361.out hb); replace HO366 := Aside0.mk (Kd.S_below HO366.out hb); replace BK367 := Aside0.mk (blk_below (g := gb367) (o := .cells #[.int .i64 t363, .slice Ao43 t364.length co43] 29 (0, 0)) (blk_below BK367.out bgo_) hb); replace HO370 := Aside0.mk (Kd.R_below HO370.out hb); replace HO376 := Aside0.mk (Kd.S_below HO376.out hb); replace HO387 := Aside0.mk (Kd.S_below HO387.out hb); replace HO390 := Aside0.mk (Kd.R_below HO390.out hb); replace HB := Aside0.mk (below_step HB.out hb); have Zw66 := Aside0.mk (hb.size); (try clear hb); (try clear hkp); (try clear hd_)))
             go_ret
             exact ⟨er_, hbs_⟩
            ·rw [if_neg c32] at H
             have c32b0 : (t393 == t381) = false := beq_eq_false_iff_ne.mpr c32
             have c32b1 : (t393 != t381) = true := bne_iff_ne.mpr c32
             exact absurd H (by simp)
          ·rw [if_neg c29] at H
           have c29b0 : (t391 == t362) = false := beq_eq_false_iff_ne.mpr c29
           have c29b1 : (t391 != t362) = true := bne_iff_ne.mpr c29
           exact absurd H (by simp)
         ·replace c28 := Bool.eq_false_iff.mpr c28
          subst c28
          have H1 : (some false) = some true := by rw [if_neg (show ¬ (false = true) by decide)] at H; exact H
          clear H
          have H := H1
          clear H1
          exact absurd H (by simp)
        ·rw [if_neg c24] at H
         have c24b0 : (t383 == t381) = false := beq_eq_false_iff_ne.mpr c24
         have c24b1 : (t383 != t381) = true := bne_iff_ne.mpr c24
         exact absurd H (by simp)
      ·replace c20 := Bool.eq_false_iff.mpr c20
       subst c20
       have H1 : (some false) = some true := by rw [if_neg (show ¬ (false = true) by decide)] at H; exact H
       clear H
       have H := H1
       clear H1
       exact absurd H (by simp)
    ·replace c16 := Bool.eq_false_iff.mpr c16
     subst c16
     have H1 : (some false) = some true := by rw [if_neg (show ¬ (false = true) by decide)] at H; exact H
     clear H
     have H := H1
     clear H1
     exact absurd H (by simp)
   ·rw [if_neg c13] at H
    have c13b0 : (t371 == t362) = false := beq_eq_false_iff_ne.mpr c13
    have c13b1 : (t371 != t362) = true := bne_iff_ne.mpr c13
    exact absurd H (by simp)
  ·replace c12 := Bool.eq_false_iff.mpr c12
   subst c12
   have H1 : (some false) = some true := by rw [if_neg (show ¬ (false = true) by decide)] at H; exact H
   clear H
   have H := H1
   clear H1
   exact absurd H (by simp)

/-- THE ONE PURE STATEMENT of laws_FnExactVertexFactor: yours. -/
def laws_FnExactVertexFactor.Pure : Prop := ∀ (a0_0 : Int) (l0_1 : List (List Int)), (Lit.int .i64 a0_0).wf = true → l0_1.length ≤ maxLen → (∀ r ∈ l0_1, r.length ≤ maxLen ∧ ∀ y ∈ r, (Lit.int .i64 y).wf = true) → ∃ k, laws_FnExactVertexFactor.f k a0_0 l0_1 = some true
theorem laws_FnExactVertexFactor.walk (P : laws_FnExactVertexFactor.Pure) (a0_0 : Int) (A0_1 : Option Addr) (c0_1 : Nat) (l0_1 : List (List Int)) (w : World) (hw0_0 : (Lit.int .i64 a0_0).wf = true) (hm0_1 : l0_1.length ≤ maxLen) (hw0_1 : (∀ r ∈ l0_1, r.length ≤ maxLen ∧ ∀ y ∈ r, (Lit.int .i64 y).wf = true)) (hr0_1 : Kd.C (Kd.slice 2 (Kd.int .i64)) w A0_1 l0_1.length l0_1) (hc0_1 : l0_1.length ≤ c0_1) :
  Calls Try.prog 3 #[.agg #[.int .i64 a0_0, .slice A0_1 l0_1.length c0_1]] w fun e w' => e = .returned (.bool true) ∧ Below w.heap.size w w' := by
 obtain ⟨k, h⟩ := P a0_0 l0_1 hw0_0 hm0_1 hw0_1
 refine (laws_FnExactVertexFactor.calls k a0_0 _ _ l0_1 w hr0_1 hc0_1 h).mono ?_
 rintro e w' ⟨rfl, hd⟩
 exact ⟨rfl, hd⟩

end Go.Proofs.Ytipigagbgpoecaa.G
