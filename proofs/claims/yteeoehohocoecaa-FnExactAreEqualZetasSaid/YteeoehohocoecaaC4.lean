/- The printed functions that this law reaches, and their contracts: part 4. -/
-- printed by this repo's wip/printer out of the kit's print with its own changes
import Derived.Test.YteeoehohocoecaaC3
namespace Go.Proofs.Yteeoehohocoecaa.G
open Go.RowKit Go.Proofs.YteeoehohocoecaaW.PrintWords Go.Proofs.YteeoehohocoecaaW.PrintLast Go.Proofs.YteeoehohocoecaaW.PrintMore
attribute [local go_sem] max2_int min2_int max_two min_two max_three min_three max_four min_four   -- for this text's walks alone
set_option linter.unusedVariables false
set_option linter.unusedSimpArgs false

/-! ### laws_FnExactAreEqualZetas: function 8 -/
def laws_FnExactAreEqualZetas.f (k : Nat) (a0_0 : Int) (l0_1 : List (List Int)) (a1_0 : Int) (l1_1 : List (List Int)) : Option (Bool) := (laws_szGraph.f k a0_0 l0_1 1048576).bind fun t744 => (if t744 < 0 then (some true) else ((laws_szGraph.f k a1_0 l1_1 t744).bind fun t745 => (if t745 < 0 then (some true) else ((laws_toGraph.f k a0_0 l0_1).bind fun bt746 => ((laws_toGraph.f k a1_0 l1_1).bind fun bt750 => ((spec_AreEqualZetas.f k bt746.1 bt746.2 bt750.1 bt750.2).bind fun bt754 => ((laws_toGraph.f k a0_0 l0_1).bind fun bt756 => ((laws_toGraph.f k a1_0 l1_1).bind fun bt761 => ((impl_AreEqualZetas.f k bt756.1 bt756.2 bt761.1 bt761.2).bind fun bt766 => (if (bt766.1 != bt754.1) = true then (some false) else (if bt766.2 = bt754.2 then ((laws_toGraph.f k a0_0 l0_1).bind fun bt768 => ((laws_eqGraph.f k bt756.1 bt756.2 bt768.1 bt768.2).bind fun t772 => (if t772 = true then ((laws_toGraph.f k a1_0 l1_1).bind fun bt773 => ((laws_eqGraph.f k bt761.1 bt761.2 bt773.1 bt773.2).bind fun t777 => (if t777 = true then (some true) else (some false)))) else (some false)))) else (some false))))))))))))
theorem laws_FnExactAreEqualZetas.mono : ∀ a0 a1 a2 a3 k, LeO (laws_FnExactAreEqualZetas.f k a0 a1 a2 a3) (laws_FnExactAreEqualZetas.f (k + 1) a0 a1 a2 a3) := by
  intro a0 a1 a2 a3 k
  unfold laws_FnExactAreEqualZetas.f
  repeat' first
      | (with_reducible exact impl_AreEqualZetas.mono _ _ _ _ _)
      | (with_reducible exact laws_eqGraph.mono _ _ _ _ _)
      | (with_reducible exact laws_szGraph.mono _ _ _ _)
      | (with_reducible exact laws_toGraph.mono _ _ _)
      | (with_reducible exact spec_AreEqualZetas.mono _ _ _ _ _)
      | (with_reducible exact LeO.refl _)
      | (with_reducible exact LeO.none _)
      | (with_reducible refine LeO.ite ?_ ?_)
      | (with_reducible refine LeO.bind ?_ (fun _ => ?_))
      | exact impl_AreEqualZetas.mono _ _ _ _ _
      | exact laws_eqGraph.mono _ _ _ _ _
      | exact laws_szGraph.mono _ _ _ _
      | exact laws_toGraph.mono _ _ _
      | exact spec_AreEqualZetas.mono _ _ _ _ _
      | exact LeO.none _
      | refine LeO.ite ?_ ?_
      | refine LeO.bind ?_ (fun _ => ?_)
def laws_FnExactAreEqualZetas.T8 : Bool × List (List Nat × List Nat) := (true, [([], []), ([0], [0]), ([], []), ([2, 1], [2]), ([1, 3, 3], [1, 3]), ([4], [4]), ([5], [5]), ([5], [5]), ([6, 4, 0, 1, 2, 3, 4, 5, 6], [6]), ([7, 8, 0, 1, 2, 3, 4, 5, 6, 7, 8], [7])])
def laws_FnExactAreEqualZetas.B8 : List Nat := [0, 1, 0, 7, 15, 31, 63, 63, 127, 511]
theorem laws_FnExactAreEqualZetas.tab8 : rtab .any (opsOf Try.f8 8) = laws_FnExactAreEqualZetas.T8 := by kernel_rfl
theorem laws_FnExactAreEqualZetas.bits8 : waitsOk laws_FnExactAreEqualZetas.T8.2 laws_FnExactAreEqualZetas.B8 = true := by kernel_rfl
set_option maxHeartbeats 8000000 in
set_option maxRecDepth 100000 in
theorem laws_FnExactAreEqualZetas.calls (k : Nat) (a0_0 : Int) (A0_1 : Option Addr) (c0_1 : Nat) (l0_1 : List (List Int)) (a1_0 : Int) (A1_1 : Option Addr) (c1_1 : Nat) (l1_1 : List (List Int)) (w : World) (hr0_1 : Kd.C (Kd.slice 2 (Kd.int .i64)) w A0_1 l0_1.length l0_1) (hc0_1 : l0_1.length ≤ c0_1) (hr1_1 : Kd.C (Kd.slice 2 (Kd.int .i64)) w A1_1 l1_1.length l1_1) (hc1_1 : l1_1.length ≤ c1_1) (h : laws_FnExactAreEqualZetas.f k a0_0 l0_1 a1_0 l1_1 = some true) :
    Calls Try.prog 8 #[.agg #[.int .i64 a0_0, .slice A0_1 l0_1.length c0_1], .agg #[.int .i64 a1_0, .slice A1_1 l1_1.length c1_1]] w fun e w' => e = .returned (.bool true) ∧ Below w.heap.size w w' := by
  have hu33 := Try.underlying33
  have hu37 := Try.underlying37
  have HR0_1 := Aside0.mk hr0_1
  have HC0_1 := Aside0.mk hc0_1
  clear hr0_1 hc0_1
  have HR1_1 := Aside0.mk hr1_1
  have HC1_1 := Aside0.mk hc1_1
  clear hr1_1 hc1_1
  have HB := Aside0.mk (Below.refl w.heap.size w)
  have H : ((laws_szGraph.f k a0_0 l0_1 1048576).bind fun t744 => (if t744 < 0 then (some true) else ((laws_szGraph.f k a1_0 l1_1 t744).bind fun t745 => (if t745 < 0 then (some true) else ((laws_toGraph.f k a0_0 l0_1).bind fun bt746 => ((laws_toGraph.f k a1_0 l1_1).bind fun bt750 => ((spec_AreEqualZetas.f k bt746.1 bt746.2 bt750.1 bt750.2).bind fun bt754 => ((laws_toGraph.f k a0_0 l0_1).bind fun bt756 => ((laws_toGraph.f k a1_0 l1_1).bind fun bt761 => ((impl_AreEqualZetas.f k bt756.1 bt756.2 bt761.1 bt761.2).bind fun bt766 => (if (bt766.1 != bt754.1) = true then (some false) else (if bt766.2 = bt754.2 then ((laws_toGraph.f k a0_0 l0_1).bind fun bt768 => ((laws_eqGraph.f k bt756.1 bt756.2 bt768.1 bt768.2).bind fun t772 => (if t772 = true then ((laws_toGraph.f k a1_0 l1_1).bind fun bt773 => ((laws_eqGraph.f k bt761.1 bt761.2 bt773.1 bt773.2).bind fun t777 => (if t777 = true then (some true) else (some false)))) else (some false)))) else (some false))))))))))))) = some true := h
  clear h
  replace H := Option.bind_eq_some_iff.mp H
  obtain ⟨t744, A30, H⟩ := H
  replace H : (if t744 < 0 then (some true) else ((laws_szGraph.f k a1_0 l1_1 t744).bind fun t745 => (if t745 < 0 then (some true) else ((laws_toGraph.f k a0_0 l0_1).bind fun bt746 => ((laws_toGraph.f k a1_0 l1_1).bind fun bt750 => ((spec_AreEqualZetas.f k bt746.1 bt746.2 bt750.1 bt750.2).bind fun bt754 => ((laws_toGraph.f k a0_0 l0_1).bind fun bt756 => ((laws_toGraph.f k a1_0 l1_1).bind fun bt761 => ((impl_AreEqualZetas.f k bt756.1 bt756.2 bt761.1 bt761.2).bind fun bt766 => (if (bt766.1 != bt754.1) = true then (some false) else (if bt766.2 = bt754.2 then ((laws_toGraph.f k a0_0 l0_1).bind fun bt768 => ((laws_eqGraph.f k bt756.1 bt756.2 bt768.1 bt768.2).bind fun t772 => (if t772 = true then ((laws_toGraph.f k a1_0 l1_1).bind fun bt773 => ((laws_eqGraph.f k bt761.1 bt761.2 bt773.1 bt773.2).bind fun t777 => (if t777 = true then (some true) else (some false)))) else (some false)))) else (some false)))))))))))) = some true := H
  have A3 := Aside0.mk A30
  clear A30
  by_cases c4 : t744 < 0
  · rw [if_pos c4] at H
    have c4b0 : decide (t744 < 0) = true := decide_eq_true c4
    clear c4
    try clear H
    go_enter Try.func8, Try.ntmps8
    go_wp2_with (first | ((with_reducible refine gate_dst (N := 2) rfl ?_); refine box_event ?hg (N := 2) ?hd (cs := #[.int .i64 a0_0, .slice A0_1 l0_1.length c0_1]) (t := 33) ?hr ?_; (case hd => rfl); (case hg => rfl); (case hr => first | (go_simp; done) | (go_simp; rfl)); intro gb742 hg w5 hbox hb; have n0_ := Aside0.mk (hb.size); have n1_ := Aside0.mk ((⟨Nat.le_of_eq hg.symm, blk_lt hbox⟩ : w.heap.size ≤ gb742 ∧ gb742 < w5.heap.size)); have n2_ := Aside0.mk (below_step (by repeat (first | (with_reducible first | exact HB.out | apply below_alloc | apply pw_below_drewN | apply below_drew1) | exact HB.out)) hb); have n3_ := Aside0.mk (hbox); have n4_ := Aside0.mk ((by rw [hg]; exact (below_size (by repeat (first | (with_reducible first | exact HB.out | apply below_alloc | apply pw_below_drewN | apply below_drew1) | exact HB.out))) : w.heap.size ≤ gb742)); have n5_ := Aside0.mk ((by rw [hg]; exact (below_size (by repeat (first | (with_reducible first | exact HB.out | apply below_alloc | apply pw_below_drewN | apply below_drew1) | exact HB.out))) : w.heap.size ≤ gb742)); clear HB; have Zw5 := n0_; have ZB742 := n1_; have HB := n2_; have BK742 := n3_; have GW742 := n4_; have GE742 := n5_; clear n0_ n1_ n2_ n3_ n4_ n5_; clear hb hbox hg) | ((with_reducible refine gate_dst (N := 3) rfl ?_); refine box_event ?hg (N := 3) ?hd (cs := #[.int .i64 a1_0, .slice A1_1 l1_1.length c1_1]) (t := 33) ?hr ?_; (case hd => rfl); (case hg => rfl); (case hr => first | (go_simp; done) | (go_simp; rfl)); intro gb743 hg w6 hbox hb; have n0_ := Aside0.mk (blk_below (g := gb742) (o := .cells #[.int .i64 a0_0, .slice A0_1 l0_1.length c0_1] 33 (0, 0)) (by (with_reducible repeat (first | refine blk_drewN ?_ _ | refine blk_drew ?_ | refine blk_alloc ?_ _)); exact BK742.out) hb); have n1_ := Aside0.mk (hb.size); have n2_ := Aside0.mk ((⟨Nat.le_of_eq hg.symm, blk_lt hbox⟩ : w5.heap.size ≤ gb743 ∧ gb743 < w6.heap.size)); have n3_ := Aside0.mk (below_step (by repeat (first | (with_reducible first | exact HB.out | apply below_alloc | apply pw_below_drewN | apply below_drew1 | refine below_set ?_ GE742.out) | exact HB.out)) hb); have n4_ := Aside0.mk (hbox); have n5_ := Aside0.mk ((by rw [hg]; exact (below_size (by repeat (first | (with_reducible first | exact HB.out | apply below_alloc | apply pw_below_drewN | apply below_drew1 | refine below_set ?_ GE742.out) | exact HB.out))) : w.heap.size ≤ gb743)); have n6_ := Aside0.mk ((by rw [hg]; exact (below_size (by repeat (first | (with_reducible first | exact HB.out | apply below_alloc | apply pw_below_drewN | apply below_drew1 | refine below_set ?_ GE742.out) | exact HB.out))) : w.heap.size ≤ gb743)); have n7_ := Aside0.mk ((by rw [hg]; exact Nat.ne_of_lt (blk_lt (g := gb742) (o := .cells #[.int .i64 a0_0, .slice A0_1 l0_1.length c0_1] 33 (0, 0)) (by (with_reducible repeat (first | refine blk_drewN ?_ _ | refine blk_drew ?_ | refine blk_alloc ?_ _)); exact BK742.out)) : gb742 ≠ gb743)); have n8_ := Aside0.mk ((by rw [hg]; exact Nat.ne_of_gt (blk_lt (g := gb742) (o := .cells #[.int .i64 a0_0, .slice A0_1 l0_1.length c0_1] 33 (0, 0)) (by (with_reducible repeat (first | refine blk_drewN ?_ _ | refine blk_drew ?_ | refine blk_alloc ?_ _)); exact BK742.out)) : gb743 ≠ gb742)); clear BK742; clear HB; have BK742 := n0_; have Zw6 := n1_; have ZB743 := n2_; have HB := n3_; have BK743 := n4_; have GW743 := n5_; have GE743 := n6_; have NB742_743 := n7_; have NB743_742 := n8_; clear n0_ n1_ n2_ n3_ n4_ n5_ n6_ n7_ n8_; clear hb hbox hg; have hnb7 := NB742_743.out; have hnc7 := NB743_742.out; have hcz8_0 : w6.cell? ⟨gb742, 0, none⟩ = some (.int .i64 a0_0) := (blk_cell BK742.out 0).trans rfl; have hcz8_1 : w6.cell? ⟨gb742, 1, none⟩ = some (.slice A0_1 l0_1.length c0_1) := (blk_cell BK742.out 1).trans rfl; have hfz8_0 := blk_frozen BK742.out 0; have hfz8_1 := blk_frozen BK742.out 1) | ((with_reducible refine gate_callee (f := 24) rfl ?_); refine goesL_ (some 14) rfl rfl Try.func24 (by kernel_rfl) rfl #[.agg #[.int .i64 a0_0, .slice A0_1 l0_1.length c0_1], .int .i64 1048576] rfl (by (try simp only [List.map_toArray, List.map_cons, List.map_nil]); first | done | rfl) ?_; (with_reducible refine (laws_szGraph.calls k a0_0 _ _ l0_1 1048576 t744 _ ?side1 ?side2 A3.out).mono ?_); (case side1 => exact (Kd.C_below HR0_1.out HB.out)); (case side2 => exact HC0_1.out); rintro e w9 ⟨rfl, hb⟩; refine ⟨_, rfl, ?_⟩; have n0_ := Aside0.mk (blk_below (g := gb742) (o := .cells #[.int .i64 a0_0, .slice A0_1 l0_1.length c0_1] 33 (0, 0)) (by (with_reducible repeat (first | refine blk_drewN ?_ _ | refine blk_drew ?_ | refine blk_alloc ?_ _)); exact BK742.out) hb); have n1_ := Aside0.mk (blk_below (g := gb743) (o := .cells #[.int .i64 a1_0, .slice A1_1 l1_1.length c1_1] 33 (0, 0)) (by (with_reducible repeat (first | refine blk_drewN ?_ _ | refine blk_drew ?_ | refine blk_alloc ?_ _)); exact BK743.out) hb); have n2_ := Aside0.mk (below_step HB.out hb); have n3_ := Aside0.mk (hb.size); clear BK742; clear BK743; clear HB; have BK742 := n0_; have BK743 := n1_; have HB := n2_; have Zw9 := n3_; clear n0_ n1_ n2_ n3_; (try clear hb); (try clear hkp); (try clear hd_)))
    go_ret
    exact ⟨by first | rfl | (simp [errW_none, errW_some] <;> rfl) | (simp [*, errW_none, errW_some] <;> rfl), by repeat (first | (with_reducible first | exact HB.out | apply below_alloc | apply pw_below_drewN | apply below_drew1 | refine below_set ?_ GE742.out | refine below_set ?_ GE743.out) | exact HB.out)⟩
  · rw [if_neg c4] at H
    have c4b0 : decide (t744 < 0) = false := decide_eq_false c4
    clear c4
    replace H := Option.bind_eq_some_iff.mp H
    obtain ⟨t745, A100, H⟩ := H
    replace H : (if t745 < 0 then (some true) else ((laws_toGraph.f k a0_0 l0_1).bind fun bt746 => ((laws_toGraph.f k a1_0 l1_1).bind fun bt750 => ((spec_AreEqualZetas.f k bt746.1 bt746.2 bt750.1 bt750.2).bind fun bt754 => ((laws_toGraph.f k a0_0 l0_1).bind fun bt756 => ((laws_toGraph.f k a1_0 l1_1).bind fun bt761 => ((impl_AreEqualZetas.f k bt756.1 bt756.2 bt761.1 bt761.2).bind fun bt766 => (if (bt766.1 != bt754.1) = true then (some false) else (if bt766.2 = bt754.2 then ((laws_toGraph.f k a0_0 l0_1).bind fun bt768 => ((laws_eqGraph.f k bt756.1 bt756.2 bt768.1 bt768.2).bind fun t772 => (if t772 = true then ((laws_toGraph.f k a1_0 l1_1).bind fun bt773 => ((laws_eqGraph.f k bt761.1 bt761.2 bt773.1 bt773.2).bind fun t777 => (if t777 = true then (some true) else (some false)))) else (some false)))) else (some false)))))))))) = some true := H
    have A10 := Aside0.mk A100
    clear A100
    by_cases c11 : t745 < 0
    · rw [if_pos c11] at H
      have c11b0 : decide (t745 < 0) = true := decide_eq_true c11
      clear c11
      try clear H
      go_enter Try.func8, Try.ntmps8
      go_wp2_with (first | ((with_reducible refine gate_dst (N := 2) rfl ?_); refine box_event ?hg (N := 2) ?hd (cs := #[.int .i64 a0_0, .slice A0_1 l0_1.length c0_1]) (t := 33) ?hr ?_; (case hd => rfl); (case hg => rfl); (case hr => first | (go_simp; done) | (go_simp; rfl)); intro gb742 hg w12 hbox hb; have n0_ := Aside0.mk (hb.size); have n1_ := Aside0.mk ((⟨Nat.le_of_eq hg.symm, blk_lt hbox⟩ : w.heap.size ≤ gb742 ∧ gb742 < w12.heap.size)); have n2_ := Aside0.mk (below_step (by repeat (first | (with_reducible first | exact HB.out | apply below_alloc | apply pw_below_drewN | apply below_drew1) | exact HB.out)) hb); have n3_ := Aside0.mk (hbox); have n4_ := Aside0.mk ((by rw [hg]; exact (below_size (by repeat (first | (with_reducible first | exact HB.out | apply below_alloc | apply pw_below_drewN | apply below_drew1) | exact HB.out))) : w.heap.size ≤ gb742)); have n5_ := Aside0.mk ((by rw [hg]; exact (below_size (by repeat (first | (with_reducible first | exact HB.out | apply below_alloc | apply pw_below_drewN | apply below_drew1) | exact HB.out))) : w.heap.size ≤ gb742)); clear HB; have Zw12 := n0_; have ZB742 := n1_; have HB := n2_; have BK742 := n3_; have GW742 := n4_; have GE742 := n5_; clear n0_ n1_ n2_ n3_ n4_ n5_; clear hb hbox hg) | ((with_reducible refine gate_dst (N := 3) rfl ?_); refine box_event ?hg (N := 3) ?hd (cs := #[.int .i64 a1_0, .slice A1_1 l1_1.length c1_1]) (t := 33) ?hr ?_; (case hd => rfl); (case hg => rfl); (case hr => first | (go_simp; done) | (go_simp; rfl)); intro gb743 hg w13 hbox hb; have n0_ := Aside0.mk (blk_below (g := gb742) (o := .cells #[.int .i64 a0_0, .slice A0_1 l0_1.length c0_1] 33 (0, 0)) (by (with_reducible repeat (first | refine blk_drewN ?_ _ | refine blk_drew ?_ | refine blk_alloc ?_ _)); exact BK742.out) hb); have n1_ := Aside0.mk (hb.size); have n2_ := Aside0.mk ((⟨Nat.le_of_eq hg.symm, blk_lt hbox⟩ : w12.heap.size ≤ gb743 ∧ gb743 < w13.heap.size)); have n3_ := Aside0.mk (below_step (by repeat (first | (with_reducible first | exact HB.out | apply below_alloc | apply pw_below_drewN | apply below_drew1 | refine below_set ?_ GE742.out) | exact HB.out)) hb); have n4_ := Aside0.mk (hbox); have n5_ := Aside0.mk ((by rw [hg]; exact (below_size (by repeat (first | (with_reducible first | exact HB.out | apply below_alloc | apply pw_below_drewN | apply below_drew1 | refine below_set ?_ GE742.out) | exact HB.out))) : w.heap.size ≤ gb743)); have n6_ := Aside0.mk ((by rw [hg]; exact (below_size (by repeat (first | (with_reducible first | exact HB.out | apply below_alloc | apply pw_below_drewN | apply below_drew1 | refine below_set ?_ GE742.out) | exact HB.out))) : w.heap.size ≤ gb743)); have n7_ := Aside0.mk ((by rw [hg]; exact Nat.ne_of_lt (blk_lt (g := gb742) (o := .cells #[.int .i64 a0_0, .slice A0_1 l0_1.length c0_1] 33 (0, 0)) (by (with_reducible repeat (first | refine blk_drewN ?_ _ | refine blk_drew ?_ | refine blk_alloc ?_ _)); exact BK742.out)) : gb742 ≠ gb743)); have n8_ := Aside0.mk ((by rw [hg]; exact Nat.ne_of_gt (blk_lt (g := gb742) (o := .cells #[.int .i64 a0_0, .slice A0_1 l0_1.length c0_1] 33 (0, 0)) (by (with_reducible repeat (first | refine blk_drewN ?_ _ | refine blk_drew ?_ | refine blk_alloc ?_ _)); exact BK742.out)) : gb743 ≠ gb742)); clear BK742; clear HB; have BK742 := n0_; have Zw13 := n1_; have ZB743 := n2_; have HB := n3_; have BK743 := n4_; have GW743 := n5_; have GE743 := n6_; have NB742_743 := n7_; have NB743_742 := n8_; clear n0_ n1_ n2_ n3_ n4_ n5_ n6_ n7_ n8_; clear hb hbox hg; have hnb14 := NB742_743.out; have hnc14 := NB743_742.out; have hcz15_0 : w13.cell? ⟨gb742, 0, none⟩ = some (.int .i64 a0_0) := (blk_cell BK742.out 0).trans rfl; have hcz15_1 : w13.cell? ⟨gb742, 1, none⟩ = some (.slice A0_1 l0_1.length c0_1) := (blk_cell BK742.out 1).trans rfl; have hfz15_0 := blk_frozen BK742.out 0; have hfz15_1 := blk_frozen BK742.out 1) | ((with_reducible refine gate_callee (f := 24) rfl ?_); refine goesL_ (some 14) rfl rfl Try.func24 (by kernel_rfl) rfl #[.agg #[.int .i64 a0_0, .slice A0_1 l0_1.length c0_1], .int .i64 1048576] rfl (by (try simp only [List.map_toArray, List.map_cons, List.map_nil]); first | done | rfl) ?_; (with_reducible refine (laws_szGraph.calls k a0_0 _ _ l0_1 1048576 t744 _ ?side1 ?side2 A3.out).mono ?_); (case side1 => exact (Kd.C_below HR0_1.out HB.out)); (case side2 => exact HC0_1.out); rintro e w16 ⟨rfl, hb⟩; refine ⟨_, rfl, ?_⟩; have n0_ := Aside0.mk (blk_below (g := gb742) (o := .cells #[.int .i64 a0_0, .slice A0_1 l0_1.length c0_1] 33 (0, 0)) (by (with_reducible repeat (first | refine blk_drewN ?_ _ | refine blk_drew ?_ | refine blk_alloc ?_ _)); exact BK742.out) hb); have n1_ := Aside0.mk (blk_below (g := gb743) (o := .cells #[.int .i64 a1_0, .slice A1_1 l1_1.length c1_1] 33 (0, 0)) (by (with_reducible repeat (first | refine blk_drewN ?_ _ | refine blk_drew ?_ | refine blk_alloc ?_ _)); exact BK743.out) hb); have n2_ := Aside0.mk (below_step HB.out hb); have n3_ := Aside0.mk (hb.size); clear BK742; clear BK743; clear HB; have BK742 := n0_; have BK743 := n1_; have HB := n2_; have Zw16 := n3_; clear n0_ n1_ n2_ n3_; (try clear hb); (try clear hkp); (try clear hd_); have hcz17_0 : w16.cell? ⟨gb743, 0, none⟩ = some (.int .i64 a1_0) := (blk_cell BK743.out 0).trans rfl; have hcz17_1 : w16.cell? ⟨gb743, 1, none⟩ = some (.slice A1_1 l1_1.length c1_1) := (blk_cell BK743.out 1).trans rfl; have hfz17_0 := blk_frozen BK743.out 0; have hfz17_1 := blk_frozen BK743.out 1) | ((with_reducible refine gate_callee (f := 24) rfl ?_); refine goesL_ (some 19) rfl rfl Try.func24 (by kernel_rfl) rfl #[.agg #[.int .i64 a1_0, .slice A1_1 l1_1.length c1_1], .int .i64 t744] rfl (by (try simp only [List.map_toArray, List.map_cons, List.map_nil]); first | done | rfl) ?_; (with_reducible refine (laws_szGraph.calls k a1_0 _ _ l1_1 t744 t745 _ ?side1 ?side2 A10.out).mono ?_); (case side1 => exact (Kd.C_below HR1_1.out HB.out)); (case side2 => exact HC1_1.out); rintro e w18 ⟨rfl, hb⟩; refine ⟨_, rfl, ?_⟩; have n0_ := Aside0.mk (blk_below (g := gb742) (o := .cells #[.int .i64 a0_0, .slice A0_1 l0_1.length c0_1] 33 (0, 0)) (by (with_reducible repeat (first | refine blk_drewN ?_ _ | refine blk_drew ?_ | refine blk_alloc ?_ _)); exact BK742.out) hb); have n1_ := Aside0.mk (blk_below (g := gb743) (o := .cells #[.int .i64 a1_0, .slice A1_1 l1_1.length c1_1] 33 (0, 0)) (by (with_reducible repeat (first | refine blk_drewN ?_ _ | refine blk_drew ?_ | refine blk_alloc ?_ _)); exact BK743.out) hb); have n2_ := Aside0.mk (below_step HB.out hb); have n3_ := Aside0.mk (hb.size); clear BK742; clear BK743; clear HB; have BK742 := n0_; have BK743 := n1_; have HB := n2_; have Zw18 := n3_; clear n0_ n1_ n2_ n3_; (try clear hb); (try clear hkp); (try clear hd_)))
      go_ret
      exact ⟨by first | rfl | (simp [errW_none, errW_some] <;> rfl) | (simp [*, errW_none, errW_some] <;> rfl), by repeat (first | (with_reducible first | exact HB.out | apply below_alloc | apply pw_below_drewN | apply below_drew1 | refine below_set ?_ GE742.out | refine below_set ?_ GE743.out) | exact HB.out)⟩
    · rw [if_neg c11] at H
      have c11b0 : decide (t745 < 0) = false := decide_eq_false c11
      clear c11
      replace H := Option.bind_eq_some_iff.mp H
      obtain ⟨⟨t746, t747⟩, A190, H⟩ := H
      replace H : ((laws_toGraph.f k a1_0 l1_1).bind fun bt750 => ((spec_AreEqualZetas.f k t746 t747 bt750.1 bt750.2).bind fun bt754 => ((laws_toGraph.f k a0_0 l0_1).bind fun bt756 => ((laws_toGraph.f k a1_0 l1_1).bind fun bt761 => ((impl_AreEqualZetas.f k bt756.1 bt756.2 bt761.1 bt761.2).bind fun bt766 => (if (bt766.1 != bt754.1) = true then (some false) else (if bt766.2 = bt754.2 then ((laws_toGraph.f k a0_0 l0_1).bind fun bt768 => ((laws_eqGraph.f k bt756.1 bt756.2 bt768.1 bt768.2).bind fun t772 => (if t772 = true then ((laws_toGraph.f k a1_0 l1_1).bind fun bt773 => ((laws_eqGraph.f k bt761.1 bt761.2 bt773.1 bt773.2).bind fun t777 => (if t777 = true then (some true) else (some false)))) else (some false)))) else (some false)))))))) = some true := H
      have A19 := Aside0.mk A190
      clear A190
      replace H := Option.bind_eq_some_iff.mp H
      obtain ⟨⟨t750, t751⟩, A200, H⟩ := H
      replace H : ((spec_AreEqualZetas.f k t746 t747 t750 t751).bind fun bt754 => ((laws_toGraph.f k a0_0 l0_1).bind fun bt756 => ((laws_toGraph.f k a1_0 l1_1).bind fun bt761 => ((impl_AreEqualZetas.f k bt756.1 bt756.2 bt761.1 bt761.2).bind fun bt766 => (if (bt766.1 != bt754.1) = true then (some false) else (if bt766.2 = bt754.2 then ((laws_toGraph.f k a0_0 l0_1).bind fun bt768 => ((laws_eqGraph.f k bt756.1 bt756.2 bt768.1 bt768.2).bind fun t772 => (if t772 = true then ((laws_toGraph.f k a1_0 l1_1).bind fun bt773 => ((laws_eqGraph.f k bt761.1 bt761.2 bt773.1 bt773.2).bind fun t777 => (if t777 = true then (some true) else (some false)))) else (some false)))) else (some false))))))) = some true := H
      have A20 := Aside0.mk A200
      clear A200
      replace H := Option.bind_eq_some_iff.mp H
      obtain ⟨⟨t754, t755⟩, A210, H⟩ := H
      replace H : ((laws_toGraph.f k a0_0 l0_1).bind fun bt756 => ((laws_toGraph.f k a1_0 l1_1).bind fun bt761 => ((impl_AreEqualZetas.f k bt756.1 bt756.2 bt761.1 bt761.2).bind fun bt766 => (if (bt766.1 != t754) = true then (some false) else (if bt766.2 = t755 then ((laws_toGraph.f k a0_0 l0_1).bind fun bt768 => ((laws_eqGraph.f k bt756.1 bt756.2 bt768.1 bt768.2).bind fun t772 => (if t772 = true then ((laws_toGraph.f k a1_0 l1_1).bind fun bt773 => ((laws_eqGraph.f k bt761.1 bt761.2 bt773.1 bt773.2).bind fun t777 => (if t777 = true then (some true) else (some false)))) else (some false)))) else (some false)))))) = some true := H
      have A21 := Aside0.mk A210
      clear A210
      replace H := Option.bind_eq_some_iff.mp H
      obtain ⟨⟨t756, t757⟩, A220, H⟩ := H
      replace H : ((laws_toGraph.f k a1_0 l1_1).bind fun bt761 => ((impl_AreEqualZetas.f k t756 t757 bt761.1 bt761.2).bind fun bt766 => (if (bt766.1 != t754) = true then (some false) else (if bt766.2 = t755 then ((laws_toGraph.f k a0_0 l0_1).bind fun bt768 => ((laws_eqGraph.f k t756 t757 bt768.1 bt768.2).bind fun t772 => (if t772 = true then ((laws_toGraph.f k a1_0 l1_1).bind fun bt773 => ((laws_eqGraph.f k bt761.1 bt761.2 bt773.1 bt773.2).bind fun t777 => (if t777 = true then (some true) else (some false)))) else (some false)))) else (some false))))) = some true := H
      have A22 := Aside0.mk A220
      clear A220
      replace H := Option.bind_eq_some_iff.mp H
      obtain ⟨⟨t761, t762⟩, A230, H⟩ := H
      replace H : ((impl_AreEqualZetas.f k t756 t757 t761 t762).bind fun bt766 => (if (bt766.1 != t754) = true then (some false) else (if bt766.2 = t755 then ((laws_toGraph.f k a0_0 l0_1).bind fun bt768 => ((laws_eqGraph.f k t756 t757 bt768.1 bt768.2).bind fun t772 => (if t772 = true then ((laws_toGraph.f k a1_0 l1_1).bind fun bt773 => ((laws_eqGraph.f k t761 t762 bt773.1 bt773.2).bind fun t777 => (if t777 = true then (some true) else (some false)))) else (some false)))) else (some false)))) = some true := H
      have A23 := Aside0.mk A230
      clear A230
      replace H := Option.bind_eq_some_iff.mp H
      obtain ⟨⟨t766, t767⟩, A240, H⟩ := H
      replace H : (if (t766 != t754) = true then (some false) else (if t767 = t755 then ((laws_toGraph.f k a0_0 l0_1).bind fun bt768 => ((laws_eqGraph.f k t756 t757 bt768.1 bt768.2).bind fun t772 => (if t772 = true then ((laws_toGraph.f k a1_0 l1_1).bind fun bt773 => ((laws_eqGraph.f k t761 t762 bt773.1 bt773.2).bind fun t777 => (if t777 = true then (some true) else (some false)))) else (some false)))) else (some false))) = some true := H
      have A24 := Aside0.mk A240
      clear A240
      by_cases c25 : (t766 != t754) = true
      · rw [if_pos c25] at H
        have c25b0 : (t766 != t754) = true := c25
        (try (have c25b1 : decide (t766 = t754) = false := by simpa using c25))
        (try (have c25b2 : (t766 == t754) = false := by simpa using c25))
        (try (have c25b3 : ¬ (t766 = t754) := by simpa using c25))
        clear c25
        exact absurd H (by simp)
      · rw [if_neg c25] at H
        have c25b0 : (t766 != t754) = false := by simpa using c25
        (try (have c25b1 : decide (t766 = t754) = true := by simpa using c25))
        (try (have c25b2 : (t766 == t754) = true := by simpa using c25))
        clear c25
        by_cases c26 : t767 = t755
        · rw [if_pos c26] at H
          have c26b0 : (t767 == t755) = true := beq_iff_eq.mpr c26
          have c26b1 : (t767 != t755) = false := bne_eq_false_iff_eq.mpr c26
          clear c26
          replace H := Option.bind_eq_some_iff.mp H
          obtain ⟨⟨t768, t769⟩, A270, H⟩ := H
          replace H : ((laws_eqGraph.f k t756 t757 t768 t769).bind fun t772 => (if t772 = true then ((laws_toGraph.f k a1_0 l1_1).bind fun bt773 => ((laws_eqGraph.f k t761 t762 bt773.1 bt773.2).bind fun t777 => (if t777 = true then (some true) else (some false)))) else (some false))) = some true := H
          have A27 := Aside0.mk A270
          clear A270
          replace H := Option.bind_eq_some_iff.mp H
          obtain ⟨t772, A280, H⟩ := H
          replace H : (if t772 = true then ((laws_toGraph.f k a1_0 l1_1).bind fun bt773 => ((laws_eqGraph.f k t761 t762 bt773.1 bt773.2).bind fun t777 => (if t777 = true then (some true) else (some false)))) else (some false)) = some true := H
          have A28 := Aside0.mk A280
          clear A280
          by_cases c29 : t772 = true
          · subst c29
            have H1 : ((laws_toGraph.f k a1_0 l1_1).bind fun bt773 => ((laws_eqGraph.f k t761 t762 bt773.1 bt773.2).bind fun t777 => (if t777 = true then (some true) else (some false)))) = some true := by rw [if_pos rfl] at H; exact H
            clear H
            have H := H1
            clear H1
            replace H := Option.bind_eq_some_iff.mp H
            obtain ⟨⟨t773, t774⟩, A300, H⟩ := H
            replace H : ((laws_eqGraph.f k t761 t762 t773 t774).bind fun t777 => (if t777 = true then (some true) else (some false))) = some true := H
            have A30 := Aside0.mk A300
            clear A300
            replace H := Option.bind_eq_some_iff.mp H
            obtain ⟨t777, A310, H⟩ := H
            replace H : (if t777 = true then (some true) else (some false)) = some true := H
            have A31 := Aside0.mk A310
            clear A310
            by_cases c32 : t777 = true
            · subst c32
              have H1 : some true = some true := rfl
              clear H
              have H := H1
              clear H1
              try clear H
              go_enter Try.func8, Try.ntmps8
              try go_wp2_with (first | ((with_reducible refine gate_dst (N := 2) rfl ?_); refine box_event ?hg (N := 2) ?hd (cs := #[.int .i64 a0_0, .slice A0_1 l0_1.length c0_1]) (t := 33) ?hr ?_; (case hd => rfl); (case hg => rfl); (case hr => first | (go_simp; done) | (go_simp; rfl)); intro gb742 hg w33 hbox hb; have n0_ := Aside0.mk (hb.size); have n1_ := Aside0.mk ((⟨Nat.le_of_eq hg.symm, blk_lt hbox⟩ : w.heap.size ≤ gb742 ∧ gb742 < w33.heap.size)); have n2_ := Aside0.mk (below_step (by repeat (first | (with_reducible first | exact HB.out | apply below_alloc | apply pw_below_drewN | apply below_drew1) | exact HB.out)) hb); have n3_ := Aside0.mk (hbox); have n4_ := Aside0.mk ((by rw [hg]; exact (below_size (by repeat (first | (with_reducible first | exact HB.out | apply below_alloc | apply pw_below_drewN | apply below_drew1) | exact HB.out))) : w.heap.size ≤ gb742)); have n5_ := Aside0.mk ((by rw [hg]; exact (below_size (by repeat (first | (with_reducible first | exact HB.out | apply below_alloc | apply pw_below_drewN | apply below_drew1) | exact HB.out))) : w.heap.size ≤ gb742)); clear HB; have Zw33 := n0_; have ZB742 := n1_; have HB := n2_; have BK742 := n3_; have GW742 := n4_; have GE742 := n5_; clear n0_ n1_ n2_ n3_ n4_ n5_; clear hb hbox hg) | ((with_reducible refine gate_dst (N := 3) rfl ?_); refine box_event ?hg (N := 3) ?hd (cs := #[.int .i64 a1_0, .slice A1_1 l1_1.length c1_1]) (t := 33) ?hr ?_; (case hd => rfl); (case hg => rfl); (case hr => first | (go_simp; done) | (go_simp; rfl)); intro gb743 hg w34 hbox hb; have n0_ := Aside0.mk (blk_below (g := gb742) (o := .cells #[.int .i64 a0_0, .slice A0_1 l0_1.length c0_1] 33 (0, 0)) (by (with_reducible repeat (first | refine blk_drewN ?_ _ | refine blk_drew ?_ | refine blk_alloc ?_ _)); exact BK742.out) hb); have n1_ := Aside0.mk (hb.size); have n2_ := Aside0.mk ((⟨Nat.le_of_eq hg.symm, blk_lt hbox⟩ : w33.heap.size ≤ gb743 ∧ gb743 < w34.heap.size)); have n3_ := Aside0.mk (below_step (by repeat (first | (with_reducible first | exact HB.out | apply below_alloc | apply pw_below_drewN | apply below_drew1 | refine below_set ?_ GE742.out) | exact HB.out)) hb); have n4_ := Aside0.mk (hbox); have n5_ := Aside0.mk ((by rw [hg]; exact (below_size (by repeat (first | (with_reducible first | exact HB.out | apply below_alloc | apply pw_below_drewN | apply below_drew1 | refine below_set ?_ GE742.out) | exact HB.out))) : w.heap.size ≤ gb743)); have n6_ := Aside0.mk ((by rw [hg]; exact (below_size (by repeat (first | (with_reducible first | exact HB.out | apply below_alloc | apply pw_below_drewN | apply below_drew1 | refine below_set ?_ GE742.out) | exact HB.out))) : w.heap.size ≤ gb743)); have n7_ := Aside0.mk ((by rw [hg]; exact Nat.ne_of_lt (blk_lt (g := gb742) (o := .cells #[.int .i64 a0_0, .slice A0_1 l0_1.length c0_1] 33 (0, 0)) (by (with_reducible repeat (first | refine blk_drewN ?_ _ | refine blk_drew ?_ | refine blk_alloc ?_ _)); exact BK742.out)) : gb742 ≠ gb743)); have n8_ := Aside0.mk ((by rw [hg]; exact Nat.ne_of_gt (blk_lt (g := gb742) (o := .cells #[.int .i64 a0_0, .slice A0_1 l0_1.length c0_1] 33 (0, 0)) (by (with_reducible repeat (first | refine blk_drewN ?_ _ | refine blk_drew ?_ | refine blk_alloc ?_ _)); exact BK742.out)) : gb743 ≠ gb742)); clear BK742; clear HB; have BK742 := n0_; have Zw34 := n1_; have ZB743 := n2_; have HB := n3_; have BK743 := n4_; have GW743 := n5_; have GE743 := n6_; have NB742_743 := n7_; have NB743_742 := n8_; clear n0_ n1_ n2_ n3_ n4_ n5_ n6_ n7_ n8_; clear hb hbox hg; have hnb35 := NB742_743.out; have hnc35 := NB743_742.out; have hcz36_0 : w34.cell? ⟨gb742, 0, none⟩ = some (.int .i64 a0_0) := (blk_cell BK742.out 0).trans rfl; have hcz36_1 : w34.cell? ⟨gb742, 1, none⟩ = some (.slice A0_1 l0_1.length c0_1) := (blk_cell BK742.out 1).trans rfl; have hfz36_0 := blk_frozen BK742.out 0; have hfz36_1 := blk_frozen BK742.out 1) | ((with_reducible refine gate_callee (f := 24) rfl ?_); refine goesL_ (some 14) rfl rfl Try.func24 (by kernel_rfl) rfl #[.agg #[.int .i64 a0_0, .slice A0_1 l0_1.length c0_1], .int .i64 1048576] rfl (by (try simp only [List.map_toArray, List.map_cons, List.map_nil]); first | done | rfl) ?_; (with_reducible refine (laws_szGraph.calls k a0_0 _ _ l0_1 1048576 t744 _ ?side1 ?side2 A3.out).mono ?_); (case side1 => exact (Kd.C_below HR0_1.out HB.out)); (case side2 => exact HC0_1.out); rintro e w37 ⟨rfl, hb⟩; refine ⟨_, rfl, ?_⟩; have n0_ := Aside0.mk (blk_below (g := gb742) (o := .cells #[.int .i64 a0_0, .slice A0_1 l0_1.length c0_1] 33 (0, 0)) (by (with_reducible repeat (first | refine blk_drewN ?_ _ | refine blk_drew ?_ | refine blk_alloc ?_ _)); exact BK742.out) hb); have n1_ := Aside0.mk (blk_below (g := gb743) (o := .cells #[.int .i64 a1_0, .slice A1_1 l1_1.length c1_1] 33 (0, 0)) (by (with_reducible repeat (first | refine blk_drewN ?_ _ | refine blk_drew ?_ | refine blk_alloc ?_ _)); exact BK743.out) hb); have n2_ := Aside0.mk (below_step HB.out hb); have n3_ := Aside0.mk (hb.size); clear BK742; clear BK743; clear HB; have BK742 := n0_; have BK743 := n1_; have HB := n2_; have Zw37 := n3_; clear n0_ n1_ n2_ n3_; (try clear hb); (try clear hkp); (try clear hd_); have hcz38_0 : w37.cell? ⟨gb743, 0, none⟩ = some (.int .i64 a1_0) := (blk_cell BK743.out 0).trans rfl; have hcz38_1 : w37.cell? ⟨gb743, 1, none⟩ = some (.slice A1_1 l1_1.length c1_1) := (blk_cell BK743.out 1).trans rfl; have hfz38_0 := blk_frozen BK743.out 0; have hfz38_1 := blk_frozen BK743.out 1) | ((with_reducible refine gate_callee (f := 24) rfl ?_); refine goesL_ (some 19) rfl rfl Try.func24 (by kernel_rfl) rfl #[.agg #[.int .i64 a1_0, .slice A1_1 l1_1.length c1_1], .int .i64 t744] rfl (by (try simp only [List.map_toArray, List.map_cons, List.map_nil]); first | done | rfl) ?_; (with_reducible refine (laws_szGraph.calls k a1_0 _ _ l1_1 t744 t745 _ ?side1 ?side2 A10.out).mono ?_); (case side1 => exact (Kd.C_below HR1_1.out HB.out)); (case side2 => exact HC1_1.out); rintro e w39 ⟨rfl, hb⟩; refine ⟨_, rfl, ?_⟩; have n0_ := Aside0.mk (blk_below (g := gb742) (o := .cells #[.int .i64 a0_0, .slice A0_1 l0_1.length c0_1] 33 (0, 0)) (by (with_reducible repeat (first | refine blk_drewN ?_ _ | refine blk_drew ?_ | refine blk_alloc ?_ _)); exact BK742.out) hb); have n1_ := Aside0.mk (blk_below (g := gb743) (o := .cells #[.int .i64 a1_0, .slice A1_1 l1_1.length c1_1] 33 (0, 0)) (by (with_reducible repeat (first | refine blk_drewN ?_ _ | refine blk_drew ?_ | refine blk_alloc ?_ _)); exact BK743.out) hb); have n2_ := Aside0.mk (below_step HB.out hb); have n3_ := Aside0.mk (hb.size); clear BK742; clear BK743; clear HB; have BK742 := n0_; have BK743 := n1_; have HB := n2_; have Zw39 := n3_; clear n0_ n1_ n2_ n3_; (try clear hb); (try clear hkp); (try clear hd_)))
              have n0_ := Aside0.mk ((show w39.heap.size ≤ w39.drew.heap.size from Nat.le_refl _))
              have n1_ := Aside0.mk (blk_drew BK742.out)
              have n2_ := Aside0.mk (blk_drew BK743.out)
              have n3_ := Aside0.mk (below_drew1 HB.out)
              clear BK742
              clear BK743
              clear HB
              have Zw40 := n0_
              have BK742 := n1_
              have BK743 := n2_
              have HB := n3_
              clear n0_ n1_ n2_ n3_
              refine start_ (n := 10) (S := fun w' => w'.cell? ⟨gb742, 0, none⟩ = some (.int .i64 a0_0) ∧ w'.cell? ⟨gb742, 1, none⟩ = some (.slice A0_1 l0_1.length c0_1) ∧ w'.cell? ⟨gb743, 0, none⟩ = some (.int .i64 a1_0) ∧ w'.cell? ⟨gb743, 1, none⟩ = some (.slice A1_1 l1_1.length c1_1)) (ds := []) #[false, false, false, false, false, false, false, false, false, false] (by kernel_rfl) rfl rfl ⟨(blk_cell BK742.out 0).trans rfl, (blk_cell BK742.out 1).trans rfl, (blk_cell BK743.out 0).trans rfl, (blk_cell BK743.out 1).trans rfl⟩ (fun hHeld => ?_); refine with_tabW laws_FnExactAreEqualZetas.tab8 laws_FnExactAreEqualZetas.bits8 (fun HT_ HW_ => ?_)
              generalize w39.drew = w40 at BK742 BK743 HB Zw40 hHeld ⊢
              refine take_ (i := 0) (N := some 23) (v := ?_) (a' := ?_) #[true, false, false, false, false, false, false, false, false, false] rfl rfl (take_ofW HT_.out HW_.out (by kernel_rfl)) (fun _ _ _ h => h) (Or.inl ⟨by rfl, ?_⟩) hHeld ?_ ?_
              rotate_left
              · rintro w' ⟨s0, s1, s2, s3⟩
                go_simp
                with_reducible rfl
              rotate_left
              · simp only [Act.put, List.setIfInBounds_toArray, List.set_cons_zero, List.set_cons_succ, i64_w, i32_w]
                rfl
              refine take_ (i := 2) (N := some 25) (v := ?_) (a' := ?_) #[true, false, true, false, false, false, false, false, false, false] rfl rfl (take_ofW HT_.out HW_.out (by kernel_rfl)) (fun _ _ _ h => h) (Or.inl ⟨by rfl, ?_⟩) hHeld ?_ ?_
              rotate_left
              · rintro w' ⟨s0, s1, s2, s3⟩
                go_simp
                with_reducible rfl
              rotate_left
              · simp only [Act.put, List.setIfInBounds_toArray, List.set_cons_zero, List.set_cons_succ, i64_w, i32_w]
                rfl
              refine one_ (i := 1) (N := some 24) #[true, true, true, false, false, false, false, false, false, false] rfl rfl (one_of HT_.out (by kernel_rfl)) (by decide) (fun K hK => ?_)
              refine goes_ Try.func26 (by kernel_rfl) rfl #[.agg #[.int .i64 a0_0, .slice A0_1 l0_1.length c0_1]] (by rfl) rfl rfl (by (try simp only [List.map_toArray, List.map_cons, List.map_nil]); first | done | rfl | (simp only [List.length_drop, List.length_take]; rfl)) ?_
              with_reducible refine (laws_toGraph.calls k a0_0 _ _ l0_1 t746 t747 _ ?side1 ?side2 A19.out).mono ?_
              (case side1 => exact (Kd.C_below HR0_1.out HB.out))
              (case side2 => exact HC0_1.out)
              rintro e w41 ⟨v748, rfl, ho0, hb⟩
              refine ⟨_, rfl, ?_⟩
              have n0_ := Aside0.mk (blk_below (g := gb742) (o := .cells #[.int .i64 a0_0, .slice A0_1 l0_1.length c0_1] 33 (0, 0)) (by (with_reducible repeat (first | refine blk_drewN ?_ _ | refine blk_drew ?_ | refine blk_alloc ?_ _)); exact BK742.out) hb)
              have n1_ := Aside0.mk (blk_below (g := gb743) (o := .cells #[.int .i64 a1_0, .slice A1_1 l1_1.length c1_1] 33 (0, 0)) (by (with_reducible repeat (first | refine blk_drewN ?_ _ | refine blk_drew ?_ | refine blk_alloc ?_ _)); exact BK743.out) hb)
              have n2_ := Aside0.mk (Kd.S_lower (Kd.S_mono (Kd.S_bound ho0) (fun k_ hk_ => (⟨hk_.2.1, hk_.2.2.1⟩ : w40.heap.size ≤ k_ ∧ k_ < w41.heap.size))) HB.out.size)
              have n3_ := Aside0.mk (below_step HB.out hb)
              have n4_ := Aside0.mk (hb.size)
              clear BK742
              clear BK743
              clear HB
              have BK742 := n0_
              have BK743 := n1_
              have HO749 := n2_
              have HB := n3_
              have Zw41 := n4_
              clear n0_ n1_ n2_ n3_ n4_
              (try clear hb)
              (try clear hkp)
              (try clear hd_)
              (try clear ho0)
              obtain ⟨Ao42, co42, eo42⟩ := Kd.S_slice HO749.out
              subst eo42
              refine hK.out _ _ ⟨(blk_cell BK742.out 0).trans rfl, (blk_cell BK742.out 1).trans rfl, (blk_cell BK743.out 0).trans rfl, (blk_cell BK743.out 1).trans rfl⟩ (fun hHeld => ?_)
              clear hK K
              refine norm_ (a' := ?_) ?_ ?_
              rotate_left
              · show Act.put _ (some 24) _ = _
                simp only [Act.put, List.setIfInBounds_toArray, List.set_cons_zero, List.set_cons_succ, i64_w, i32_w]
                rfl
              refine one_ (i := 3) (N := some 26) #[true, true, true, true, false, false, false, false, false, false] rfl rfl (one_of HT_.out (by kernel_rfl)) (by decide) (fun K hK => ?_)
              refine goes_ Try.func26 (by kernel_rfl) rfl #[.agg #[.int .i64 a1_0, .slice A1_1 l1_1.length c1_1]] (by rfl) rfl rfl (by (try simp only [List.map_toArray, List.map_cons, List.map_nil]); first | done | rfl | (simp only [List.length_drop, List.length_take]; rfl)) ?_
              with_reducible refine (laws_toGraph.calls k a1_0 _ _ l1_1 t750 t751 _ ?side1 ?side2 A20.out).mono ?_
              (case side1 => exact (Kd.C_below HR1_1.out HB.out))
              (case side2 => exact HC1_1.out)
              rintro e w43 ⟨v752, rfl, ho0, hb⟩
              refine ⟨_, rfl, ?_⟩
              have n0_ := Aside0.mk (blk_below (g := gb742) (o := .cells #[.int .i64 a0_0, .slice A0_1 l0_1.length c0_1] 33 (0, 0)) (by (with_reducible repeat (first | refine blk_drewN ?_ _ | refine blk_drew ?_ | refine blk_alloc ?_ _)); exact BK742.out) hb)
              have n1_ := Aside0.mk (blk_below (g := gb743) (o := .cells #[.int .i64 a1_0, .slice A1_1 l1_1.length c1_1] 33 (0, 0)) (by (with_reducible repeat (first | refine blk_drewN ?_ _ | refine blk_drew ?_ | refine blk_alloc ?_ _)); exact BK743.out) hb)
              have n2_ := Aside0.mk (Kd.S_below HO749.out hb)
              have n3_ := Aside0.mk (Kd.S_lower (Kd.S_mono (Kd.S_bound ho0) (fun k_ hk_ => (⟨hk_.2.1, hk_.2.2.1⟩ : w41.heap.size ≤ k_ ∧ k_ < w43.heap.size))) HB.out.size)
              have n4_ := Aside0.mk (below_step HB.out hb)
              have n5_ := Aside0.mk (hb.size)
              clear BK742
              clear BK743
              clear HO749
              clear HB
              have BK742 := n0_
              have BK743 := n1_
              have HO749 := n2_
              have HO753 := n3_
              have HB := n4_
              have Zw43 := n5_
              clear n0_ n1_ n2_ n3_ n4_ n5_
              (try clear hb)
              (try clear hkp)
              (try clear hd_)
              (try clear ho0)
              obtain ⟨Ao44, co44, eo44⟩ := Kd.S_slice HO753.out
              subst eo44
              refine hK.out _ _ ⟨(blk_cell BK742.out 0).trans rfl, (blk_cell BK742.out 1).trans rfl, (blk_cell BK743.out 0).trans rfl, (blk_cell BK743.out 1).trans rfl⟩ (fun hHeld => ?_)
              clear hK K
              refine norm_ (a' := ?_) ?_ ?_
              rotate_left
              · show Act.put _ (some 26) _ = _
                simp only [Act.put, List.setIfInBounds_toArray, List.set_cons_zero, List.set_cons_succ, i64_w, i32_w]
                rfl
              refine one_ (i := 4) (N := some 27) #[true, true, true, true, true, false, false, false, false, false] rfl rfl (one_of HT_.out (by kernel_rfl)) (by decide) (fun K hK => ?_)
              refine goes_ Try.func37 (by kernel_rfl) rfl #[.agg #[.int .i64 t746, .slice Ao42 t747.length co42], .agg #[.int .i64 t750, .slice Ao44 t751.length co44]] (by rfl) rfl rfl (by (try simp only [List.map_toArray, List.map_cons, List.map_nil]); first | done | rfl | (simp only [List.length_drop, List.length_take]; rfl)) ?_
              with_reducible refine (spec_AreEqualZetas.calls k t746 _ _ t747 t750 _ _ t751 t754 t755 _ ?side1 ?side2 ?side3 ?side4 A21.out).mono ?_
              (case side1 => exact (Kd.S_reads' HO749.out).2.2)
              (case side2 => (have e_ := Kd.S_reads' HO749.out; have e1_ := e_.1; have e2_ := e_.2.1; omega))
              (case side3 => exact (Kd.S_reads' HO753.out).2.2)
              (case side4 => (have e_ := Kd.S_reads' HO753.out; have e1_ := e_.1; have e2_ := e_.2.1; omega))
              rintro e w45 ⟨rfl, hb⟩
              refine ⟨_, rfl, ?_⟩
              have n0_ := Aside0.mk (blk_below (g := gb742) (o := .cells #[.int .i64 a0_0, .slice A0_1 l0_1.length c0_1] 33 (0, 0)) (by (with_reducible repeat (first | refine blk_drewN ?_ _ | refine blk_drew ?_ | refine blk_alloc ?_ _)); exact BK742.out) hb)
              have n1_ := Aside0.mk (blk_below (g := gb743) (o := .cells #[.int .i64 a1_0, .slice A1_1 l1_1.length c1_1] 33 (0, 0)) (by (with_reducible repeat (first | refine blk_drewN ?_ _ | refine blk_drew ?_ | refine blk_alloc ?_ _)); exact BK743.out) hb)
              have n2_ := Aside0.mk (Kd.S_below HO749.out hb)
              have n3_ := Aside0.mk (Kd.S_below HO753.out hb)
              have n4_ := Aside0.mk (below_step HB.out hb)
              have n5_ := Aside0.mk (hb.size)
              clear BK742
              clear BK743
              clear HO749
              clear HO753
              clear HB
              have BK742 := n0_
              have BK743 := n1_
              have HO749 := n2_
              have HO753 := n3_
              have HB := n4_
              have Zw45 := n5_
              clear n0_ n1_ n2_ n3_ n4_ n5_
              (try clear hb)
              (try clear hkp)
              (try clear hd_)
              refine hK.out _ _ ⟨(blk_cell BK742.out 0).trans rfl, (blk_cell BK742.out 1).trans rfl, (blk_cell BK743.out 0).trans rfl, (blk_cell BK743.out 1).trans rfl⟩ (fun hHeld => ?_)
              clear hK K
              refine norm_ (a' := ?_) ?_ ?_
              rotate_left
              · show Act.put _ (some 27) _ = _
                simp only [Act.put, List.setIfInBounds_toArray, List.set_cons_zero, List.set_cons_succ, i64_w, i32_w]
                rfl
              refine pure_ (i := 5) (N := some 22) (v := ?_) (a' := ?_) #[true, true, true, true, true, true, false, false, false, false] rfl rfl (any_of HT_.out (by kernel_rfl)) (fun _ _ _ h => h) (Or.inl ⟨by rfl, ?_⟩) ?_ ?_
              rotate_left
              · intro w'
                go_simp
                with_reducible rfl
              rotate_left
              · simp only [Act.put, List.setIfInBounds_toArray, List.set_cons_zero, List.set_cons_succ, i64_w, i32_w]
                rfl
              refine pure_ (i := 6) (N := some 28) (v := ?_) (a' := ?_) #[true, true, true, true, true, true, true, false, false, false] rfl rfl (any_of HT_.out (by kernel_rfl)) (fun _ _ _ h => h) (Or.inl ⟨by rfl, ?_⟩) ?_ ?_
              rotate_left
              · intro w'
                go_simp
                with_reducible rfl
              rotate_left
              · simp only [Act.put, List.setIfInBounds_toArray, List.set_cons_zero, List.set_cons_succ, i64_w, i32_w]
                rfl
              refine pure_ (i := 7) (N := some 29) (v := ?_) (a' := ?_) #[true, true, true, true, true, true, true, true, false, false] rfl rfl (any_of HT_.out (by kernel_rfl)) (fun _ _ _ h => h) (Or.inl ⟨by rfl, ?_⟩) ?_ ?_
              rotate_left
              · intro w'
                go_simp
                with_reducible rfl
              rotate_left
              · simp only [Act.put, List.setIfInBounds_toArray, List.set_cons_zero, List.set_cons_succ, i64_w, i32_w]
                rfl
              refine pure_ (i := 8) (N := some 6) (v := ?_) (a' := ?_) #[true, true, true, true, true, true, true, true, true, false] rfl rfl (any_of HT_.out (by kernel_rfl)) (fun _ _ _ h => h) (Or.inl ⟨by rfl, ?_⟩) ?_ ?_
              rotate_left
              · intro w'
                go_simp
                with_reducible rfl
              rotate_left
              · simp only [Act.put, List.setIfInBounds_toArray, List.set_cons_zero, List.set_cons_succ, i64_w, i32_w]
                rfl
              refine pure_ (i := 9) (N := some 7) (v := ?_) (a' := ?_) #[true, true, true, true, true, true, true, true, true, true] rfl rfl (any_of HT_.out (by kernel_rfl)) (fun _ _ _ h => h) (Or.inl ⟨by rfl, ?_⟩) ?_ ?_
              rotate_left
              · intro w'
                go_simp
                with_reducible rfl
              rotate_left
              · simp only [Act.put, List.setIfInBounds_toArray, List.set_cons_zero, List.set_cons_succ, i64_w, i32_w]
                rfl
              refine done_ (done_of HT_.out (by kernel_rfl)) ?_
              have hcz46_0 : w45.cell? ⟨gb742, 0, none⟩ = some (.int .i64 a0_0) := (blk_cell BK742.out 0).trans rfl
              have hcz46_1 : w45.cell? ⟨gb742, 1, none⟩ = some (.slice A0_1 l0_1.length c0_1) := (blk_cell BK742.out 1).trans rfl
              have hfz46_0 := blk_frozen BK742.out 0
              have hfz46_1 := blk_frozen BK742.out 1
              try go_wp2_with (first | ((with_reducible refine gate_callee (f := 26) rfl ?_); refine goesL_ (some 31) rfl rfl Try.func26 (by kernel_rfl) rfl #[.agg #[.int .i64 a0_0, .slice A0_1 l0_1.length c0_1]] rfl (by (try simp only [List.map_toArray, List.map_cons, List.map_nil]); first | done | rfl) ?_; (with_reducible refine (laws_toGraph.calls k a0_0 _ _ l0_1 t756 t757 _ ?side1 ?side2 A22.out).mono ?_); (case side1 => exact (Kd.C_below HR0_1.out HB.out)); (case side2 => exact HC0_1.out); rintro e w47 ⟨v758, rfl, ho0, hb⟩; refine ⟨_, rfl, ?_⟩; have n0_ := Aside0.mk (blk_below (g := gb742) (o := .cells #[.int .i64 a0_0, .slice A0_1 l0_1.length c0_1] 33 (0, 0)) (by (with_reducible repeat (first | refine blk_drewN ?_ _ | refine blk_drew ?_ | refine blk_alloc ?_ _)); exact BK742.out) hb); have n1_ := Aside0.mk (blk_below (g := gb743) (o := .cells #[.int .i64 a1_0, .slice A1_1 l1_1.length c1_1] 33 (0, 0)) (by (with_reducible repeat (first | refine blk_drewN ?_ _ | refine blk_drew ?_ | refine blk_alloc ?_ _)); exact BK743.out) hb); have n2_ := Aside0.mk (Kd.S_below HO749.out hb); have n3_ := Aside0.mk (Kd.S_below HO753.out hb); have n4_ := Aside0.mk (Kd.S_lower (Kd.S_mono (Kd.S_bound ho0) (fun k_ hk_ => (⟨hk_.2.1, hk_.2.2.1⟩ : w45.heap.size ≤ k_ ∧ k_ < w47.heap.size))) HB.out.size); have n5_ := Aside0.mk (below_step HB.out hb); have n6_ := Aside0.mk (hb.size); clear BK742; clear BK743; clear HO749; clear HO753; clear HB; have BK742 := n0_; have BK743 := n1_; have HO749 := n2_; have HO753 := n3_; have HO759 := n4_; have HB := n5_; have Zw47 := n6_; clear n0_ n1_ n2_ n3_ n4_ n5_ n6_; (try clear hb); (try clear hkp); (try clear hd_); (try clear ho0); obtain ⟨Ao48, co48, eo48⟩ := Kd.S_slice HO759.out; subst eo48) | ((with_reducible refine gate_dst (N := 8) rfl ?_); refine box_event ?hg (N := 8) ?hd (cs := #[.int .i64 0, .slice none 0 0]) (t := 37) ?hr ?_; (case hd => rfl); (case hg => rfl); (case hr => first | (go_simp; done) | (go_simp; rfl)); intro gb760 hg w49 hbox hb; have n0_ := Aside0.mk (Kd.S_below HO749.out hb); have n1_ := Aside0.mk (Kd.S_below HO753.out hb); have n2_ := Aside0.mk (Kd.S_below HO759.out hb); have n3_ := Aside0.mk (blk_below (g := gb742) (o := .cells #[.int .i64 a0_0, .slice A0_1 l0_1.length c0_1] 33 (0, 0)) (by (with_reducible repeat (first | refine blk_drewN ?_ _ | refine blk_drew ?_ | refine blk_alloc ?_ _)); exact BK742.out) hb); have n4_ := Aside0.mk (blk_below (g := gb743) (o := .cells #[.int .i64 a1_0, .slice A1_1 l1_1.length c1_1] 33 (0, 0)) (by (with_reducible repeat (first | refine blk_drewN ?_ _ | refine blk_drew ?_ | refine blk_alloc ?_ _)); exact BK743.out) hb); have n5_ := Aside0.mk (hb.size); have n6_ := Aside0.mk ((⟨Nat.le_of_eq hg.symm, blk_lt hbox⟩ : w47.heap.size ≤ gb760 ∧ gb760 < w49.heap.size)); have n7_ := Aside0.mk (below_step (by repeat (first | (with_reducible first | exact HB.out | apply below_alloc | apply pw_below_drewN | apply below_drew1 | refine below_set ?_ GE742.out | refine below_set ?_ GE743.out) | exact HB.out)) hb); have n8_ := Aside0.mk (hbox); have n9_ := Aside0.mk ((by rw [hg]; exact (below_size (by repeat (first | (with_reducible first | exact HB.out | apply below_alloc | apply pw_below_drewN | apply below_drew1 | refine below_set ?_ GE742.out | refine below_set ?_ GE743.out) | exact HB.out))) : w.heap.size ≤ gb760)); have n10_ := Aside0.mk ((by rw [hg]; exact (below_size (by repeat (first | (with_reducible first | exact HB.out | apply below_alloc | apply pw_below_drewN | apply below_drew1 | refine below_set ?_ GE742.out | refine below_set ?_ GE743.out) | exact HB.out))) : w.heap.size ≤ gb760)); have n11_ := Aside0.mk ((by rw [hg]; exact Nat.ne_of_lt (blk_lt (g := gb742) (o := .cells #[.int .i64 a0_0, .slice A0_1 l0_1.length c0_1] 33 (0, 0)) (by (with_reducible repeat (first | refine blk_drewN ?_ _ | refine blk_drew ?_ | refine blk_alloc ?_ _)); exact BK742.out)) : gb742 ≠ gb760)); have n12_ := Aside0.mk ((by rw [hg]; exact Nat.ne_of_gt (blk_lt (g := gb742) (o := .cells #[.int .i64 a0_0, .slice A0_1 l0_1.length c0_1] 33 (0, 0)) (by (with_reducible repeat (first | refine blk_drewN ?_ _ | refine blk_drew ?_ | refine blk_alloc ?_ _)); exact BK742.out)) : gb760 ≠ gb742)); have n13_ := Aside0.mk ((by rw [hg]; exact Nat.ne_of_lt (blk_lt (g := gb743) (o := .cells #[.int .i64 a1_0, .slice A1_1 l1_1.length c1_1] 33 (0, 0)) (by (with_reducible repeat (first | refine blk_drewN ?_ _ | refine blk_drew ?_ | refine blk_alloc ?_ _)); exact BK743.out)) : gb743 ≠ gb760)); have n14_ := Aside0.mk ((by rw [hg]; exact Nat.ne_of_gt (blk_lt (g := gb743) (o := .cells #[.int .i64 a1_0, .slice A1_1 l1_1.length c1_1] 33 (0, 0)) (by (with_reducible repeat (first | refine blk_drewN ?_ _ | refine blk_drew ?_ | refine blk_alloc ?_ _)); exact BK743.out)) : gb760 ≠ gb743)); clear HO749; clear HO753; clear HO759; clear BK742; clear BK743; clear HB; have HO749 := n0_; have HO753 := n1_; have HO759 := n2_; have BK742 := n3_; have BK743 := n4_; have Zw49 := n5_; have ZB760 := n6_; have HB := n7_; have BK760 := n8_; have GW760 := n9_; have GE760 := n10_; have NB742_760 := n11_; have NB760_742 := n12_; have NB743_760 := n13_; have NB760_743 := n14_; clear n0_ n1_ n2_ n3_ n4_ n5_ n6_ n7_ n8_ n9_ n10_ n11_ n12_ n13_ n14_; clear hb hbox hg; have hnb50 := NB760_742.out; have hnc50 := NB742_760.out; have hnb51 := NB760_743.out; have hnc51 := NB743_760.out; have hcz52_0 : w49.cell? ⟨gb760, 0, none⟩ = some (.int .i64 0) := (blk_cell BK760.out 0).trans rfl; have hcz52_1 : w49.cell? ⟨gb760, 1, none⟩ = some (.slice none 0 0) := (blk_cell BK760.out 1).trans rfl; have hfz52_0 := blk_frozen BK760.out 0; have hfz52_1 := blk_frozen BK760.out 1; have hcz53_0 : w49.cell? ⟨gb743, 0, none⟩ = some (.int .i64 a1_0) := (blk_cell BK743.out 0).trans rfl; have hcz53_1 : w49.cell? ⟨gb743, 1, none⟩ = some (.slice A1_1 l1_1.length c1_1) := (blk_cell BK743.out 1).trans rfl; have hfz53_0 := blk_frozen BK743.out 0; have hfz53_1 := blk_frozen BK743.out 1) | ((with_reducible refine gate_callee (f := 26) rfl ?_); have n0_ := Aside0.mk (show ((w49.setCell ⟨gb760, 0, none⟩ (.int .i64 t756)).setCell ⟨gb760, 1, none⟩ (.slice Ao48 t757.length co48)).heap[gb742]? = some (.cells #[.int .i64 a0_0, .slice A0_1 l0_1.length c0_1] 33 (0, 0)) from (by (with_reducible repeat (first | refine blk_drewN ?_ _ | refine blk_drew ?_ | refine blk_alloc ?_ _)); refine blk_far ?_ NB742_760.out _; (with_reducible repeat (first | refine blk_drewN ?_ _ | refine blk_drew ?_ | refine blk_alloc ?_ _)); refine blk_far ?_ NB742_760.out _; (with_reducible repeat (first | refine blk_drewN ?_ _ | refine blk_drew ?_ | refine blk_alloc ?_ _)); exact BK742.out)); have n1_ := Aside0.mk (show ((w49.setCell ⟨gb760, 0, none⟩ (.int .i64 t756)).setCell ⟨gb760, 1, none⟩ (.slice Ao48 t757.length co48)).heap[gb743]? = some (.cells #[.int .i64 a1_0, .slice A1_1 l1_1.length c1_1] 33 (0, 0)) from (by (with_reducible repeat (first | refine blk_drewN ?_ _ | refine blk_drew ?_ | refine blk_alloc ?_ _)); refine blk_far ?_ NB743_760.out _; (with_reducible repeat (first | refine blk_drewN ?_ _ | refine blk_drew ?_ | refine blk_alloc ?_ _)); refine blk_far ?_ NB743_760.out _; (with_reducible repeat (first | refine blk_drewN ?_ _ | refine blk_drew ?_ | refine blk_alloc ?_ _)); exact BK743.out)); have n2_ := Aside0.mk (show Kd.S (Kd.slice 2 (Kd.int .i64)) 24 ((w49.setCell ⟨gb760, 0, none⟩ (.int .i64 t756)).setCell ⟨gb760, 1, none⟩ (.slice Ao48 t757.length co48)) w.heap.size (fun k_ => w40.heap.size ≤ k_ ∧ k_ < w41.heap.size) (.slice Ao42 t747.length co42) t747 from (Kd.S_far (Kd.S_far HO749.out (fun k_ ho_ => (show k_ ≠ gb760 from by have h1_ := ho_.1; have h2_ := ho_.2; have h3_ := ZB760.out.1; have h4_ := ZB760.out.2; have z0_ := Zw33.out; have z1_ := Zw34.out; have z2_ := Zw37.out; have z3_ := Zw39.out; have z4_ := Zw40.out; have z5_ := Zw41.out; have z6_ := Zw43.out; have z7_ := Zw45.out; have z8_ := Zw47.out; have z9_ := Zw49.out; omega)) _) (fun k_ ho_ => (show k_ ≠ gb760 from by have h1_ := ho_.1; have h2_ := ho_.2; have h3_ := ZB760.out.1; have h4_ := ZB760.out.2; have z0_ := Zw33.out; have z1_ := Zw34.out; have z2_ := Zw37.out; have z3_ := Zw39.out; have z4_ := Zw40.out; have z5_ := Zw41.out; have z6_ := Zw43.out; have z7_ := Zw45.out; have z8_ := Zw47.out; have z9_ := Zw49.out; omega)) _)); have n3_ := Aside0.mk (show Kd.S (Kd.slice 2 (Kd.int .i64)) 24 ((w49.setCell ⟨gb760, 0, none⟩ (.int .i64 t756)).setCell ⟨gb760, 1, none⟩ (.slice Ao48 t757.length co48)) w.heap.size (fun k_ => w41.heap.size ≤ k_ ∧ k_ < w43.heap.size) (.slice Ao44 t751.length co44) t751 from (Kd.S_far (Kd.S_far HO753.out (fun k_ ho_ => (show k_ ≠ gb760 from by have h1_ := ho_.1; have h2_ := ho_.2; have h3_ := ZB760.out.1; have h4_ := ZB760.out.2; have z0_ := Zw33.out; have z1_ := Zw34.out; have z2_ := Zw37.out; have z3_ := Zw39.out; have z4_ := Zw40.out; have z5_ := Zw41.out; have z6_ := Zw43.out; have z7_ := Zw45.out; have z8_ := Zw47.out; have z9_ := Zw49.out; omega)) _) (fun k_ ho_ => (show k_ ≠ gb760 from by have h1_ := ho_.1; have h2_ := ho_.2; have h3_ := ZB760.out.1; have h4_ := ZB760.out.2; have z0_ := Zw33.out; have z1_ := Zw34.out; have z2_ := Zw37.out; have z3_ := Zw39.out; have z4_ := Zw40.out; have z5_ := Zw41.out; have z6_ := Zw43.out; have z7_ := Zw45.out; have z8_ := Zw47.out; have z9_ := Zw49.out; omega)) _)); have n4_ := Aside0.mk (show Kd.S (Kd.slice 2 (Kd.int .i64)) 24 ((w49.setCell ⟨gb760, 0, none⟩ (.int .i64 t756)).setCell ⟨gb760, 1, none⟩ (.slice Ao48 t757.length co48)) w.heap.size (fun k_ => w45.heap.size ≤ k_ ∧ k_ < w47.heap.size) (.slice Ao48 t757.length co48) t757 from (Kd.S_far (Kd.S_far HO759.out (fun k_ ho_ => (show k_ ≠ gb760 from by have h1_ := ho_.1; have h2_ := ho_.2; have h3_ := ZB760.out.1; have h4_ := ZB760.out.2; have z0_ := Zw33.out; have z1_ := Zw34.out; have z2_ := Zw37.out; have z3_ := Zw39.out; have z4_ := Zw40.out; have z5_ := Zw41.out; have z6_ := Zw43.out; have z7_ := Zw45.out; have z8_ := Zw47.out; have z9_ := Zw49.out; omega)) _) (fun k_ ho_ => (show k_ ≠ gb760 from by have h1_ := ho_.1; have h2_ := ho_.2; have h3_ := ZB760.out.1; have h4_ := ZB760.out.2; have z0_ := Zw33.out; have z1_ := Zw34.out; have z2_ := Zw37.out; have z3_ := Zw39.out; have z4_ := Zw40.out; have z5_ := Zw41.out; have z6_ := Zw43.out; have z7_ := Zw45.out; have z8_ := Zw47.out; have z9_ := Zw49.out; omega)) _)); have n5_ := Aside0.mk (show ((w49.setCell ⟨gb760, 0, none⟩ (.int .i64 t756)).setCell ⟨gb760, 1, none⟩ (.slice Ao48 t757.length co48)).heap[gb760]? = some (.cells #[.int .i64 t756, .slice Ao48 t757.length co48] 37 (0, 0)) from (by (with_reducible repeat (first | refine blk_drewN ?_ _ | refine blk_drew ?_ | refine blk_alloc ?_ _)); refine blk_put (cs := #[.int .i64 t756, .slice none 0 0]) ?_ 1 _ rfl; (with_reducible repeat (first | refine blk_drewN ?_ _ | refine blk_drew ?_ | refine blk_alloc ?_ _)); refine blk_put (cs := #[.int .i64 0, .slice none 0 0]) ?_ 0 _ rfl; (with_reducible repeat (first | refine blk_drewN ?_ _ | refine blk_drew ?_ | refine blk_alloc ?_ _)); exact BK760.out)); have n6_ := Aside0.mk (show Below w.heap.size w ((w49.setCell ⟨gb760, 0, none⟩ (.int .i64 t756)).setCell ⟨gb760, 1, none⟩ (.slice Ao48 t757.length co48)) from (below_set (below_set HB.out GE760.out) GE760.out)); have n7_ := Aside0.mk (show w49.heap.size ≤ ((w49.setCell ⟨gb760, 0, none⟩ (.int .i64 t756)).setCell ⟨gb760, 1, none⟩ (.slice Ao48 t757.length co48)).heap.size from (Kept.setCell (Kept.setCell (Kept.refl w49 (fun _ => True)) (.inl trivial) _) (.inl trivial) _).1); clear BK742; clear BK743; clear HO749; clear HO753; clear HO759; clear BK760; clear HB; generalize hW_ : ((w49.setCell ⟨gb760, 0, none⟩ (.int .i64 t756)).setCell ⟨gb760, 1, none⟩ (.slice Ao48 t757.length co48)) = w54 at n0_ n1_ n2_ n3_ n4_ n5_ n6_ n7_ ⊢; clear hW_; have BK742 := n0_; have BK743 := n1_; have HO749 := n2_; have HO753 := n3_; have HO759 := n4_; have BK760 := n5_; have HB := n6_; have Zw54 := n7_; clear n0_ n1_ n2_ n3_ n4_ n5_ n6_ n7_; refine goesL_ (some 33) rfl rfl Try.func26 (by kernel_rfl) rfl #[.agg #[.int .i64 a1_0, .slice A1_1 l1_1.length c1_1]] rfl (by (try simp only [List.map_toArray, List.map_cons, List.map_nil]); first | done | rfl) ?_; (with_reducible refine (laws_toGraph.calls k a1_0 _ _ l1_1 t761 t762 _ ?side1 ?side2 A23.out).mono ?_); (case side1 => exact (Kd.C_below HR1_1.out HB.out)); (case side2 => exact HC1_1.out); rintro e w55 ⟨v763, rfl, ho0, hb⟩; refine ⟨_, rfl, ?_⟩; have n0_ := Aside0.mk (blk_below (g := gb742) (o := .cells #[.int .i64 a0_0, .slice A0_1 l0_1.length c0_1] 33 (0, 0)) (by (with_reducible repeat (first | refine blk_drewN ?_ _ | refine blk_drew ?_ | refine blk_alloc ?_ _)); exact BK742.out) hb); have n1_ := Aside0.mk (blk_below (g := gb743) (o := .cells #[.int .i64 a1_0, .slice A1_1 l1_1.length c1_1] 33 (0, 0)) (by (with_reducible repeat (first | refine blk_drewN ?_ _ | refine blk_drew ?_ | refine blk_alloc ?_ _)); exact BK743.out) hb); have n2_ := Aside0.mk (Kd.S_below HO749.out hb); have n3_ := Aside0.mk (Kd.S_below HO753.out hb); have n4_ := Aside0.mk (Kd.S_below HO759.out hb); have n5_ := Aside0.mk (blk_below (g := gb760) (o := .cells #[.int .i64 t756, .slice Ao48 t757.length co48] 37 (0, 0)) (by (with_reducible repeat (first | refine blk_drewN ?_ _ | refine blk_drew ?_ | refine blk_alloc ?_ _)); exact BK760.out) hb); have n6_ := Aside0.mk (Kd.S_lower (Kd.S_mono (Kd.S_bound ho0) (fun k_ hk_ => (⟨hk_.2.1, hk_.2.2.1⟩ : w54.heap.size ≤ k_ ∧ k_ < w55.heap.size))) HB.out.size); have n7_ := Aside0.mk (below_step HB.out hb); have n8_ := Aside0.mk (hb.size); clear BK742; clear BK743; clear HO749; clear HO753; clear HO759; clear BK760; clear HB; have BK742 := n0_; have BK743 := n1_; have HO749 := n2_; have HO753 := n3_; have HO759 := n4_; have BK760 := n5_; have HO764 := n6_; have HB := n7_; have Zw55 := n8_; clear n0_ n1_ n2_ n3_ n4_ n5_ n6_ n7_ n8_; (try clear hb); (try clear hkp); (try clear hd_); (try clear ho0); obtain ⟨Ao56, co56, eo56⟩ := Kd.S_slice HO764.out; subst eo56) | ((with_reducible refine gate_dst (N := 9) rfl ?_); refine box_event ?hg (N := 9) ?hd (cs := #[.int .i64 0, .slice none 0 0]) (t := 37) ?hr ?_; (case hd => rfl); (case hg => rfl); (case hr => first | (go_simp; done) | (go_simp; rfl)); intro gb765 hg w57 hbox hb; have n0_ := Aside0.mk (Kd.S_below HO749.out hb); have n1_ := Aside0.mk (Kd.S_below HO753.out hb); have n2_ := Aside0.mk (Kd.S_below HO759.out hb); have n3_ := Aside0.mk (Kd.S_below HO764.out hb); have n4_ := Aside0.mk (blk_below (g := gb742) (o := .cells #[.int .i64 a0_0, .slice A0_1 l0_1.length c0_1] 33 (0, 0)) (by (with_reducible repeat (first | refine blk_drewN ?_ _ | refine blk_drew ?_ | refine blk_alloc ?_ _)); exact BK742.out) hb); have n5_ := Aside0.mk (blk_below (g := gb743) (o := .cells #[.int .i64 a1_0, .slice A1_1 l1_1.length c1_1] 33 (0, 0)) (by (with_reducible repeat (first | refine blk_drewN ?_ _ | refine blk_drew ?_ | refine blk_alloc ?_ _)); exact BK743.out) hb); have n6_ := Aside0.mk (blk_below (g := gb760) (o := .cells #[.int .i64 t756, .slice Ao48 t757.length co48] 37 (0, 0)) (by (with_reducible repeat (first | refine blk_drewN ?_ _ | refine blk_drew ?_ | refine blk_alloc ?_ _)); exact BK760.out) hb); have n7_ := Aside0.mk (hb.size); have n8_ := Aside0.mk ((⟨Nat.le_of_eq hg.symm, blk_lt hbox⟩ : w55.heap.size ≤ gb765 ∧ gb765 < w57.heap.size)); have n9_ := Aside0.mk (below_step (by repeat (first | (with_reducible first | exact HB.out | apply below_alloc | apply pw_below_drewN | apply below_drew1 | refine below_set ?_ GE742.out | refine below_set ?_ GE743.out | refine below_set ?_ GE760.out) | exact HB.out)) hb); have n10_ := Aside0.mk (hbox); have n11_ := Aside0.mk ((by rw [hg]; exact (below_size (by repeat (first | (with_reducible first | exact HB.out | apply below_alloc | apply pw_below_drewN | apply below_drew1 | refine below_set ?_ GE742.out | refine below_set ?_ GE743.out | refine below_set ?_ GE760.out) | exact HB.out))) : w.heap.size ≤ gb765)); have n12_ := Aside0.mk ((by rw [hg]; exact (below_size (by repeat (first | (with_reducible first | exact HB.out | apply below_alloc | apply pw_below_drewN | apply below_drew1 | refine below_set ?_ GE742.out | refine below_set ?_ GE743.out | refine below_set ?_ GE760.out) | exact HB.out))) : w.heap.size ≤ gb765)); have n13_ := Aside0.mk ((by rw [hg]; exact Nat.ne_of_lt (blk_lt (g := gb742) (o := .cells #[.int .i64 a0_0, .slice A0_1 l0_1.length c0_1] 33 (0, 0)) (by (with_reducible repeat (first | refine blk_drewN ?_ _ | refine blk_drew ?_ | refine blk_alloc ?_ _)); exact BK742.out)) : gb742 ≠ gb765)); have n14_ := Aside0.mk ((by rw [hg]; exact Nat.ne_of_gt (blk_lt (g := gb742) (o := .cells #[.int .i64 a0_0, .slice A0_1 l0_1.length c0_1] 33 (0, 0)) (by (with_reducible repeat (first | refine blk_drewN ?_ _ | refine blk_drew ?_ | refine blk_alloc ?_ _)); exact BK742.out)) : gb765 ≠ gb742)); have n15_ := Aside0.mk ((by rw [hg]; exact Nat.ne_of_lt (blk_lt (g := gb743) (o := .cells #[.int .i64 a1_0, .slice A1_1 l1_1.length c1_1] 33 (0, 0)) (by (with_reducible repeat (first | refine blk_drewN ?_ _ | refine blk_drew ?_ | refine blk_alloc ?_ _)); exact BK743.out)) : gb743 ≠ gb765)); have n16_ := Aside0.mk ((by rw [hg]; exact Nat.ne_of_gt (blk_lt (g := gb743) (o := .cells #[.int .i64 a1_0, .slice A1_1 l1_1.length c1_1] 33 (0, 0)) (by (with_reducible repeat (first | refine blk_drewN ?_ _ | refine blk_drew ?_ | refine blk_alloc ?_ _)); exact BK743.out)) : gb765 ≠ gb743)); have n17_ := Aside0.mk ((by rw [hg]; exact Nat.ne_of_lt (blk_lt (g := gb760) (o := .cells #[.int .i64 t756, .slice Ao48 t757.length co48] 37 (0, 0)) (by (with_reducible repeat (first | refine blk_drewN ?_ _ | refine blk_drew ?_ | refine blk_alloc ?_ _)); exact BK760.out)) : gb760 ≠ gb765)); have n18_ := Aside0.mk ((by rw [hg]; exact Nat.ne_of_gt (blk_lt (g := gb760) (o := .cells #[.int .i64 t756, .slice Ao48 t757.length co48] 37 (0, 0)) (by (with_reducible repeat (first | refine blk_drewN ?_ _ | refine blk_drew ?_ | refine blk_alloc ?_ _)); exact BK760.out)) : gb765 ≠ gb760)); clear HO749; clear HO753; clear HO759; clear HO764; clear BK742; clear BK743; clear BK760; clear HB; have HO749 := n0_; have HO753 := n1_; have HO759 := n2_; have HO764 := n3_; have BK742 := n4_; have BK743 := n5_; have BK760 := n6_; have Zw57 := n7_; have ZB765 := n8_; have HB := n9_; have BK765 := n10_; have GW765 := n11_; have GE765 := n12_; have NB742_765 := n13_; have NB765_742 := n14_; have NB743_765 := n15_; have NB765_743 := n16_; have NB760_765 := n17_; have NB765_760 := n18_; clear n0_ n1_ n2_ n3_ n4_ n5_ n6_ n7_ n8_ n9_ n10_ n11_ n12_ n13_ n14_ n15_ n16_ n17_ n18_; clear hb hbox hg; have hnb58 := NB765_742.out; have hnc58 := NB742_765.out; have hnb59 := NB765_743.out; have hnc59 := NB743_765.out; have hnb60 := NB765_760.out; have hnc60 := NB760_765.out; have hcz61_0 : w57.cell? ⟨gb765, 0, none⟩ = some (.int .i64 0) := (blk_cell BK765.out 0).trans rfl; have hcz61_1 : w57.cell? ⟨gb765, 1, none⟩ = some (.slice none 0 0) := (blk_cell BK765.out 1).trans rfl; have hfz61_0 := blk_frozen BK765.out 0; have hfz61_1 := blk_frozen BK765.out 1; have hcz62_0 : w57.cell? ⟨gb760, 0, none⟩ = some (.int .i64 t756) := (blk_cell BK760.out 0).trans rfl; have hcz62_1 : w57.cell? ⟨gb760, 1, none⟩ = some (.slice Ao48 t757.length co48) := (blk_cell BK760.out 1).trans rfl; have hfz62_0 := blk_frozen BK760.out 0; have hfz62_1 := blk_frozen BK760.out 1) | ((with_reducible refine gate_callee (f := 38) rfl ?_); have n0_ := Aside0.mk (show ((w57.setCell ⟨gb765, 0, none⟩ (.int .i64 t761)).setCell ⟨gb765, 1, none⟩ (.slice Ao56 t762.length co56)).heap[gb742]? = some (.cells #[.int .i64 a0_0, .slice A0_1 l0_1.length c0_1] 33 (0, 0)) from (by (with_reducible repeat (first | refine blk_drewN ?_ _ | refine blk_drew ?_ | refine blk_alloc ?_ _)); refine blk_far ?_ NB742_765.out _; (with_reducible repeat (first | refine blk_drewN ?_ _ | refine blk_drew ?_ | refine blk_alloc ?_ _)); refine blk_far ?_ NB742_765.out _; (with_reducible repeat (first | refine blk_drewN ?_ _ | refine blk_drew ?_ | refine blk_alloc ?_ _)); exact BK742.out)); have n1_ := Aside0.mk (show ((w57.setCell ⟨gb765, 0, none⟩ (.int .i64 t761)).setCell ⟨gb765, 1, none⟩ (.slice Ao56 t762.length co56)).heap[gb743]? = some (.cells #[.int .i64 a1_0, .slice A1_1 l1_1.length c1_1] 33 (0, 0)) from (by (with_reducible repeat (first | refine blk_drewN ?_ _ | refine blk_drew ?_ | refine blk_alloc ?_ _)); refine blk_far ?_ NB743_765.out _; (with_reducible repeat (first | refine blk_drewN ?_ _ | refine blk_drew ?_ | refine blk_alloc ?_ _)); refine blk_far ?_ NB743_765.out _; (with_reducible repeat (first | refine blk_drewN ?_ _ | refine blk_drew ?_ | refine blk_alloc ?_ _)); exact BK743.out)); have n2_ := Aside0.mk (show Kd.S (Kd.slice 2 (Kd.int .i64)) 24 ((w57.setCell ⟨gb765, 0, none⟩ (.int .i64 t761)).setCell ⟨gb765, 1, none⟩ (.slice Ao56 t762.length co56)) w.heap.size (fun k_ => w40.heap.size ≤ k_ ∧ k_ < w41.heap.size) (.slice Ao42 t747.length co42) t747 from (Kd.S_far (Kd.S_far HO749.out (fun k_ ho_ => (show k_ ≠ gb765 from by have h1_ := ho_.1; have h2_ := ho_.2; have h3_ := ZB765.out.1; have h4_ := ZB765.out.2; have z0_ := Zw33.out; have z1_ := Zw34.out; have z2_ := Zw37.out; have z3_ := Zw39.out; have z4_ := Zw40.out; have z5_ := Zw41.out; have z6_ := Zw43.out; have z7_ := Zw45.out; have z8_ := Zw47.out; have z9_ := Zw49.out; have z10_ := Zw54.out; have z11_ := Zw55.out; have z12_ := Zw57.out; omega)) _) (fun k_ ho_ => (show k_ ≠ gb765 from by have h1_ := ho_.1; have h2_ := ho_.2; have h3_ := ZB765.out.1; have h4_ := ZB765.out.2; have z0_ := Zw33.out; have z1_ := Zw34.out; have z2_ := Zw37.out; have z3_ := Zw39.out; have z4_ := Zw40.out; have z5_ := Zw41.out; have z6_ := Zw43.out; have z7_ := Zw45.out; have z8_ := Zw47.out; have z9_ := Zw49.out; have z10_ := Zw54.out; have z11_ := Zw55.out; have z12_ := Zw57.out; omega)) _)); have n3_ := Aside0.mk (show Kd.S (Kd.slice 2 (Kd.int .i64)) 24 ((w57.setCell ⟨gb765, 0, none⟩ (.int .i64 t761)).setCell ⟨gb765, 1, none⟩ (.slice Ao56 t762.length co56)) w.heap.size (fun k_ => w41.heap.size ≤ k_ ∧ k_ < w43.heap.size) (.slice Ao44 t751.length co44) t751 from (Kd.S_far (Kd.S_far HO753.out (fun k_ ho_ => (show k_ ≠ gb765 from by have h1_ := ho_.1; have h2_ := ho_.2; have h3_ := ZB765.out.1; have h4_ := ZB765.out.2; have z0_ := Zw33.out; have z1_ := Zw34.out; have z2_ := Zw37.out; have z3_ := Zw39.out; have z4_ := Zw40.out; have z5_ := Zw41.out; have z6_ := Zw43.out; have z7_ := Zw45.out; have z8_ := Zw47.out; have z9_ := Zw49.out; have z10_ := Zw54.out; have z11_ := Zw55.out; have z12_ := Zw57.out; omega)) _) (fun k_ ho_ => (show k_ ≠ gb765 from by have h1_ := ho_.1; have h2_ := ho_.2; have h3_ := ZB765.out.1; have h4_ := ZB765.out.2; have z0_ := Zw33.out; have z1_ := Zw34.out; have z2_ := Zw37.out; have z3_ := Zw39.out; have z4_ := Zw40.out; have z5_ := Zw41.out; have z6_ := Zw43.out; have z7_ := Zw45.out; have z8_ := Zw47.out; have z9_ := Zw49.out; have z10_ := Zw54.out; have z11_ := Zw55.out; have z12_ := Zw57.out; omega)) _)); have n4_ := Aside0.mk (show Kd.S (Kd.slice 2 (Kd.int .i64)) 24 ((w57.setCell ⟨gb765, 0, none⟩ (.int .i64 t761)).setCell ⟨gb765, 1, none⟩ (.slice Ao56 t762.length co56)) w.heap.size (fun k_ => w45.heap.size ≤ k_ ∧ k_ < w47.heap.size) (.slice Ao48 t757.length co48) t757 from (Kd.S_far (Kd.S_far HO759.out (fun k_ ho_ => (show k_ ≠ gb765 from by have h1_ := ho_.1; have h2_ := ho_.2; have h3_ := ZB765.out.1; have h4_ := ZB765.out.2; have z0_ := Zw33.out; have z1_ := Zw34.out; have z2_ := Zw37.out; have z3_ := Zw39.out; have z4_ := Zw40.out; have z5_ := Zw41.out; have z6_ := Zw43.out; have z7_ := Zw45.out; have z8_ := Zw47.out; have z9_ := Zw49.out; have z10_ := Zw54.out; have z11_ := Zw55.out; have z12_ := Zw57.out; omega)) _) (fun k_ ho_ => (show k_ ≠ gb765 from by have h1_ := ho_.1; have h2_ := ho_.2; have h3_ := ZB765.out.1; have h4_ := ZB765.out.2; have z0_ := Zw33.out; have z1_ := Zw34.out; have z2_ := Zw37.out; have z3_ := Zw39.out; have z4_ := Zw40.out; have z5_ := Zw41.out; have z6_ := Zw43.out; have z7_ := Zw45.out; have z8_ := Zw47.out; have z9_ := Zw49.out; have z10_ := Zw54.out; have z11_ := Zw55.out; have z12_ := Zw57.out; omega)) _)); have n5_ := Aside0.mk (show ((w57.setCell ⟨gb765, 0, none⟩ (.int .i64 t761)).setCell ⟨gb765, 1, none⟩ (.slice Ao56 t762.length co56)).heap[gb760]? = some (.cells #[.int .i64 t756, .slice Ao48 t757.length co48] 37 (0, 0)) from (by (with_reducible repeat (first | refine blk_drewN ?_ _ | refine blk_drew ?_ | refine blk_alloc ?_ _)); refine blk_far ?_ NB760_765.out _; (with_reducible repeat (first | refine blk_drewN ?_ _ | refine blk_drew ?_ | refine blk_alloc ?_ _)); refine blk_far ?_ NB760_765.out _; (with_reducible repeat (first | refine blk_drewN ?_ _ | refine blk_drew ?_ | refine blk_alloc ?_ _)); exact BK760.out)); have n6_ := Aside0.mk (show Kd.S (Kd.slice 2 (Kd.int .i64)) 24 ((w57.setCell ⟨gb765, 0, none⟩ (.int .i64 t761)).setCell ⟨gb765, 1, none⟩ (.slice Ao56 t762.length co56)) w.heap.size (fun k_ => w54.heap.size ≤ k_ ∧ k_ < w55.heap.size) (.slice Ao56 t762.length co56) t762 from (Kd.S_far (Kd.S_far HO764.out (fun k_ ho_ => (show k_ ≠ gb765 from by have h1_ := ho_.1; have h2_ := ho_.2; have h3_ := ZB765.out.1; have h4_ := ZB765.out.2; have z0_ := Zw33.out; have z1_ := Zw34.out; have z2_ := Zw37.out; have z3_ := Zw39.out; have z4_ := Zw40.out; have z5_ := Zw41.out; have z6_ := Zw43.out; have z7_ := Zw45.out; have z8_ := Zw47.out; have z9_ := Zw49.out; have z10_ := Zw54.out; have z11_ := Zw55.out; have z12_ := Zw57.out; omega)) _) (fun k_ ho_ => (show k_ ≠ gb765 from by have h1_ := ho_.1; have h2_ := ho_.2; have h3_ := ZB765.out.1; have h4_ := ZB765.out.2; have z0_ := Zw33.out; have z1_ := Zw34.out; have z2_ := Zw37.out; have z3_ := Zw39.out; have z4_ := Zw40.out; have z5_ := Zw41.out; have z6_ := Zw43.out; have z7_ := Zw45.out; have z8_ := Zw47.out; have z9_ := Zw49.out; have z10_ := Zw54.out; have z11_ := Zw55.out; have z12_ := Zw57.out; omega)) _)); have n7_ := Aside0.mk (show ((w57.setCell ⟨gb765, 0, none⟩ (.int .i64 t761)).setCell ⟨gb765, 1, none⟩ (.slice Ao56 t762.length co56)).heap[gb765]? = some (.cells #[.int .i64 t761, .slice Ao56 t762.length co56] 37 (0, 0)) from (by (with_reducible repeat (first | refine blk_drewN ?_ _ | refine blk_drew ?_ | refine blk_alloc ?_ _)); refine blk_put (cs := #[.int .i64 t761, .slice none 0 0]) ?_ 1 _ rfl; (with_reducible repeat (first | refine blk_drewN ?_ _ | refine blk_drew ?_ | refine blk_alloc ?_ _)); refine blk_put (cs := #[.int .i64 0, .slice none 0 0]) ?_ 0 _ rfl; (with_reducible repeat (first | refine blk_drewN ?_ _ | refine blk_drew ?_ | refine blk_alloc ?_ _)); exact BK765.out)); have n8_ := Aside0.mk (show Below w.heap.size w ((w57.setCell ⟨gb765, 0, none⟩ (.int .i64 t761)).setCell ⟨gb765, 1, none⟩ (.slice Ao56 t762.length co56)) from (below_set (below_set HB.out GE765.out) GE765.out)); have n9_ := Aside0.mk (show w57.heap.size ≤ ((w57.setCell ⟨gb765, 0, none⟩ (.int .i64 t761)).setCell ⟨gb765, 1, none⟩ (.slice Ao56 t762.length co56)).heap.size from (Kept.setCell (Kept.setCell (Kept.refl w57 (fun _ => True)) (.inl trivial) _) (.inl trivial) _).1); clear BK742; clear BK743; clear HO749; clear HO753; clear HO759; clear BK760; clear HO764; clear BK765; clear HB; generalize hW_ : ((w57.setCell ⟨gb765, 0, none⟩ (.int .i64 t761)).setCell ⟨gb765, 1, none⟩ (.slice Ao56 t762.length co56)) = w63 at n0_ n1_ n2_ n3_ n4_ n5_ n6_ n7_ n8_ n9_ ⊢; clear hW_; have BK742 := n0_; have BK743 := n1_; have HO749 := n2_; have HO753 := n3_; have HO759 := n4_; have BK760 := n5_; have HO764 := n6_; have BK765 := n7_; have HB := n8_; have Zw63 := n9_; clear n0_ n1_ n2_ n3_ n4_ n5_ n6_ n7_ n8_ n9_; refine goesL_ (some 37) rfl rfl Try.func38 (by kernel_rfl) rfl #[.agg #[.int .i64 t756, .slice Ao48 t757.length co48], .agg #[.int .i64 t761, .slice Ao56 t762.length co56]] rfl (by (try simp only [List.map_toArray, List.map_cons, List.map_nil]); first | done | rfl) ?_; (with_reducible refine (impl_AreEqualZetas.calls k t756 _ _ t757 t761 _ _ t762 t766 t767 _ ?side1 ?side2 ?side3 ?side4 A24.out).mono ?_); (case side1 => exact (Kd.S_reads' HO759.out).2.2); (case side2 => (have e_ := Kd.S_reads' HO759.out; have e1_ := e_.1; have e2_ := e_.2.1; omega)); (case side3 => exact (Kd.S_reads' HO764.out).2.2); (case side4 => (have e_ := Kd.S_reads' HO764.out; have e1_ := e_.1; have e2_ := e_.2.1; omega)); rintro e w64 ⟨rfl, hb⟩; refine ⟨_, rfl, ?_⟩; have n0_ := Aside0.mk (blk_below (g := gb742) (o := .cells #[.int .i64 a0_0, .slice A0_1 l0_1.length c0_1] 33 (0, 0)) (by (with_reducible repeat (first | refine blk_drewN ?_ _ | refine blk_drew ?_ | refine blk_alloc ?_ _)); exact BK742.out) hb); have n1_ := Aside0.mk (blk_below (g := gb743) (o := .cells #[.int .i64 a1_0, .slice A1_1 l1_1.length c1_1] 33 (0, 0)) (by (with_reducible repeat (first | refine blk_drewN ?_ _ | refine blk_drew ?_ | refine blk_alloc ?_ _)); exact BK743.out) hb); have n2_ := Aside0.mk (Kd.S_below HO749.out hb); have n3_ := Aside0.mk (Kd.S_below HO753.out hb); have n4_ := Aside0.mk (Kd.S_below HO759.out hb); have n5_ := Aside0.mk (blk_below (g := gb760) (o := .cells #[.int .i64 t756, .slice Ao48 t757.length co48] 37 (0, 0)) (by (with_reducible repeat (first | refine blk_drewN ?_ _ | refine blk_drew ?_ | refine blk_alloc ?_ _)); exact BK760.out) hb); have n6_ := Aside0.mk (Kd.S_below HO764.out hb); have n7_ := Aside0.mk (blk_below (g := gb765) (o := .cells #[.int .i64 t761, .slice Ao56 t762.length co56] 37 (0, 0)) (by (with_reducible repeat (first | refine blk_drewN ?_ _ | refine blk_drew ?_ | refine blk_alloc ?_ _)); exact BK765.out) hb); have n8_ := Aside0.mk (below_step HB.out hb); have n9_ := Aside0.mk (hb.size); clear BK742; clear BK743; clear HO749; clear HO753; clear HO759; clear BK760; clear HO764; clear BK765; clear HB; have BK742 := n0_; have BK743 := n1_; have HO749 := n2_; have HO753 := n3_; have HO759 := n4_; have BK760 := n5_; have HO764 := n6_; have BK765 := n7_; have HB := n8_; have Zw64 := n9_; clear n0_ n1_ n2_ n3_ n4_ n5_ n6_ n7_ n8_ n9_; (try clear hb); (try clear hkp); (try clear hd_)))
              have n0_ := Aside0.mk ((show w64.heap.size ≤ w64.drew.heap.size from Nat.le_refl _))
              have n1_ := Aside0.mk (Kd.S_drew HO749.out)
              have n2_ := Aside0.mk (Kd.S_drew HO753.out)
              have n3_ := Aside0.mk (Kd.S_drew HO759.out)
              have n4_ := Aside0.mk (Kd.S_drew HO764.out)
              have n5_ := Aside0.mk (blk_drew BK742.out)
              have n6_ := Aside0.mk (blk_drew BK743.out)
              have n7_ := Aside0.mk (blk_drew BK760.out)
              have n8_ := Aside0.mk (blk_drew BK765.out)
              have n9_ := Aside0.mk (below_drew1 HB.out)
              clear HO749
              clear HO753
              clear HO759
              clear HO764
              clear BK742
              clear BK743
              clear BK760
              clear BK765
              clear HB
              have Zw65 := n0_
              have HO749 := n1_
              have HO753 := n2_
              have HO759 := n3_
              have HO764 := n4_
              have BK742 := n5_
              have BK743 := n6_
              have BK760 := n7_
              have BK765 := n8_
              have HB := n9_
              clear n0_ n1_ n2_ n3_ n4_ n5_ n6_ n7_ n8_ n9_
              refine start_ (n := 5) (S := fun w' => w'.cell? ⟨gb760, 0, none⟩ = some (.int .i64 t756) ∧ w'.cell? ⟨gb760, 1, none⟩ = some (.slice Ao48 t757.length co48) ∧ w'.cell? ⟨gb742, 0, none⟩ = some (.int .i64 a0_0) ∧ w'.cell? ⟨gb742, 1, none⟩ = some (.slice A0_1 l0_1.length c0_1)) (ds := []) #[false, false, false, false, false] (by kernel_rfl) rfl rfl ⟨(blk_cell BK760.out 0).trans rfl, (blk_cell BK760.out 1).trans rfl, (blk_cell BK742.out 0).trans rfl, (blk_cell BK742.out 1).trans rfl⟩ (fun hHeld => ?_)
              generalize w64.drew = w65 at HO749 HO753 HO759 HO764 BK742 BK743 BK760 BK765 HB Zw65 hHeld ⊢
              refine take_ (i := 0) (N := some 48) (v := ?_) (a' := ?_) #[true, false, false, false, false] rfl rfl (by kernel_rfl) (fun _ _ _ h => h) (Or.inl ⟨by rfl, ?_⟩) hHeld ?_ ?_
              rotate_left
              · rintro w' ⟨s0, s1, s2, s3⟩
                go_simp
                with_reducible rfl
              rotate_left
              · simp only [Act.put, List.setIfInBounds_toArray, List.set_cons_zero, List.set_cons_succ, i64_w, i32_w]
                rfl
              refine take_ (i := 1) (N := some 49) (v := ?_) (a' := ?_) #[true, true, false, false, false] rfl rfl (by kernel_rfl) (fun _ _ _ h => h) (Or.inl ⟨by rfl, ?_⟩) hHeld ?_ ?_
              rotate_left
              · rintro w' ⟨s0, s1, s2, s3⟩
                go_simp
                with_reducible rfl
              rotate_left
              · simp only [Act.put, List.setIfInBounds_toArray, List.set_cons_zero, List.set_cons_succ, i64_w, i32_w]
                rfl
              refine one_ (i := 2) (N := some 50) #[true, true, true, false, false] rfl rfl (by kernel_rfl) (by decide) (fun K hK => ?_)
              refine goes_ Try.func26 (by kernel_rfl) rfl #[.agg #[.int .i64 a0_0, .slice A0_1 l0_1.length c0_1]] (by rfl) rfl rfl (by (try simp only [List.map_toArray, List.map_cons, List.map_nil]); first | done | rfl | (simp only [List.length_drop, List.length_take]; rfl)) ?_
              with_reducible refine (laws_toGraph.calls k a0_0 _ _ l0_1 t768 t769 _ ?side1 ?side2 A27.out).mono ?_
              (case side1 => exact (Kd.C_below HR0_1.out HB.out))
              (case side2 => exact HC0_1.out)
              rintro e w66 ⟨v770, rfl, ho0, hb⟩
              refine ⟨_, rfl, ?_⟩
              have n0_ := Aside0.mk (blk_below (g := gb742) (o := .cells #[.int .i64 a0_0, .slice A0_1 l0_1.length c0_1] 33 (0, 0)) (by (with_reducible repeat (first | refine blk_drewN ?_ _ | refine blk_drew ?_ | refine blk_alloc ?_ _)); exact BK742.out) hb)
              have n1_ := Aside0.mk (blk_below (g := gb743) (o := .cells #[.int .i64 a1_0, .slice A1_1 l1_1.length c1_1] 33 (0, 0)) (by (with_reducible repeat (first | refine blk_drewN ?_ _ | refine blk_drew ?_ | refine blk_alloc ?_ _)); exact BK743.out) hb)
              have n2_ := Aside0.mk (Kd.S_below HO749.out hb)
              have n3_ := Aside0.mk (Kd.S_below HO753.out hb)
              have n4_ := Aside0.mk (Kd.S_below HO759.out hb)
              have n5_ := Aside0.mk (blk_below (g := gb760) (o := .cells #[.int .i64 t756, .slice Ao48 t757.length co48] 37 (0, 0)) (by (with_reducible repeat (first | refine blk_drewN ?_ _ | refine blk_drew ?_ | refine blk_alloc ?_ _)); exact BK760.out) hb)
              have n6_ := Aside0.mk (Kd.S_below HO764.out hb)
              have n7_ := Aside0.mk (blk_below (g := gb765) (o := .cells #[.int .i64 t761, .slice Ao56 t762.length co56] 37 (0, 0)) (by (with_reducible repeat (first | refine blk_drewN ?_ _ | refine blk_drew ?_ | refine blk_alloc ?_ _)); exact BK765.out) hb)
              have n8_ := Aside0.mk (Kd.S_lower (Kd.S_mono (Kd.S_bound ho0) (fun k_ hk_ => (⟨hk_.2.1, hk_.2.2.1⟩ : w65.heap.size ≤ k_ ∧ k_ < w66.heap.size))) HB.out.size)
              have n9_ := Aside0.mk (below_step HB.out hb)
              have n10_ := Aside0.mk (hb.size)
              clear BK742
              clear BK743
              clear HO749
              clear HO753
              clear HO759
              clear BK760
              clear HO764
              clear BK765
              clear HB
              have BK742 := n0_
              have BK743 := n1_
              have HO749 := n2_
              have HO753 := n3_
              have HO759 := n4_
              have BK760 := n5_
              have HO764 := n6_
              have BK765 := n7_
              have HO771 := n8_
              have HB := n9_
              have Zw66 := n10_
              clear n0_ n1_ n2_ n3_ n4_ n5_ n6_ n7_ n8_ n9_ n10_
              (try clear hb)
              (try clear hkp)
              (try clear hd_)
              (try clear ho0)
              obtain ⟨Ao67, co67, eo67⟩ := Kd.S_slice HO771.out
              subst eo67
              refine hK.out _ _ ⟨(blk_cell BK760.out 0).trans rfl, (blk_cell BK760.out 1).trans rfl, (blk_cell BK742.out 0).trans rfl, (blk_cell BK742.out 1).trans rfl⟩ (fun hHeld => ?_)
              clear hK K
              refine norm_ (a' := ?_) ?_ ?_
              rotate_left
              · show Act.put _ (some 50) _ = _
                simp only [Act.put, List.setIfInBounds_toArray, List.set_cons_zero, List.set_cons_succ, i64_w, i32_w]
                rfl
              refine one_ (i := 3) (N := some 51) #[true, true, true, true, false] rfl rfl (by kernel_rfl) (by decide) (fun K hK => ?_)
              refine goes_ Try.func28 (by kernel_rfl) rfl #[.agg #[.int .i64 t756, .slice Ao48 t757.length co48], .agg #[.int .i64 t768, .slice Ao67 t769.length co67]] (by rfl) rfl rfl (by (try simp only [List.map_toArray, List.map_cons, List.map_nil]); first | done | rfl | (simp only [List.length_drop, List.length_take]; rfl)) ?_
              with_reducible refine (laws_eqGraph.calls k t756 _ _ t757 t768 _ _ t769 true _ ?side1 ?side2 ?side3 ?side4 A28.out).mono ?_
              (case side1 => exact (Kd.S_reads' HO759.out).2.2)
              (case side2 => (have e_ := Kd.S_reads' HO759.out; have e1_ := e_.1; have e2_ := e_.2.1; omega))
              (case side3 => exact (Kd.S_reads' HO771.out).2.2)
              (case side4 => (have e_ := Kd.S_reads' HO771.out; have e1_ := e_.1; have e2_ := e_.2.1; omega))
              rintro e w68 ⟨rfl, hb⟩
              refine ⟨_, rfl, ?_⟩
              have n0_ := Aside0.mk (blk_below (g := gb742) (o := .cells #[.int .i64 a0_0, .slice A0_1 l0_1.length c0_1] 33 (0, 0)) (by (with_reducible repeat (first | refine blk_drewN ?_ _ | refine blk_drew ?_ | refine blk_alloc ?_ _)); exact BK742.out) hb)
              have n1_ := Aside0.mk (blk_below (g := gb743) (o := .cells #[.int .i64 a1_0, .slice A1_1 l1_1.length c1_1] 33 (0, 0)) (by (with_reducible repeat (first | refine blk_drewN ?_ _ | refine blk_drew ?_ | refine blk_alloc ?_ _)); exact BK743.out) hb)
              have n2_ := Aside0.mk (Kd.S_below HO749.out hb)
              have n3_ := Aside0.mk (Kd.S_below HO753.out hb)
              have n4_ := Aside0.mk (Kd.S_below HO759.out hb)
              have n5_ := Aside0.mk (blk_below (g := gb760) (o := .cells #[.int .i64 t756, .slice Ao48 t757.length co48] 37 (0, 0)) (by (with_reducible repeat (first | refine blk_drewN ?_ _ | refine blk_drew ?_ | refine blk_alloc ?_ _)); exact BK760.out) hb)
              have n6_ := Aside0.mk (Kd.S_below HO764.out hb)
              have n7_ := Aside0.mk (blk_below (g := gb765) (o := .cells #[.int .i64 t761, .slice Ao56 t762.length co56] 37 (0, 0)) (by (with_reducible repeat (first | refine blk_drewN ?_ _ | refine blk_drew ?_ | refine blk_alloc ?_ _)); exact BK765.out) hb)
              have n8_ := Aside0.mk (Kd.S_below HO771.out hb)
              have n9_ := Aside0.mk (below_step HB.out hb)
              have n10_ := Aside0.mk (hb.size)
              clear BK742
              clear BK743
              clear HO749
              clear HO753
              clear HO759
              clear BK760
              clear HO764
              clear BK765
              clear HO771
              clear HB
              have BK742 := n0_
              have BK743 := n1_
              have HO749 := n2_
              have HO753 := n3_
              have HO759 := n4_
              have BK760 := n5_
              have HO764 := n6_
              have BK765 := n7_
              have HO771 := n8_
              have HB := n9_
              have Zw68 := n10_
              clear n0_ n1_ n2_ n3_ n4_ n5_ n6_ n7_ n8_ n9_ n10_
              (try clear hb)
              (try clear hkp)
              (try clear hd_)
              refine hK.out _ _ ⟨(blk_cell BK760.out 0).trans rfl, (blk_cell BK760.out 1).trans rfl, (blk_cell BK742.out 0).trans rfl, (blk_cell BK742.out 1).trans rfl⟩ (fun hHeld => ?_)
              clear hK K
              refine norm_ (a' := ?_) ?_ ?_
              rotate_left
              · show Act.put _ (some 51) _ = _
                simp only [Act.put, List.setIfInBounds_toArray, List.set_cons_zero, List.set_cons_succ, i64_w, i32_w]
                rfl
              refine pure_ (i := 4) (N := some 52) (v := ?_) (a' := ?_) #[true, true, true, true, true] rfl rfl (by kernel_rfl) (fun _ _ _ h => h) (Or.inl ⟨by rfl, ?_⟩) ?_ ?_
              rotate_left
              · intro w'
                go_simp
                with_reducible rfl
              rotate_left
              · simp only [Act.put, List.setIfInBounds_toArray, List.set_cons_zero, List.set_cons_succ, i64_w, i32_w]
                rfl
              refine done_ (by kernel_rfl) ?_
              try go_wp2
              have n0_ := Aside0.mk ((show w68.heap.size ≤ w68.drew.heap.size from Nat.le_refl _))
              have n1_ := Aside0.mk (Kd.S_drew HO749.out)
              have n2_ := Aside0.mk (Kd.S_drew HO753.out)
              have n3_ := Aside0.mk (Kd.S_drew HO759.out)
              have n4_ := Aside0.mk (Kd.S_drew HO764.out)
              have n5_ := Aside0.mk (Kd.S_drew HO771.out)
              have n6_ := Aside0.mk (blk_drew BK742.out)
              have n7_ := Aside0.mk (blk_drew BK743.out)
              have n8_ := Aside0.mk (blk_drew BK760.out)
              have n9_ := Aside0.mk (blk_drew BK765.out)
              have n10_ := Aside0.mk (below_drew1 HB.out)
              clear HO749
              clear HO753
              clear HO759
              clear HO764
              clear HO771
              clear BK742
              clear BK743
              clear BK760
              clear BK765
              clear HB
              have Zw69 := n0_
              have HO749 := n1_
              have HO753 := n2_
              have HO759 := n3_
              have HO764 := n4_
              have HO771 := n5_
              have BK742 := n6_
              have BK743 := n7_
              have BK760 := n8_
              have BK765 := n9_
              have HB := n10_
              clear n0_ n1_ n2_ n3_ n4_ n5_ n6_ n7_ n8_ n9_ n10_
              refine start_ (n := 5) (S := fun w' => w'.cell? ⟨gb765, 0, none⟩ = some (.int .i64 t761) ∧ w'.cell? ⟨gb765, 1, none⟩ = some (.slice Ao56 t762.length co56) ∧ w'.cell? ⟨gb743, 0, none⟩ = some (.int .i64 a1_0) ∧ w'.cell? ⟨gb743, 1, none⟩ = some (.slice A1_1 l1_1.length c1_1)) (ds := []) #[false, false, false, false, false] (by kernel_rfl) rfl rfl ⟨(blk_cell BK765.out 0).trans rfl, (blk_cell BK765.out 1).trans rfl, (blk_cell BK743.out 0).trans rfl, (blk_cell BK743.out 1).trans rfl⟩ (fun hHeld => ?_)
              generalize w68.drew = w69 at HO749 HO753 HO759 HO764 HO771 BK742 BK743 BK760 BK765 HB Zw69 hHeld ⊢
              refine take_ (i := 0) (N := some 53) (v := ?_) (a' := ?_) #[true, false, false, false, false] rfl rfl (by kernel_rfl) (fun _ _ _ h => h) (Or.inl ⟨by rfl, ?_⟩) hHeld ?_ ?_
              rotate_left
              · rintro w' ⟨s0, s1, s2, s3⟩
                go_simp
                with_reducible rfl
              rotate_left
              · simp only [Act.put, List.setIfInBounds_toArray, List.set_cons_zero, List.set_cons_succ, i64_w, i32_w]
                rfl
              refine take_ (i := 1) (N := some 54) (v := ?_) (a' := ?_) #[true, true, false, false, false] rfl rfl (by kernel_rfl) (fun _ _ _ h => h) (Or.inl ⟨by rfl, ?_⟩) hHeld ?_ ?_
              rotate_left
              · rintro w' ⟨s0, s1, s2, s3⟩
                go_simp
                with_reducible rfl
              rotate_left
              · simp only [Act.put, List.setIfInBounds_toArray, List.set_cons_zero, List.set_cons_succ, i64_w, i32_w]
                rfl
              refine one_ (i := 2) (N := some 55) #[true, true, true, false, false] rfl rfl (by kernel_rfl) (by decide) (fun K hK => ?_)
              refine goes_ Try.func26 (by kernel_rfl) rfl #[.agg #[.int .i64 a1_0, .slice A1_1 l1_1.length c1_1]] (by rfl) rfl rfl (by (try simp only [List.map_toArray, List.map_cons, List.map_nil]); first | done | rfl | (simp only [List.length_drop, List.length_take]; rfl)) ?_
              with_reducible refine (laws_toGraph.calls k a1_0 _ _ l1_1 t773 t774 _ ?side1 ?side2 A30.out).mono ?_
              (case side1 => exact (Kd.C_below HR1_1.out HB.out))
              (case side2 => exact HC1_1.out)
              rintro e w70 ⟨v775, rfl, ho0, hb⟩
              refine ⟨_, rfl, ?_⟩
              have n0_ := Aside0.mk (blk_below (g := gb742) (o := .cells #[.int .i64 a0_0, .slice A0_1 l0_1.length c0_1] 33 (0, 0)) (by (with_reducible repeat (first | refine blk_drewN ?_ _ | refine blk_drew ?_ | refine blk_alloc ?_ _)); exact BK742.out) hb)
              have n1_ := Aside0.mk (blk_below (g := gb743) (o := .cells #[.int .i64 a1_0, .slice A1_1 l1_1.length c1_1] 33 (0, 0)) (by (with_reducible repeat (first | refine blk_drewN ?_ _ | refine blk_drew ?_ | refine blk_alloc ?_ _)); exact BK743.out) hb)
              have n2_ := Aside0.mk (Kd.S_below HO749.out hb)
              have n3_ := Aside0.mk (Kd.S_below HO753.out hb)
              have n4_ := Aside0.mk (Kd.S_below HO759.out hb)
              have n5_ := Aside0.mk (blk_below (g := gb760) (o := .cells #[.int .i64 t756, .slice Ao48 t757.length co48] 37 (0, 0)) (by (with_reducible repeat (first | refine blk_drewN ?_ _ | refine blk_drew ?_ | refine blk_alloc ?_ _)); exact BK760.out) hb)
              have n6_ := Aside0.mk (Kd.S_below HO764.out hb)
              have n7_ := Aside0.mk (blk_below (g := gb765) (o := .cells #[.int .i64 t761, .slice Ao56 t762.length co56] 37 (0, 0)) (by (with_reducible repeat (first | refine blk_drewN ?_ _ | refine blk_drew ?_ | refine blk_alloc ?_ _)); exact BK765.out) hb)
              have n8_ := Aside0.mk (Kd.S_below HO771.out hb)
              have n9_ := Aside0.mk (Kd.S_lower (Kd.S_mono (Kd.S_bound ho0) (fun k_ hk_ => (⟨hk_.2.1, hk_.2.2.1⟩ : w69.heap.size ≤ k_ ∧ k_ < w70.heap.size))) HB.out.size)
              have n10_ := Aside0.mk (below_step HB.out hb)
              have n11_ := Aside0.mk (hb.size)
              clear BK742
              clear BK743
              clear HO749
              clear HO753
              clear HO759
              clear BK760
              clear HO764
              clear BK765
              clear HO771
              clear HB
              have BK742 := n0_
              have BK743 := n1_
              have HO749 := n2_
              have HO753 := n3_
              have HO759 := n4_
              have BK760 := n5_
              have HO764 := n6_
              have BK765 := n7_
              have HO771 := n8_
              have HO776 := n9_
              have HB := n10_
              have Zw70 := n11_
              clear n0_ n1_ n2_ n3_ n4_ n5_ n6_ n7_ n8_ n9_ n10_ n11_
              (try clear hb)
              (try clear hkp)
              (try clear hd_)
              (try clear ho0)
              obtain ⟨Ao71, co71, eo71⟩ := Kd.S_slice HO776.out
              subst eo71
              refine hK.out _ _ ⟨(blk_cell BK765.out 0).trans rfl, (blk_cell BK765.out 1).trans rfl, (blk_cell BK743.out 0).trans rfl, (blk_cell BK743.out 1).trans rfl⟩ (fun hHeld => ?_)
              clear hK K
              refine norm_ (a' := ?_) ?_ ?_
              rotate_left
              · show Act.put _ (some 55) _ = _
                simp only [Act.put, List.setIfInBounds_toArray, List.set_cons_zero, List.set_cons_succ, i64_w, i32_w]
                rfl
              refine one_ (i := 3) (N := some 56) #[true, true, true, true, false] rfl rfl (by kernel_rfl) (by decide) (fun K hK => ?_)
              refine goes_ Try.func28 (by kernel_rfl) rfl #[.agg #[.int .i64 t761, .slice Ao56 t762.length co56], .agg #[.int .i64 t773, .slice Ao71 t774.length co71]] (by rfl) rfl rfl (by (try simp only [List.map_toArray, List.map_cons, List.map_nil]); first | done | rfl | (simp only [List.length_drop, List.length_take]; rfl)) ?_
              with_reducible refine (laws_eqGraph.calls k t761 _ _ t762 t773 _ _ t774 true _ ?side1 ?side2 ?side3 ?side4 A31.out).mono ?_
              (case side1 => exact (Kd.S_reads' HO764.out).2.2)
              (case side2 => (have e_ := Kd.S_reads' HO764.out; have e1_ := e_.1; have e2_ := e_.2.1; omega))
              (case side3 => exact (Kd.S_reads' HO776.out).2.2)
              (case side4 => (have e_ := Kd.S_reads' HO776.out; have e1_ := e_.1; have e2_ := e_.2.1; omega))
              rintro e w72 ⟨rfl, hb⟩
              refine ⟨_, rfl, ?_⟩
              have n0_ := Aside0.mk (blk_below (g := gb742) (o := .cells #[.int .i64 a0_0, .slice A0_1 l0_1.length c0_1] 33 (0, 0)) (by (with_reducible repeat (first | refine blk_drewN ?_ _ | refine blk_drew ?_ | refine blk_alloc ?_ _)); exact BK742.out) hb)
              have n1_ := Aside0.mk (blk_below (g := gb743) (o := .cells #[.int .i64 a1_0, .slice A1_1 l1_1.length c1_1] 33 (0, 0)) (by (with_reducible repeat (first | refine blk_drewN ?_ _ | refine blk_drew ?_ | refine blk_alloc ?_ _)); exact BK743.out) hb)
              have n2_ := Aside0.mk (Kd.S_below HO749.out hb)
              have n3_ := Aside0.mk (Kd.S_below HO753.out hb)
              have n4_ := Aside0.mk (Kd.S_below HO759.out hb)
              have n5_ := Aside0.mk (blk_below (g := gb760) (o := .cells #[.int .i64 t756, .slice Ao48 t757.length co48] 37 (0, 0)) (by (with_reducible repeat (first | refine blk_drewN ?_ _ | refine blk_drew ?_ | refine blk_alloc ?_ _)); exact BK760.out) hb)
              have n6_ := Aside0.mk (Kd.S_below HO764.out hb)
              have n7_ := Aside0.mk (blk_below (g := gb765) (o := .cells #[.int .i64 t761, .slice Ao56 t762.length co56] 37 (0, 0)) (by (with_reducible repeat (first | refine blk_drewN ?_ _ | refine blk_drew ?_ | refine blk_alloc ?_ _)); exact BK765.out) hb)
              have n8_ := Aside0.mk (Kd.S_below HO771.out hb)
              have n9_ := Aside0.mk (Kd.S_below HO776.out hb)
              have n10_ := Aside0.mk (below_step HB.out hb)
              have n11_ := Aside0.mk (hb.size)
              clear BK742
              clear BK743
              clear HO749
              clear HO753
              clear HO759
              clear BK760
              clear HO764
              clear BK765
              clear HO771
              clear HO776
              clear HB
              have BK742 := n0_
              have BK743 := n1_
              have HO749 := n2_
              have HO753 := n3_
              have HO759 := n4_
              have BK760 := n5_
              have HO764 := n6_
              have BK765 := n7_
              have HO771 := n8_
              have HO776 := n9_
              have HB := n10_
              have Zw72 := n11_
              clear n0_ n1_ n2_ n3_ n4_ n5_ n6_ n7_ n8_ n9_ n10_ n11_
              (try clear hb)
              (try clear hkp)
              (try clear hd_)
              refine hK.out _ _ ⟨(blk_cell BK765.out 0).trans rfl, (blk_cell BK765.out 1).trans rfl, (blk_cell BK743.out 0).trans rfl, (blk_cell BK743.out 1).trans rfl⟩ (fun hHeld => ?_)
              clear hK K
              refine norm_ (a' := ?_) ?_ ?_
              rotate_left
              · show Act.put _ (some 56) _ = _
                simp only [Act.put, List.setIfInBounds_toArray, List.set_cons_zero, List.set_cons_succ, i64_w, i32_w]
                rfl
              refine pure_ (i := 4) (N := some 57) (v := ?_) (a' := ?_) #[true, true, true, true, true] rfl rfl (by kernel_rfl) (fun _ _ _ h => h) (Or.inl ⟨by rfl, ?_⟩) ?_ ?_
              rotate_left
              · intro w'
                go_simp
                with_reducible rfl
              rotate_left
              · simp only [Act.put, List.setIfInBounds_toArray, List.set_cons_zero, List.set_cons_succ, i64_w, i32_w]
                rfl
              refine done_ (by kernel_rfl) ?_
              try go_wp2
              go_ret
              exact ⟨by first | rfl | (simp [errW_none, errW_some] <;> rfl) | (simp [*, errW_none, errW_some] <;> rfl), by repeat (first | (with_reducible first | exact HB.out | apply below_alloc | apply pw_below_drewN | apply below_drew1 | refine below_set ?_ GE742.out | refine below_set ?_ GE743.out | refine below_set ?_ GE760.out | refine below_set ?_ GE765.out) | exact HB.out)⟩
            · replace c32 := Bool.eq_false_iff.mpr c32
              subst c32
              have H1 : (some false) = some true := by rw [if_neg (show ¬ (false = true) by decide)] at H; exact H
              clear H
              have H := H1
              clear H1
              exact absurd H (by simp)
          · replace c29 := Bool.eq_false_iff.mpr c29
            subst c29
            have H1 : (some false) = some true := by rw [if_neg (show ¬ (false = true) by decide)] at H; exact H
            clear H
            have H := H1
            clear H1
            exact absurd H (by simp)
        · rw [if_neg c26] at H
          have c26b0 : (t767 == t755) = false := beq_eq_false_iff_ne.mpr c26
          have c26b1 : (t767 != t755) = true := bne_iff_ne.mpr c26
          exact absurd H (by simp)

/-- THE ONE PURE STATEMENT of laws_FnExactAreEqualZetas: yours. -/
def laws_FnExactAreEqualZetas.Pure : Prop := ∀ (a0_0 : Int) (l0_1 : List (List Int)) (a1_0 : Int) (l1_1 : List (List Int)), (Lit.int .i64 a0_0).wf = true → l0_1.length ≤ maxLen → (∀ r ∈ l0_1, r.length ≤ maxLen ∧ ∀ y ∈ r, (Lit.int .i64 y).wf = true) → (Lit.int .i64 a1_0).wf = true → l1_1.length ≤ maxLen → (∀ r ∈ l1_1, r.length ≤ maxLen ∧ ∀ y ∈ r, (Lit.int .i64 y).wf = true) → ∃ k, laws_FnExactAreEqualZetas.f k a0_0 l0_1 a1_0 l1_1 = some true
theorem laws_FnExactAreEqualZetas.walk (P : laws_FnExactAreEqualZetas.Pure) (a0_0 : Int) (A0_1 : Option Addr) (c0_1 : Nat) (l0_1 : List (List Int)) (a1_0 : Int) (A1_1 : Option Addr) (c1_1 : Nat) (l1_1 : List (List Int)) (w : World) (hw0_0 : (Lit.int .i64 a0_0).wf = true) (hm0_1 : l0_1.length ≤ maxLen) (hw0_1 : (∀ r ∈ l0_1, r.length ≤ maxLen ∧ ∀ y ∈ r, (Lit.int .i64 y).wf = true)) (hr0_1 : Kd.C (Kd.slice 2 (Kd.int .i64)) w A0_1 l0_1.length l0_1) (hc0_1 : l0_1.length ≤ c0_1) (hw1_0 : (Lit.int .i64 a1_0).wf = true) (hm1_1 : l1_1.length ≤ maxLen) (hw1_1 : (∀ r ∈ l1_1, r.length ≤ maxLen ∧ ∀ y ∈ r, (Lit.int .i64 y).wf = true)) (hr1_1 : Kd.C (Kd.slice 2 (Kd.int .i64)) w A1_1 l1_1.length l1_1) (hc1_1 : l1_1.length ≤ c1_1) :
    Calls Try.prog 8 #[.agg #[.int .i64 a0_0, .slice A0_1 l0_1.length c0_1], .agg #[.int .i64 a1_0, .slice A1_1 l1_1.length c1_1]] w fun e w' => e = .returned (.bool true) ∧ Below w.heap.size w w' := by
  obtain ⟨k, h⟩ := P a0_0 l0_1 a1_0 l1_1 hw0_0 hm0_1 hw0_1 hw1_0 hm1_1 hw1_1
  refine (laws_FnExactAreEqualZetas.calls k a0_0 _ _ l0_1 a1_0 _ _ l1_1 w hr0_1 hc0_1 hr1_1 hc1_1 h).mono ?_
  rintro e w' ⟨rfl, hd⟩
  exact ⟨rfl, hd⟩

end Go.Proofs.Yteeoehohocoecaa.G
