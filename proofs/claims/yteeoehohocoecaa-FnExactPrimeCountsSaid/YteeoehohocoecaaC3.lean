/- The printed functions that this law reaches, and their contracts: part 3. -/
-- printed by this repo's wip/printer out of the kit's print with its own changes
import Derived.Test.YteeoehohocoecaaC2
namespace Go.Proofs.Yteeoehohocoecaa.G
open Go.RowKit Go.Proofs.YteeoehohocoecaaW.PrintWords Go.Proofs.YteeoehohocoecaaW.PrintLast Go.Proofs.YteeoehohocoecaaW.PrintMore
attribute [local go_sem] max2_int min2_int max_two min_two max_three min_three max_four min_four   -- for this text's walks alone
set_option linter.unusedVariables false
set_option linter.unusedSimpArgs false

/-! ### impl_graphCode_at_StraightCounts_1: function 100006 -/
def impl_graphCode_at_StraightCounts_1.f (k : Nat) (a0_0 : Int) (l0_1 : List (List Int)) (a1_0 : Int) : Option (Int) := (impl_IsGraph.f k a0_0 l0_1).bind fun t675 => (if t675 = true then ((impl_StraightCounts_1.f a1_0).bind fun t676 => (if t676 = true then (some 0) else (some 2))) else (some 1))
theorem impl_graphCode_at_StraightCounts_1.mono : ∀ a0 a1 a2 k, LeO (impl_graphCode_at_StraightCounts_1.f k a0 a1 a2) (impl_graphCode_at_StraightCounts_1.f (k + 1) a0 a1 a2) := by
 intro a0 a1 a2 k
 unfold impl_graphCode_at_StraightCounts_1.f
 repeat' first
   | (with_reducible exact impl_IsGraph.mono _ _ _)
   | (with_reducible exact LeO.refl _)
   | (with_reducible exact LeO.none _)
   | (with_reducible refine LeO.ite ?_ ?_)
   | (with_reducible refine LeO.bind ?_ (fun _ => ?_))
set_option maxHeartbeats 8000000 in
set_option maxRecDepth 100000 in
theorem impl_graphCode_at_StraightCounts_1.calls (k : Nat) (a0_0 : Int) (A0_1 : Option Addr) (c0_1 : Nat) (l0_1 : List (List Int)) (gq1_0 : Nat) (a1_0 : Int) (r : Int) (w : World) (hr0_1 : Kd.C (Kd.slice 2 (Kd.int .i64)) w A0_1 l0_1.length l0_1) (hc0_1 : l0_1.length ≤ c0_1) (hbgq1_0 : w.heap[gq1_0]? = some (.cells #[.int .i64 a1_0] 2 (0, 0))) (h : impl_graphCode_at_StraightCounts_1.f k a0_0 l0_1 a1_0 = some r) :
  Calls Try.prog 65 #[.agg #[.int .i64 a0_0, .slice A0_1 l0_1.length c0_1], .func (.func 82) #[] #[.pointer (some ⟨gq1_0, 0, none⟩)]] w fun e w' => e = .returned (.int .i64 r) ∧ Below w.heap.size w w' := by
 have hu37 := Try.underlying37
 have HR0_1 := Aside0.mk hr0_1
 have HC0_1 := Aside0.mk hc0_1
 clear hr0_1 hc0_1
 have BK673 := Aside0.mk hbgq1_0
 clear hbgq1_0
 have HB := Aside0.mk (Below.refl w.heap.size w)
 have H : ((impl_IsGraph.f k a0_0 l0_1).bind fun t675 => (if t675 = true then ((impl_StraightCounts_1.f a1_0).bind fun t676 => (if t676 = true then (some 0) else (some 2))) else (some 1))) = some r := h
 clear h
 replace H := Option.bind_eq_some_iff.mp H
 obtain ⟨t675, A30, H⟩ := H
 replace H : (if t675 = true then ((impl_StraightCounts_1.f a1_0).bind fun t676 => (if t676 = true then (some 0) else (some 2))) else (some 1)) = some r := H
 have A3 := Aside0.mk A30
 clear A30
 by_cases c4 : t675 = true
 ·subst c4
  have H1 : ((impl_StraightCounts_1.f a1_0).bind fun t676 => (if t676 = true then (some 0) else (some 2))) = some r := by rw [if_pos rfl] at H; exact H
  clear H
  have H := H1
  clear H1
  replace H := Option.bind_eq_some_iff.mp H
  obtain ⟨t676, A50, H⟩ := H
  replace H : (if t676 = true then (some 0) else (some 2)) = some r := H
  have A5 := Aside0.mk A50
  clear A50
  by_cases c6 : t676 = true
  ·subst c6
   have H1 : (some 0) = some r := by rw [if_pos rfl] at H; exact H
   clear H
   have H := H1
   clear H1
   obtain rfl := Option.some.inj H
   go_enter Try.func65, Try.ntmps65
   go_wp2_with (first | ((with_reducible refine gate_dst (N := 2) rfl ?_); refine box_event ?hg (N := 2) ?hd (cs := #[.int .i64 a0_0, .slice A0_1 l0_1.length c0_1]) (t := 37) ?hr ?_; (case hd => rfl); (case hg => rfl); (case hr => first | (go_simp; done) | (go_simp; rfl)); intro gb674 hg w7 hbox hb; have n0_ := Aside0.mk (blk_below (g := gq1_0) (o := .cells #[.int .i64 a1_0] 2 (0, 0)) (by (with_reducible repeat (first | refine blk_drewN ?_ _ | refine blk_drew ?_ | refine blk_alloc ?_ _)); exact BK673.out) hb); have n1_ := Aside0.mk (below_step (by repeat (first | (with_reducible first | exact HB.out | apply below_alloc | apply pw_below_drewN | apply below_drew1 | refine below_set ?_ GE673.out) | exact HB.out)) hb); have n2_ := Aside0.mk (hbox); have n3_ := Aside0.mk ((by rw [hg]; exact (below_size (by repeat (first | (with_reducible first | exact HB.out | apply below_alloc | apply pw_below_drewN | apply below_drew1 | refine below_set ?_ GE673.out) | exact HB.out))) : w.heap.size ≤ gb674)); have n4_ := Aside0.mk ((by rw [hg]; exact (below_size (by repeat (first | (with_reducible first | exact HB.out | apply below_alloc | apply pw_below_drewN | apply below_drew1 | refine below_set ?_ GE673.out) | exact HB.out))) : w.heap.size ≤ gb674)); have n5_ := Aside0.mk ((by rw [hg]; exact Nat.ne_of_lt (blk_lt (g := gq1_0) (o := .cells #[.int .i64 a1_0] 2 (0, 0)) (by (with_reducible repeat (first | refine blk_drewN ?_ _ | refine blk_drew ?_ | refine blk_alloc ?_ _)); exact BK673.out)) : gq1_0 ≠ gb674)); have n6_ := Aside0.mk ((by rw [hg]; exact Nat.ne_of_gt (blk_lt (g := gq1_0) (o := .cells #[.int .i64 a1_0] 2 (0, 0)) (by (with_reducible repeat (first | refine blk_drewN ?_ _ | refine blk_drew ?_ | refine blk_alloc ?_ _)); exact BK673.out)) : gb674 ≠ gq1_0)); clear BK673; clear HB; have BK673 := n0_; have HB := n1_; have BK674 := n2_; have GW674 := n3_; have GE674 := n4_; have NB673_674 := n5_; have NB674_673 := n6_; clear n0_ n1_ n2_ n3_ n4_ n5_ n6_; clear hb hbox hg; have hnb8 := NB674_673.out; have hnc8 := NB673_674.out; have hcz9_0 : w7.cell? ⟨gb674, 0, none⟩ = some (.int .i64 a0_0) := (blk_cell BK674.out 0).trans rfl; have hcz9_1 : w7.cell? ⟨gb674, 1, none⟩ = some (.slice A0_1 l0_1.length c0_1) := (blk_cell BK674.out 1).trans rfl; have hfz9_0 := blk_frozen BK674.out 0; have hfz9_1 := blk_frozen BK674.out 1) | ((with_reducible refine gate_callee (f := 61) rfl ?_); refine goesL_ (some 7) rfl rfl Try.func61 (by kernel_rfl) rfl #[.agg #[.int .i64 a0_0, .slice A0_1 l0_1.length c0_1]] rfl (by (try simp only [List.map_toArray, List.map_cons, List.map_nil]); first | done | rfl | (simp only [List.length_drop, List.length_take]; rfl)) ?_; (with_reducible refine (impl_IsGraph.calls k a0_0 _ _ l0_1 true _ ?side1 ?side2 A3.out).mono ?_); (case side1 => repeat (first | exact (Kd.C_below HR0_1.out HB.out) | (with_reducible refine Kd.C_alloc ?_ _) | (with_reducible refine Kd.C_drewN ?_ _) | (with_reducible refine Kd.C_drew ?_))); (case side2 => exact HC0_1.out); rintro e w10 ⟨rfl, hb⟩; refine ⟨_, rfl, ?_⟩; have n0_ := Aside0.mk (blk_below (g := gq1_0) (o := .cells #[.int .i64 a1_0] 2 (0, 0)) (by (with_reducible repeat (first | refine blk_drewN ?_ _ | refine blk_drew ?_ | refine blk_alloc ?_ _)); exact BK673.out) hb); have n1_ := Aside0.mk (blk_below (g := gb674) (o := .cells #[.int .i64 a0_0, .slice A0_1 l0_1.length c0_1] 37 (0, 0)) (by (with_reducible repeat (first | refine blk_drewN ?_ _ | refine blk_drew ?_ | refine blk_alloc ?_ _)); exact BK674.out) hb); have n2_ := Aside0.mk (below_step (by repeat (first | (with_reducible first | exact HB.out | apply below_alloc | apply pw_below_drewN | apply below_drew1 | refine below_set ?_ GE673.out | refine below_set ?_ GE674.out) | exact HB.out)) hb); clear BK673; clear BK674; clear HB; have BK673 := n0_; have BK674 := n1_; have HB := n2_; clear n0_ n1_ n2_; (try clear hb); (try clear hb2); (try clear hk); (try clear hi)) | ((with_reducible refine gate_fn (t := 10) rfl ?_); refine goesF_ (some 11) rfl rfl Try.func82 (by kernel_rfl) rfl (lb := #[.pointer (some ⟨gq1_0, 0, none⟩)]) #[.pointer (some ⟨gq1_0, 0, none⟩)] rfl (by first | rfl | (simp; done)) (by (try simp only [List.map_toArray, List.map_cons, List.map_nil, List.append_toArray, List.cons_append, List.nil_append]); first | done | rfl | (simp only [List.length_drop, List.length_take]; rfl)) ?_; (with_reducible refine (impl_StraightCounts_1.calls gq1_0 a1_0 true _ ?side1 A5.out).mono ?_); (case side1 => exact (by (with_reducible repeat (first | refine blk_drewN ?_ _ | refine blk_drew ?_ | refine blk_alloc ?_ _)); exact BK673.out)); rintro e w11 ⟨rfl, hb⟩; refine ⟨_, rfl, ?_⟩; have n0_ := Aside0.mk (blk_below (g := gq1_0) (o := .cells #[.int .i64 a1_0] 2 (0, 0)) (by (with_reducible repeat (first | refine blk_drewN ?_ _ | refine blk_drew ?_ | refine blk_alloc ?_ _)); exact BK673.out) hb); have n1_ := Aside0.mk (blk_below (g := gb674) (o := .cells #[.int .i64 a0_0, .slice A0_1 l0_1.length c0_1] 37 (0, 0)) (by (with_reducible repeat (first | refine blk_drewN ?_ _ | refine blk_drew ?_ | refine blk_alloc ?_ _)); exact BK674.out) hb); have n2_ := Aside0.mk (below_step (by repeat (first | (with_reducible first | exact HB.out | apply below_alloc | apply pw_below_drewN | apply below_drew1 | refine below_set ?_ GE673.out | refine below_set ?_ GE674.out) | exact HB.out)) hb); clear BK673; clear BK674; clear HB; have BK673 := n0_; have BK674 := n1_; have HB := n2_; clear n0_ n1_ n2_; (try clear hb); (try clear hb2); (try clear hk); (try clear hi)))
   go_ret
   exact ⟨by first | rfl | (simp [errW_none, errW_some] <;> rfl) | (simp [*, errW_none, errW_some] <;> rfl), by repeat (first | (with_reducible first | exact HB.out | apply below_alloc | apply pw_below_drewN | apply below_drew1 | refine below_set ?_ GE673.out | refine below_set ?_ GE674.out) | exact HB.out)⟩
  ·replace c6 := Bool.eq_false_iff.mpr c6
   subst c6
   have H1 : (some 2) = some r := by rw [if_neg (show ¬ (false = true) by decide)] at H; exact H
   clear H
   have H := H1
   clear H1
   obtain rfl := Option.some.inj H
   go_enter Try.func65, Try.ntmps65
   go_wp2_with (first | ((with_reducible refine gate_dst (N := 2) rfl ?_); refine box_event ?hg (N := 2) ?hd (cs := #[.int .i64 a0_0, .slice A0_1 l0_1.length c0_1]) (t := 37) ?hr ?_; (case hd => rfl); (case hg => rfl); (case hr => first | (go_simp; done) | (go_simp; rfl)); intro gb674 hg w12 hbox hb; have n0_ := Aside0.mk (blk_below (g := gq1_0) (o := .cells #[.int .i64 a1_0] 2 (0, 0)) (by (with_reducible repeat (first | refine blk_drewN ?_ _ | refine blk_drew ?_ | refine blk_alloc ?_ _)); exact BK673.out) hb); have n1_ := Aside0.mk (below_step (by repeat (first | (with_reducible first | exact HB.out | apply below_alloc | apply pw_below_drewN | apply below_drew1 | refine below_set ?_ GE673.out) | exact HB.out)) hb); have n2_ := Aside0.mk (hbox); have n3_ := Aside0.mk ((by rw [hg]; exact (below_size (by repeat (first | (with_reducible first | exact HB.out | apply below_alloc | apply pw_below_drewN | apply below_drew1 | refine below_set ?_ GE673.out) | exact HB.out))) : w.heap.size ≤ gb674)); have n4_ := Aside0.mk ((by rw [hg]; exact (below_size (by repeat (first | (with_reducible first | exact HB.out | apply below_alloc | apply pw_below_drewN | apply below_drew1 | refine below_set ?_ GE673.out) | exact HB.out))) : w.heap.size ≤ gb674)); have n5_ := Aside0.mk ((by rw [hg]; exact Nat.ne_of_lt (blk_lt (g := gq1_0) (o := .cells #[.int .i64 a1_0] 2 (0, 0)) (by (with_reducible repeat (first | refine blk_drewN ?_ _ | refine blk_drew ?_ | refine blk_alloc ?_ _)); exact BK673.out)) : gq1_0 ≠ gb674)); have n6_ := Aside0.mk ((by rw [hg]; exact Nat.ne_of_gt (blk_lt (g := gq1_0) (o := .cells #[.int .i64 a1_0] 2 (0, 0)) (by (with_reducible repeat (first | refine blk_drewN ?_ _ | refine blk_drew ?_ | refine blk_alloc ?_ _)); exact BK673.out)) : gb674 ≠ gq1_0)); clear BK673; clear HB; have BK673 := n0_; have HB := n1_; have BK674 := n2_; have GW674 := n3_; have GE674 := n4_; have NB673_674 := n5_; have NB674_673 := n6_; clear n0_ n1_ n2_ n3_ n4_ n5_ n6_; clear hb hbox hg; have hnb13 := NB674_673.out; have hnc13 := NB673_674.out; have hcz14_0 : w12.cell? ⟨gb674, 0, none⟩ = some (.int .i64 a0_0) := (blk_cell BK674.out 0).trans rfl; have hcz14_1 : w12.cell? ⟨gb674, 1, none⟩ = some (.slice A0_1 l0_1.length c0_1) := (blk_cell BK674.out 1).trans rfl; have hfz14_0 := blk_frozen BK674.out 0; have hfz14_1 := blk_frozen BK674.out 1) | ((with_reducible refine gate_callee (f := 61) rfl ?_); refine goesL_ (some 7) rfl rfl Try.func61 (by kernel_rfl) rfl #[.agg #[.int .i64 a0_0, .slice A0_1 l0_1.length c0_1]] rfl (by (try simp only [List.map_toArray, List.map_cons, List.map_nil]); first | done | rfl | (simp only [List.length_drop, List.length_take]; rfl)) ?_; (with_reducible refine (impl_IsGraph.calls k a0_0 _ _ l0_1 true _ ?side1 ?side2 A3.out).mono ?_); (case side1 => repeat (first | exact (Kd.C_below HR0_1.out HB.out) | (with_reducible refine Kd.C_alloc ?_ _) | (with_reducible refine Kd.C_drewN ?_ _) | (with_reducible refine Kd.C_drew ?_))); (case side2 => exact HC0_1.out); rintro e w15 ⟨rfl, hb⟩; refine ⟨_, rfl, ?_⟩; have n0_ := Aside0.mk (blk_below (g := gq1_0) (o := .cells #[.int .i64 a1_0] 2 (0, 0)) (by (with_reducible repeat (first | refine blk_drewN ?_ _ | refine blk_drew ?_ | refine blk_alloc ?_ _)); exact BK673.out) hb); have n1_ := Aside0.mk (blk_below (g := gb674) (o := .cells #[.int .i64 a0_0, .slice A0_1 l0_1.length c0_1] 37 (0, 0)) (by (with_reducible repeat (first | refine blk_drewN ?_ _ | refine blk_drew ?_ | refine blk_alloc ?_ _)); exact BK674.out) hb); have n2_ := Aside0.mk (below_step (by repeat (first | (with_reducible first | exact HB.out | apply below_alloc | apply pw_below_drewN | apply below_drew1 | refine below_set ?_ GE673.out | refine below_set ?_ GE674.out) | exact HB.out)) hb); clear BK673; clear BK674; clear HB; have BK673 := n0_; have BK674 := n1_; have HB := n2_; clear n0_ n1_ n2_; (try clear hb); (try clear hb2); (try clear hk); (try clear hi)) | ((with_reducible refine gate_fn (t := 10) rfl ?_); refine goesF_ (some 11) rfl rfl Try.func82 (by kernel_rfl) rfl (lb := #[.pointer (some ⟨gq1_0, 0, none⟩)]) #[.pointer (some ⟨gq1_0, 0, none⟩)] rfl (by first | rfl | (simp; done)) (by (try simp only [List.map_toArray, List.map_cons, List.map_nil, List.append_toArray, List.cons_append, List.nil_append]); first | done | rfl | (simp only [List.length_drop, List.length_take]; rfl)) ?_; (with_reducible refine (impl_StraightCounts_1.calls gq1_0 a1_0 false _ ?side1 A5.out).mono ?_); (case side1 => exact (by (with_reducible repeat (first | refine blk_drewN ?_ _ | refine blk_drew ?_ | refine blk_alloc ?_ _)); exact BK673.out)); rintro e w16 ⟨rfl, hb⟩; refine ⟨_, rfl, ?_⟩; have n0_ := Aside0.mk (blk_below (g := gq1_0) (o := .cells #[.int .i64 a1_0] 2 (0, 0)) (by (with_reducible repeat (first | refine blk_drewN ?_ _ | refine blk_drew ?_ | refine blk_alloc ?_ _)); exact BK673.out) hb); have n1_ := Aside0.mk (blk_below (g := gb674) (o := .cells #[.int .i64 a0_0, .slice A0_1 l0_1.length c0_1] 37 (0, 0)) (by (with_reducible repeat (first | refine blk_drewN ?_ _ | refine blk_drew ?_ | refine blk_alloc ?_ _)); exact BK674.out) hb); have n2_ := Aside0.mk (below_step (by repeat (first | (with_reducible first | exact HB.out | apply below_alloc | apply pw_below_drewN | apply below_drew1 | refine below_set ?_ GE673.out | refine below_set ?_ GE674.out) | exact HB.out)) hb); clear BK673; clear BK674; clear HB; have BK673 := n0_; have BK674 := n1_; have HB := n2_; clear n0_ n1_ n2_; (try clear hb); (try clear hb2); (try clear hk); (try clear hi)))
   go_ret
   exact ⟨by first | rfl | (simp [errW_none, errW_some] <;> rfl) | (simp [*, errW_none, errW_some] <;> rfl), by repeat (first | (with_reducible first | exact HB.out | apply below_alloc | apply pw_below_drewN | apply below_drew1 | refine below_set ?_ GE673.out | refine below_set ?_ GE674.out) | exact HB.out)⟩
 ·replace c4 := Bool.eq_false_iff.mpr c4
  subst c4
  have H1 : (some 1) = some r := by rw [if_neg (show ¬ (false = true) by decide)] at H; exact H
  clear H
  have H := H1
  clear H1
  obtain rfl := Option.some.inj H
  go_enter Try.func65, Try.ntmps65
  go_wp2_with (first | ((with_reducible refine gate_dst (N := 2) rfl ?_); refine box_event ?hg (N := 2) ?hd (cs := #[.int .i64 a0_0, .slice A0_1 l0_1.length c0_1]) (t := 37) ?hr ?_; (case hd => rfl); (case hg => rfl); (case hr => first | (go_simp; done) | (go_simp; rfl)); intro gb674 hg w17 hbox hb; have n0_ := Aside0.mk (blk_below (g := gq1_0) (o := .cells #[.int .i64 a1_0] 2 (0, 0)) (by (with_reducible repeat (first | refine blk_drewN ?_ _ | refine blk_drew ?_ | refine blk_alloc ?_ _)); exact BK673.out) hb); have n1_ := Aside0.mk (below_step (by repeat (first | (with_reducible first | exact HB.out | apply below_alloc | apply pw_below_drewN | apply below_drew1 | refine below_set ?_ GE673.out) | exact HB.out)) hb); have n2_ := Aside0.mk (hbox); have n3_ := Aside0.mk ((by rw [hg]; exact (below_size (by repeat (first | (with_reducible first | exact HB.out | apply below_alloc | apply pw_below_drewN | apply below_drew1 | refine below_set ?_ GE673.out) | exact HB.out))) : w.heap.size ≤ gb674)); have n4_ := Aside0.mk ((by rw [hg]; exact (below_size (by repeat (first | (with_reducible first | exact HB.out | apply below_alloc | apply pw_below_drewN | apply below_drew1 | refine below_set ?_ GE673.out) | exact HB.out))) : w.heap.size ≤ gb674)); have n5_ := Aside0.mk ((by rw [hg]; exact Nat.ne_of_lt (blk_lt (g := gq1_0) (o := .cells #[.int .i64 a1_0] 2 (0, 0)) (by (with_reducible repeat (first | refine blk_drewN ?_ _ | refine blk_drew ?_ | refine blk_alloc ?_ _)); exact BK673.out)) : gq1_0 ≠ gb674)); have n6_ := Aside0.mk ((by rw [hg]; exact Nat.ne_of_gt (blk_lt (g := gq1_0) (o := .cells #[.int .i64 a1_0] 2 (0, 0)) (by (with_reducible repeat (first | refine blk_drewN ?_ _ | refine blk_drew ?_ | refine blk_alloc ?_ _)); exact BK673.out)) : gb674 ≠ gq1_0)); clear BK673; clear HB; have BK673 := n0_; have HB := n1_; have BK674 := n2_; have GW674 := n3_; have GE674 := n4_; have NB673_674 := n5_; have NB674_673 := n6_; clear n0_ n1_ n2_ n3_ n4_ n5_ n6_; clear hb hbox hg; have hnb18 := NB674_673.out; have hnc18 := NB673_674.out; have hcz19_0 : w17.cell? ⟨gb674, 0, none⟩ = some (.int .i64 a0_0) := (blk_cell BK674.out 0).trans rfl; have hcz19_1 : w17.cell? ⟨gb674, 1, none⟩ = some (.slice A0_1 l0_1.length c0_1) := (blk_cell BK674.out 1).trans rfl; have hfz19_0 := blk_frozen BK674.out 0; have hfz19_1 := blk_frozen BK674.out 1) | ((with_reducible refine gate_callee (f := 61) rfl ?_); refine goesL_ (some 7) rfl rfl Try.func61 (by kernel_rfl) rfl #[.agg #[.int .i64 a0_0, .slice A0_1 l0_1.length c0_1]] rfl (by (try simp only [List.map_toArray, List.map_cons, List.map_nil]); first | done | rfl | (simp only [List.length_drop, List.length_take]; rfl)) ?_; (with_reducible refine (impl_IsGraph.calls k a0_0 _ _ l0_1 false _ ?side1 ?side2 A3.out).mono ?_); (case side1 => repeat (first | exact (Kd.C_below HR0_1.out HB.out) | (with_reducible refine Kd.C_alloc ?_ _) | (with_reducible refine Kd.C_drewN ?_ _) | (with_reducible refine Kd.C_drew ?_))); (case side2 => exact HC0_1.out); rintro e w20 ⟨rfl, hb⟩; refine ⟨_, rfl, ?_⟩; have n0_ := Aside0.mk (blk_below (g := gq1_0) (o := .cells #[.int .i64 a1_0] 2 (0, 0)) (by (with_reducible repeat (first | refine blk_drewN ?_ _ | refine blk_drew ?_ | refine blk_alloc ?_ _)); exact BK673.out) hb); have n1_ := Aside0.mk (blk_below (g := gb674) (o := .cells #[.int .i64 a0_0, .slice A0_1 l0_1.length c0_1] 37 (0, 0)) (by (with_reducible repeat (first | refine blk_drewN ?_ _ | refine blk_drew ?_ | refine blk_alloc ?_ _)); exact BK674.out) hb); have n2_ := Aside0.mk (below_step (by repeat (first | (with_reducible first | exact HB.out | apply below_alloc | apply pw_below_drewN | apply below_drew1 | refine below_set ?_ GE673.out | refine below_set ?_ GE674.out) | exact HB.out)) hb); clear BK673; clear BK674; clear HB; have BK673 := n0_; have BK674 := n1_; have HB := n2_; clear n0_ n1_ n2_; (try clear hb); (try clear hb2); (try clear hk); (try clear hi)))
  go_ret
  exact ⟨by first | rfl | (simp [errW_none, errW_some] <;> rfl) | (simp [*, errW_none, errW_some] <;> rfl), by repeat (first | (with_reducible first | exact HB.out | apply below_alloc | apply pw_below_drewN | apply below_drew1 | refine below_set ?_ GE673.out | refine below_set ?_ GE674.out) | exact HB.out)⟩

/-! ### impl_StraightCounts: function 35 -/
def impl_StraightCounts.f (k : Nat) (a0_0 : Int) (l0_1 : List (List Int)) (a1 : Int) : Option (List Int × Int) := (impl_graphCode_at_StraightCounts_1.f k a0_0 l0_1 a1).bind fun t679 => (if t679 = 0 then ((impl_Graph_edgeMatrix.f k a0_0 l0_1).bind fun t680 => ((impl_traces.f k t680 a1).bind fun t683 => (some (t683, 0)))) else (some (([] : List Int), t679)))
theorem impl_StraightCounts.mono : ∀ a0 a1 a2 k, LeO (impl_StraightCounts.f k a0 a1 a2) (impl_StraightCounts.f (k + 1) a0 a1 a2) := by
 intro a0 a1 a2 k
 unfold impl_StraightCounts.f
 repeat' first
   | (with_reducible exact impl_Graph_edgeMatrix.mono _ _ _)
   | (with_reducible exact impl_graphCode_at_StraightCounts_1.mono _ _ _ _)
   | (with_reducible exact impl_traces.mono _ _ _)
   | (with_reducible exact LeO.refl _)
   | (with_reducible exact LeO.none _)
   | (with_reducible refine LeO.ite ?_ ?_)
   | (with_reducible refine LeO.bind ?_ (fun _ => ?_))
set_option maxHeartbeats 8000000 in
set_option maxRecDepth 100000 in
theorem impl_StraightCounts.calls (k : Nat) (a0_0 : Int) (A0_1 : Option Addr) (c0_1 : Nat) (l0_1 : List (List Int)) (a1 : Int) (r1 : List Int) (r2 : Int) (w : World) (hr0_1 : Kd.C (Kd.slice 2 (Kd.int .i64)) w A0_1 l0_1.length l0_1) (hc0_1 : l0_1.length ≤ c0_1) (h : impl_StraightCounts.f k a0_0 l0_1 a1 = some (r1, r2)) :
  Calls Try.prog 35 #[.agg #[.int .i64 a0_0, .slice A0_1 l0_1.length c0_1], .int .i64 a1] w fun e w' => ∃ v0_ : Value, e = .returned (.tuple #[v0_, .int .i64 r2]) ∧ Kd.R (Kd.int .i64) 2 w' w.heap.size (fun _ => True) v0_ r1 ∧ Below w.heap.size w w' := by
 have hu37 := Try.underlying37
 have HR0_1 := Aside0.mk hr0_1
 have HC0_1 := Aside0.mk hc0_1
 clear hr0_1 hc0_1
 have HB := Aside0.mk (Below.refl w.heap.size w)
 have H : ((impl_graphCode_at_StraightCounts_1.f k a0_0 l0_1 a1).bind fun t679 => (if t679 = 0 then ((impl_Graph_edgeMatrix.f k a0_0 l0_1).bind fun t680 => ((impl_traces.f k t680 a1).bind fun t683 => (some (t683, 0)))) else (some (([] : List Int), t679)))) = some (r1, r2) := h
 clear h
 replace H := Option.bind_eq_some_iff.mp H
 obtain ⟨t679, A30, H⟩ := H
 replace H : (if t679 = 0 then ((impl_Graph_edgeMatrix.f k a0_0 l0_1).bind fun t680 => ((impl_traces.f k t680 a1).bind fun t683 => (some (t683, 0)))) else (some (([] : List Int), t679))) = some (r1, r2) := H
 have A3 := Aside0.mk A30
 clear A30
 by_cases c4 : t679 = 0
 ·rw [if_pos c4] at H
  have c4b0 : (t679 == 0) = true := beq_iff_eq.mpr c4
  have c4b1 : (t679 != 0) = false := bne_eq_false_iff_eq.mpr c4
  clear c4
  replace H := Option.bind_eq_some_iff.mp H
  obtain ⟨t680, A50, H⟩ := H
  replace H : ((impl_traces.f k t680 a1).bind fun t683 => (some (t683, 0))) = some (r1, r2) := H
  have A5 := Aside0.mk A50
  clear A50
  replace H := Option.bind_eq_some_iff.mp H
  obtain ⟨t683, A60, H⟩ := H
  replace H : (some (t683, 0)) = some (r1, r2) := H
  have A6 := Aside0.mk A60
  clear A60
  simp only [Option.some.injEq, Prod.mk.injEq] at H
  obtain ⟨rfl, rfl⟩ := H
  go_enter Try.func35, Try.ntmps35
  try go_wp2_with (first | ((with_reducible refine gate_dst (N := 2) rfl ?_); refine box_event ?hg (N := 2) ?hd (cs := #[.int .i64 a0_0, .slice A0_1 l0_1.length c0_1]) (t := 37) ?hr ?_; (case hd => rfl); (case hg => rfl); (case hr => first | (go_simp; done) | (go_simp; rfl)); intro gb677 hg w7 hbox hb; have n0_ := Aside0.mk (below_step (by repeat (first | (with_reducible first | exact HB.out | apply below_alloc | apply pw_below_drewN | apply below_drew1) | exact HB.out)) hb); have n1_ := Aside0.mk (hbox); have n2_ := Aside0.mk ((by rw [hg]; exact (below_size (by repeat (first | (with_reducible first | exact HB.out | apply below_alloc | apply pw_below_drewN | apply below_drew1) | exact HB.out))) : w.heap.size ≤ gb677)); have n3_ := Aside0.mk ((by rw [hg]; exact (below_size (by repeat (first | (with_reducible first | exact HB.out | apply below_alloc | apply pw_below_drewN | apply below_drew1) | exact HB.out))) : w.heap.size ≤ gb677)); clear HB; have HB := n0_; have BK677 := n1_; have GW677 := n2_; have GE677 := n3_; clear n0_ n1_ n2_ n3_; clear hb hbox hg) | ((with_reducible refine gate_dst (N := 3) rfl ?_); refine box_event ?hg (N := 3) ?hd (cs := #[.int .i64 a1]) (t := 2) ?hr ?_; (case hd => rfl); (case hg => rfl); (case hr => first | (go_simp; done) | (go_simp; rfl)); intro gb678 hg w8 hbox hb; have n0_ := Aside0.mk (blk_below (g := gb677) (o := .cells #[.int .i64 a0_0, .slice A0_1 l0_1.length c0_1] 37 (0, 0)) (by (with_reducible repeat (first | refine blk_drewN ?_ _ | refine blk_drew ?_ | refine blk_alloc ?_ _)); exact BK677.out) hb); have n1_ := Aside0.mk (below_step (by repeat (first | (with_reducible first | exact HB.out | apply below_alloc | apply pw_below_drewN | apply below_drew1 | refine below_set ?_ GE677.out) | exact HB.out)) hb); have n2_ := Aside0.mk (hbox); have n3_ := Aside0.mk ((by rw [hg]; exact (below_size (by repeat (first | (with_reducible first | exact HB.out | apply below_alloc | apply pw_below_drewN | apply below_drew1 | refine below_set ?_ GE677.out) | exact HB.out))) : w.heap.size ≤ gb678)); have n4_ := Aside0.mk ((by rw [hg]; exact (below_size (by repeat (first | (with_reducible first | exact HB.out | apply below_alloc | apply pw_below_drewN | apply below_drew1 | refine below_set ?_ GE677.out) | exact HB.out))) : w.heap.size ≤ gb678)); have n5_ := Aside0.mk ((by rw [hg]; exact Nat.ne_of_lt (blk_lt (g := gb677) (o := .cells #[.int .i64 a0_0, .slice A0_1 l0_1.length c0_1] 37 (0, 0)) (by (with_reducible repeat (first | refine blk_drewN ?_ _ | refine blk_drew ?_ | refine blk_alloc ?_ _)); exact BK677.out)) : gb677 ≠ gb678)); have n6_ := Aside0.mk ((by rw [hg]; exact Nat.ne_of_gt (blk_lt (g := gb677) (o := .cells #[.int .i64 a0_0, .slice A0_1 l0_1.length c0_1] 37 (0, 0)) (by (with_reducible repeat (first | refine blk_drewN ?_ _ | refine blk_drew ?_ | refine blk_alloc ?_ _)); exact BK677.out)) : gb678 ≠ gb677)); clear BK677; clear HB; have BK677 := n0_; have HB := n1_; have BK678 := n2_; have GW678 := n3_; have GE678 := n4_; have NB677_678 := n5_; have NB678_677 := n6_; clear n0_ n1_ n2_ n3_ n4_ n5_ n6_; clear hb hbox hg; have hnb9 := NB677_678.out; have hnc9 := NB678_677.out; have hcz10_0 : w8.cell? ⟨gb677, 0, none⟩ = some (.int .i64 a0_0) := (blk_cell BK677.out 0).trans rfl; have hcz10_1 : w8.cell? ⟨gb677, 1, none⟩ = some (.slice A0_1 l0_1.length c0_1) := (blk_cell BK677.out 1).trans rfl; have hfz10_0 := blk_frozen BK677.out 0; have hfz10_1 := blk_frozen BK677.out 1) | ((with_reducible refine gate_callee (f := 65) rfl ?_); refine goesL_ (some 9) rfl rfl Try.func65 (by kernel_rfl) rfl #[.agg #[.int .i64 a0_0, .slice A0_1 l0_1.length c0_1], .func (.func 82) #[] #[.pointer (some ⟨gb678, 0, none⟩)]] rfl (by (try simp only [List.map_toArray, List.map_cons, List.map_nil]); first | done | rfl | (simp only [List.length_drop, List.length_take]; rfl)) ?_; (with_reducible refine (impl_graphCode_at_StraightCounts_1.calls k a0_0 _ _ l0_1 gb678 a1 t679 _ ?side1 ?side2 ?side3 A3.out).mono ?_); (case side1 => repeat (first | exact (Kd.C_below HR0_1.out HB.out) | (with_reducible refine Kd.C_alloc ?_ _) | (with_reducible refine Kd.C_drewN ?_ _) | (with_reducible refine Kd.C_drew ?_))); (case side2 => exact HC0_1.out); (case side3 => exact (by (with_reducible repeat (first | refine blk_drewN ?_ _ | refine blk_drew ?_ | refine blk_alloc ?_ _)); exact BK678.out)); rintro e w11 ⟨rfl, hb⟩; refine ⟨_, rfl, ?_⟩; have n0_ := Aside0.mk (blk_below (g := gb677) (o := .cells #[.int .i64 a0_0, .slice A0_1 l0_1.length c0_1] 37 (0, 0)) (by (with_reducible repeat (first | refine blk_drewN ?_ _ | refine blk_drew ?_ | refine blk_alloc ?_ _)); exact BK677.out) hb); have n1_ := Aside0.mk (blk_below (g := gb678) (o := .cells #[.int .i64 a1] 2 (0, 0)) (by (with_reducible repeat (first | refine blk_drewN ?_ _ | refine blk_drew ?_ | refine blk_alloc ?_ _)); exact BK678.out) hb); have n2_ := Aside0.mk (below_step (by repeat (first | (with_reducible first | exact HB.out | apply below_alloc | apply pw_below_drewN | apply below_drew1 | refine below_set ?_ GE677.out | refine below_set ?_ GE678.out) | exact HB.out)) hb); clear BK677; clear BK678; clear HB; have BK677 := n0_; have BK678 := n1_; have HB := n2_; clear n0_ n1_ n2_; (try clear hb); (try clear hb2); (try clear hk); (try clear hi)))
  have n0_ := Aside0.mk (blk_drew BK677.out)
  have n1_ := Aside0.mk (blk_drew BK678.out)
  have n2_ := Aside0.mk (below_drew1 HB.out)
  clear BK677
  clear BK678
  clear HB
  have BK677 := n0_
  have BK678 := n1_
  have HB := n2_
  clear n0_ n1_ n2_
  refine start_ (n := 6) (S := fun w' => w'.cell? ⟨gb677, 0, none⟩ = some (.int .i64 a0_0) ∧ w'.cell? ⟨gb677, 1, none⟩ = some (.slice A0_1 l0_1.length c0_1) ∧ w'.cell? ⟨gb678, 0, none⟩ = some (.int .i64 a1)) (ds := []) #[false, false, false, false, false, false] (by kernel_rfl) rfl rfl ⟨(blk_cell BK677.out 0).trans rfl, (blk_cell BK677.out 1).trans rfl, (blk_cell BK678.out 0).trans rfl⟩ (fun hHeld => ?_)
  generalize w11.drew = w12 at BK677 BK678 HB hHeld ⊢
  refine take_ (i := 0) (N := some 13) (v := ?_) (a' := ?_) #[true, false, false, false, false, false] rfl rfl (by kernel_rfl) (fun _ _ _ h => h) (Or.inl ⟨by rfl, ?_⟩) hHeld ?_ ?_
  rotate_left
  ·rintro w' ⟨s0, s1, s2⟩
   go_simp
   with_reducible rfl
  rotate_left
  ·simp only [Act.put, nf_]
   rfl
  refine take_ (i := 2) (N := some 15) (v := ?_) (a' := ?_) #[true, false, true, false, false, false] rfl rfl (by kernel_rfl) (fun _ _ _ h => h) (Or.inl ⟨by rfl, ?_⟩) hHeld ?_ ?_
  rotate_left
  ·rintro w' ⟨s0, s1, s2⟩
   go_simp
   with_reducible rfl
  rotate_left
  ·simp only [Act.put, nf_]
   rfl
  refine one_ (i := 1) (N := some 14) #[true, true, true, false, false, false] rfl rfl (by kernel_rfl) (by decide) (fun K hK => ?_)
  refine goes_ Try.func63 (by kernel_rfl) rfl #[.agg #[.int .i64 a0_0, .slice A0_1 l0_1.length c0_1]] (by rfl) rfl rfl (by (try simp only [List.map_toArray, List.map_cons, List.map_nil]); first | done | rfl | (simp only [List.length_drop, List.length_take]; rfl)) ?_
  with_reducible refine (impl_Graph_edgeMatrix.calls k a0_0 _ _ l0_1 t680 _ ?side1 ?side2 A5.out).mono ?_
  (case side1 => repeat (first | exact (Kd.C_below HR0_1.out HB.out) | (with_reducible refine Kd.C_alloc ?_ _) | (with_reducible refine Kd.C_drewN ?_ _) | (with_reducible refine Kd.C_drew ?_)))
  (case side2 => exact HC0_1.out)
  rintro e w13 ⟨v681, rfl, ho0, hb⟩
  refine ⟨_, rfl, ?_⟩
  have n0_ := Aside0.mk (Kd.S_lower (Kd.S_newB ho0 (g := gb678) (o := .cells #[.int .i64 a1] 2 (0, 0)) (by (with_reducible repeat (first | refine blk_drewN ?_ _ | refine blk_drew ?_ | refine blk_alloc ?_ _)); exact BK678.out)) (below_size (by repeat (first | (with_reducible first | exact HB.out | apply below_alloc | apply pw_below_drewN | apply below_drew1 | refine below_set ?_ GE677.out | refine below_set ?_ GE678.out) | exact HB.out))))
  have n1_ := Aside0.mk (blk_below (g := gb677) (o := .cells #[.int .i64 a0_0, .slice A0_1 l0_1.length c0_1] 37 (0, 0)) (by (with_reducible repeat (first | refine blk_drewN ?_ _ | refine blk_drew ?_ | refine blk_alloc ?_ _)); exact BK677.out) hb)
  have n2_ := Aside0.mk (blk_below (g := gb678) (o := .cells #[.int .i64 a1] 2 (0, 0)) (by (with_reducible repeat (first | refine blk_drewN ?_ _ | refine blk_drew ?_ | refine blk_alloc ?_ _)); exact BK678.out) hb)
  have n3_ := Aside0.mk (below_step (by repeat (first | (with_reducible first | exact HB.out | apply below_alloc | apply pw_below_drewN | apply below_drew1 | refine below_set ?_ GE677.out | refine below_set ?_ GE678.out) | exact HB.out)) hb)
  clear BK677
  clear BK678
  clear HB
  have HO682 := n0_
  have BK677 := n1_
  have BK678 := n2_
  have HB := n3_
  clear n0_ n1_ n2_ n3_
  (try clear hb)
  (try clear hb2)
  (try clear hk)
  (try clear hi)
  (try clear ho0)
  obtain ⟨Ao14, co14, eo14⟩ := Kd.S_slice HO682.out
  (first | subst eo14 | (injection eo14 with f1_ f2_ f3_; have f4_ := f1_.symm; have f5_ := f3_.symm; clear f1_ f2_ f3_; subst f4_; subst f5_))
  refine hK.out _ _ ⟨(blk_cell BK677.out 0).trans rfl, (blk_cell BK677.out 1).trans rfl, (blk_cell BK678.out 0).trans rfl⟩ (fun hHeld => ?_)
  clear hK K
  refine norm_ (a' := ?_) ?_ ?_
  rotate_left
  ·show Act.put _ (some 14) _ = _
   simp only [Act.put, nf_]
   rfl
  refine one_ (i := 3) (N := some 16) #[true, true, true, true, false, false] rfl rfl (by kernel_rfl) (by decide) (fun K hK => ?_)
  refine goes_ Try.func62 (by kernel_rfl) rfl #[.slice Ao14 t680.length co14, .int .i64 a1] (by rfl) rfl rfl (by (try simp only [List.map_toArray, List.map_cons, List.map_nil]); first | done | rfl | (simp only [List.length_drop, List.length_take]; rfl)) ?_
  with_reducible refine (impl_traces.calls k (fun k_ => ((True ∧ k_ ≠ gb678) ∧ k_ ≠ gb677)) _ _ t680 a1 t683 _ ?side1 A6.out).mono ?_
  (case side1 => exact Kd.S_V (Kd.S_types (HO682.out) BK677.out (by decide)))
  rintro e w15 ⟨v684, rfl, ho0, hb⟩
  refine ⟨_, rfl, ?_⟩
  have n0_ := Aside0.mk (Kd.S_elder' (by (with_reducible repeat (first | apply Kd.S_alloc | apply Kd.S_drewN | apply Kd.S_drew)); exact HO682.out) (Kd.R_base ho0) hb)
  have n1_ := Aside0.mk (Kd.R_lower (Kd.R_newB (Kd.R_mono (ok' := fun k_ => True) ho0 (fun _ hk_ => trivial)) (g := gb678) (o := .cells #[.int .i64 a1] 2 (0, 0)) (by (with_reducible repeat (first | refine blk_drewN ?_ _ | refine blk_drew ?_ | refine blk_alloc ?_ _)); exact BK678.out)) (below_size (by repeat (first | (with_reducible first | exact HB.out | apply below_alloc | apply pw_below_drewN | apply below_drew1 | refine below_set ?_ GE677.out | refine below_set ?_ GE678.out) | exact HB.out))))
  have n2_ := Aside0.mk (blk_below (g := gb677) (o := .cells #[.int .i64 a0_0, .slice A0_1 l0_1.length c0_1] 37 (0, 0)) (by (with_reducible repeat (first | refine blk_drewN ?_ _ | refine blk_drew ?_ | refine blk_alloc ?_ _)); exact BK677.out) hb)
  have n3_ := Aside0.mk (blk_below (g := gb678) (o := .cells #[.int .i64 a1] 2 (0, 0)) (by (with_reducible repeat (first | refine blk_drewN ?_ _ | refine blk_drew ?_ | refine blk_alloc ?_ _)); exact BK678.out) hb)
  have n4_ := Aside0.mk (below_step (by repeat (first | (with_reducible first | exact HB.out | apply below_alloc | apply pw_below_drewN | apply below_drew1 | refine below_set ?_ GE677.out | refine below_set ?_ GE678.out) | exact HB.out)) hb)
  clear HO682
  clear BK677
  clear BK678
  clear HB
  have HO682 := n0_
  have HO685 := n1_
  have BK677 := n2_
  have BK678 := n3_
  have HB := n4_
  clear n0_ n1_ n2_ n3_ n4_
  (try clear hb)
  (try clear hb2)
  (try clear hk)
  (try clear hi)
  (try clear ho0)
  refine hK.out _ _ ⟨(blk_cell BK677.out 0).trans rfl, (blk_cell BK677.out 1).trans rfl, (blk_cell BK678.out 0).trans rfl⟩ (fun hHeld => ?_)
  clear hK K
  refine norm_ (a' := ?_) ?_ ?_
  rotate_left
  ·show Act.put _ (some 16) _ = _
   simp only [Act.put, nf_]
   rfl
  refine pure_ (i := 4) (N := some 4) (v := ?_) (a' := ?_) #[true, true, true, true, true, false] rfl rfl (by kernel_rfl) (fun _ _ _ h => h) (Or.inl ⟨by rfl, ?_⟩) ?_ ?_
  rotate_left
  ·intro w'
   go_simp
   with_reducible rfl
  rotate_left
  ·simp only [Act.put, nf_]
   rfl
  refine pure_ (i := 5) (N := some 5) (v := ?_) (a' := ?_) #[true, true, true, true, true, true] rfl rfl (by kernel_rfl) (fun _ _ _ h => h) (Or.inl ⟨by rfl, ?_⟩) ?_ ?_
  rotate_left
  ·intro w'
   go_simp
   with_reducible rfl
  rotate_left
  ·simp only [Act.put, nf_]
   rfl
  refine done_ (by kernel_rfl) ?_
  try go_wp2
  go_ret2
  exact ⟨_, by first | rfl | (simp [errW_none, errW_some] <;> rfl) | (simp [*, errW_none, errW_some] <;> rfl), by (with_reducible repeat (first | apply Kd.R_alloc | apply Kd.R_drewN | apply Kd.R_drew)); exact Kd.R_mono HO685.out (fun _ hk => trivial), by repeat (first | (with_reducible first | exact HB.out | apply below_alloc | apply pw_below_drewN | apply below_drew1 | refine below_set ?_ GE677.out | refine below_set ?_ GE678.out) | exact HB.out)⟩
 ·rw [if_neg c4] at H
  have c4b0 : (t679 == 0) = false := beq_eq_false_iff_ne.mpr c4
  have c4b1 : (t679 != 0) = true := bne_iff_ne.mpr c4
  simp only [Option.some.injEq, Prod.mk.injEq] at H
  obtain ⟨rfl, rfl⟩ := H
  go_enter Try.func35, Try.ntmps35
  go_wp2_with (first | ((with_reducible refine gate_dst (N := 2) rfl ?_); refine box_event ?hg (N := 2) ?hd (cs := #[.int .i64 a0_0, .slice A0_1 l0_1.length c0_1]) (t := 37) ?hr ?_; (case hd => rfl); (case hg => rfl); (case hr => first | (go_simp; done) | (go_simp; rfl)); intro gb677 hg w16 hbox hb; have n0_ := Aside0.mk (below_step (by repeat (first | (with_reducible first | exact HB.out | apply below_alloc | apply pw_below_drewN | apply below_drew1) | exact HB.out)) hb); have n1_ := Aside0.mk (hbox); have n2_ := Aside0.mk ((by rw [hg]; exact (below_size (by repeat (first | (with_reducible first | exact HB.out | apply below_alloc | apply pw_below_drewN | apply below_drew1) | exact HB.out))) : w.heap.size ≤ gb677)); have n3_ := Aside0.mk ((by rw [hg]; exact (below_size (by repeat (first | (with_reducible first | exact HB.out | apply below_alloc | apply pw_below_drewN | apply below_drew1) | exact HB.out))) : w.heap.size ≤ gb677)); clear HB; have HB := n0_; have BK677 := n1_; have GW677 := n2_; have GE677 := n3_; clear n0_ n1_ n2_ n3_; clear hb hbox hg) | ((with_reducible refine gate_dst (N := 3) rfl ?_); refine box_event ?hg (N := 3) ?hd (cs := #[.int .i64 a1]) (t := 2) ?hr ?_; (case hd => rfl); (case hg => rfl); (case hr => first | (go_simp; done) | (go_simp; rfl)); intro gb678 hg w17 hbox hb; have n0_ := Aside0.mk (blk_below (g := gb677) (o := .cells #[.int .i64 a0_0, .slice A0_1 l0_1.length c0_1] 37 (0, 0)) (by (with_reducible repeat (first | refine blk_drewN ?_ _ | refine blk_drew ?_ | refine blk_alloc ?_ _)); exact BK677.out) hb); have n1_ := Aside0.mk (below_step (by repeat (first | (with_reducible first | exact HB.out | apply below_alloc | apply pw_below_drewN | apply below_drew1 | refine below_set ?_ GE677.out) | exact HB.out)) hb); have n2_ := Aside0.mk (hbox); have n3_ := Aside0.mk ((by rw [hg]; exact (below_size (by repeat (first | (with_reducible first | exact HB.out | apply below_alloc | apply pw_below_drewN | apply below_drew1 | refine below_set ?_ GE677.out) | exact HB.out))) : w.heap.size ≤ gb678)); have n4_ := Aside0.mk ((by rw [hg]; exact (below_size (by repeat (first | (with_reducible first | exact HB.out | apply below_alloc | apply pw_below_drewN | apply below_drew1 | refine below_set ?_ GE677.out) | exact HB.out))) : w.heap.size ≤ gb678)); have n5_ := Aside0.mk ((by rw [hg]; exact Nat.ne_of_lt (blk_lt (g := gb677) (o := .cells #[.int .i64 a0_0, .slice A0_1 l0_1.length c0_1] 37 (0, 0)) (by (with_reducible repeat (first | refine blk_drewN ?_ _ | refine blk_drew ?_ | refine blk_alloc ?_ _)); exact BK677.out)) : gb677 ≠ gb678)); have n6_ := Aside0.mk ((by rw [hg]; exact Nat.ne_of_gt (blk_lt (g := gb677) (o := .cells #[.int .i64 a0_0, .slice A0_1 l0_1.length c0_1] 37 (0, 0)) (by (with_reducible repeat (first | refine blk_drewN ?_ _ | refine blk_drew ?_ | refine blk_alloc ?_ _)); exact BK677.out)) : gb678 ≠ gb677)); clear BK677; clear HB; have BK677 := n0_; have HB := n1_; have BK678 := n2_; have GW678 := n3_; have GE678 := n4_; have NB677_678 := n5_; have NB678_677 := n6_; clear n0_ n1_ n2_ n3_ n4_ n5_ n6_; clear hb hbox hg; have hnb18 := NB677_678.out; have hnc18 := NB678_677.out; have hcz19_0 : w17.cell? ⟨gb677, 0, none⟩ = some (.int .i64 a0_0) := (blk_cell BK677.out 0).trans rfl; have hcz19_1 : w17.cell? ⟨gb677, 1, none⟩ = some (.slice A0_1 l0_1.length c0_1) := (blk_cell BK677.out 1).trans rfl; have hfz19_0 := blk_frozen BK677.out 0; have hfz19_1 := blk_frozen BK677.out 1) | ((with_reducible refine gate_callee (f := 65) rfl ?_); refine goesL_ (some 9) rfl rfl Try.func65 (by kernel_rfl) rfl #[.agg #[.int .i64 a0_0, .slice A0_1 l0_1.length c0_1], .func (.func 82) #[] #[.pointer (some ⟨gb678, 0, none⟩)]] rfl (by (try simp only [List.map_toArray, List.map_cons, List.map_nil]); first | done | rfl | (simp only [List.length_drop, List.length_take]; rfl)) ?_; (with_reducible refine (impl_graphCode_at_StraightCounts_1.calls k a0_0 _ _ l0_1 gb678 a1 t679 _ ?side1 ?side2 ?side3 A3.out).mono ?_); (case side1 => repeat (first | exact (Kd.C_below HR0_1.out HB.out) | (with_reducible refine Kd.C_alloc ?_ _) | (with_reducible refine Kd.C_drewN ?_ _) | (with_reducible refine Kd.C_drew ?_))); (case side2 => exact HC0_1.out); (case side3 => exact (by (with_reducible repeat (first | refine blk_drewN ?_ _ | refine blk_drew ?_ | refine blk_alloc ?_ _)); exact BK678.out)); rintro e w20 ⟨rfl, hb⟩; refine ⟨_, rfl, ?_⟩; have n0_ := Aside0.mk (blk_below (g := gb677) (o := .cells #[.int .i64 a0_0, .slice A0_1 l0_1.length c0_1] 37 (0, 0)) (by (with_reducible repeat (first | refine blk_drewN ?_ _ | refine blk_drew ?_ | refine blk_alloc ?_ _)); exact BK677.out) hb); have n1_ := Aside0.mk (blk_below (g := gb678) (o := .cells #[.int .i64 a1] 2 (0, 0)) (by (with_reducible repeat (first | refine blk_drewN ?_ _ | refine blk_drew ?_ | refine blk_alloc ?_ _)); exact BK678.out) hb); have n2_ := Aside0.mk (below_step (by repeat (first | (with_reducible first | exact HB.out | apply below_alloc | apply pw_below_drewN | apply below_drew1 | refine below_set ?_ GE677.out | refine below_set ?_ GE678.out) | exact HB.out)) hb); clear BK677; clear BK678; clear HB; have BK677 := n0_; have BK678 := n1_; have HB := n2_; clear n0_ n1_ n2_; (try clear hb); (try clear hb2); (try clear hk); (try clear hi)))
  go_ret2
  exact ⟨_, by first | rfl | (simp [errW_none, errW_some] <;> rfl) | (simp [*, errW_none, errW_some] <;> rfl), by first | exact Kd.R_nil _ _ _ _ _ | exact Kd.N_nil _ _ _ _ _ | exact Kd.V_nil _ _ _ _ _ | exact Kd.Q_nil _ _ _ _ _ | exact Kd.S_nil _ _ _ _ _, by repeat (first | (with_reducible first | exact HB.out | apply below_alloc | apply pw_below_drewN | apply below_drew1 | refine below_set ?_ GE677.out | refine below_set ?_ GE678.out) | exact HB.out)⟩

/-! ### laws_markGraph: function 36 -/
def laws_markGraph.f (k : Nat) (a0_0 : Int) (l0_1 : List (List Int)) (a1 : Int) : Option (Int × List (List Int)) := laws_markInt64SS.f k l0_1 a1
theorem laws_markGraph.mono : ∀ a0 a1 a2 k, LeO (laws_markGraph.f k a0 a1 a2) (laws_markGraph.f (k + 1) a0 a1 a2) := fun _ _ _ _ => laws_markInt64SS.mono _ _ _
set_option maxHeartbeats 8000000 in
set_option maxRecDepth 100000 in
theorem laws_markGraph.calls (k : Nat) (a0_0 : Int) (P0_1_ : Nat → Prop) (u9000_ : Value) (l0_1 : List (List Int)) (a1 : Int) (r1 : Int) (r2 : List (List Int)) (w0 w : World) (hB : Below w0.heap.size w0 w) (ho0_1 : Kd.S (Kd.slice 2 (Kd.int .i64)) 24 w w0.heap.size P0_1_ u9000_ l0_1) (h : laws_markGraph.f k a0_0 l0_1 a1 = some (r1, r2)) :
  Calls Try.prog 36 #[.agg #[.int .i64 a0_0, u9000_], .int .i64 a1] w fun e w' => e = .returned (.int .i64 r1) ∧ Kd.S (Kd.slice 2 (Kd.int .i64)) 24 w' w0.heap.size P0_1_ u9000_ r2 ∧ Below w0.heap.size w0 w' ∧ Kept w w' (fun k_ => P0_1_ k_) := by
 have hu37 := Try.underlying37
 obtain ⟨Ao, co, eo⟩ := Kd.S_slice ho0_1
 subst eo
 have HO := Aside0.mk ho0_1
 have HB := Aside0.mk hB
 have A := Aside0.mk (show laws_markInt64SS.f k l0_1 a1 = some (r1, r2) from h)
 clear ho0_1 hB h
 go_enter Try.func36, Try.ntmps36
 go_upto_region 1 with (first | ((with_reducible refine gate_dst (N := 2) rfl ?_); refine box_event ?hg (N := 2) ?hd (cs := #[.int .i64 a0_0, .slice Ao l0_1.length co]) (t := 37) ?hr ?_; (case hd => rfl); (case hg => rfl); (case hr => first | (go_simp; done) | (go_simp; rfl)); intro gb hg w3 hbox hb; have n0_ := Aside0.mk (below_step HB.out hb); have n1_ := Aside0.mk (Kd.S_below HO.out hb); have n2_ := Aside0.mk hbox; have n3_ := Aside0.mk hb; clear HB HO; have HB := n0_; have HO := n1_; have BK := n2_; have HN := n3_; clear n0_ n1_ n2_ n3_ hb hbox hg))
 (try simp only [Act.put, List.setIfInBounds_toArray, List.set_cons_zero, List.set_cons_succ])
 have hc0 : w3.cell? ⟨gb, 0, none⟩ = some (.int .i64 a0_0) := (blk_cell BK.out 0).trans rfl
 have hc1 : w3.cell? ⟨gb, 1, none⟩ = some (.slice Ao l0_1.length co) := (blk_cell BK.out 1).trans rfl
 have hf0 := blk_frozen BK.out 0
 have hf1 := blk_frozen BK.out 1
 go_wp2_with (first | ((with_reducible refine gate_callee (f := 21) rfl ?_); refine goesL_ (some 8) rfl rfl Try.func21 (by kernel_rfl) rfl #[.slice Ao l0_1.length co, .int .i64 a1] rfl (by (try simp only [List.map_toArray, List.map_cons, List.map_nil]); first | done | rfl) ?_; (with_reducible refine (laws_markInt64SS.calls k P0_1_ (.slice Ao l0_1.length co) l0_1 a1 r1 r2 w0 _ HB.out HO.out A.out).mono ?_); rintro e w5 ⟨rfl, hy, hb, hkp⟩; refine ⟨_, rfl, ?_⟩; have n0_ := Aside0.mk hy; have n1_ := Aside0.mk (Kept.then_ (Kept.of_below HN.out (fun k_ => P0_1_ k_)) hkp (fun k_ hk => .inl hk)); have n2_ := Aside0.mk hb; clear HO HB hy hb hkp; have HO := n0_; have HK := n1_; have HB := n2_; clear n0_ n1_ n2_))
 go_ret
 exact ⟨rfl, HO.out, HB.out, HK.out⟩

/-! ### impl_moebius: function 115 -/
def impl_moebius.l0 : Nat → Int → Int → Int → Option (Int)
 | 0, _, _, _ => none
 | k + 1, x0, x3, x4 => if x4 ≤ x0 then (if x4 = 0 then (none) else (if (Int.tmod x0 x4) = 0 then (if (Int.tmod (wrap64 (Int.tdiv x0 x4)) x4) = 0 then (some 0) else (impl_moebius.l0 k (wrap64 (Int.tdiv x0 x4)) (wrap64 (-x3)) (wrap64 (x4 + 1)))) else (impl_moebius.l0 k x0 x3 (wrap64 (x4 + 1))))) else (some x3)
def impl_moebius.f (k : Nat) (a0 : Int) : Option (Int) := impl_moebius.l0 k a0 1 2
theorem impl_moebius.mono_l : ∀ k, (∀ y0 y1 y2, LeO (impl_moebius.l0 k y0 y1 y2) (impl_moebius.l0 (k + 1) y0 y1 y2))
 | 0 => fun _ _ _ r h => by simp [impl_moebius.l0] at h
 | k + 1 => by
  have ih0 := impl_moebius.mono_l k
  ·intro y0 y1 y2
   unfold impl_moebius.l0
   repeat' first
   | (with_reducible exact ih0 _ _ _)
   | (with_reducible exact LeO.refl _)
   | (with_reducible exact LeO.none _)
   | (with_reducible refine LeO.ite ?_ ?_)
   | (with_reducible refine LeO.bind ?_ (fun _ => ?_))
theorem impl_moebius.mono : ∀ a0 k, LeO (impl_moebius.f k a0) (impl_moebius.f (k + 1) a0) := by
 intro a0 k
 have ih0 := impl_moebius.mono_l k
 unfold impl_moebius.f
 repeat' first
   | (with_reducible exact ih0 _ _ _)
   | (with_reducible exact LeO.refl _)
   | (with_reducible exact LeO.none _)
   | (with_reducible refine LeO.ite ?_ ?_)
   | (with_reducible refine LeO.bind ?_ (fun _ => ?_))
set_option maxHeartbeats 8000000 in
set_option maxRecDepth 100000 in
theorem impl_moebius.calls (k : Nat) (a0 : Int) (r : Int) (w : World) (h : impl_moebius.f k a0 = some r) :
  Calls Try.prog 115 #[.int .i64 a0] w fun e w' => e = .returned (.int .i64 r) ∧ Drawn0 w w' := by
 have H : (impl_moebius.l0 k a0 1 2) = some r := h
 clear h
 have H' := Aside0.mk H
 clear H
 go_enter Try.func115, Try.ntmps115
 go_wp2
 go_loopg [0, 3, 4] k (fun kq v0 v3 v4 w' => ∃ (x0_1 : Int) (x3_1 : Int) (x4_1 : Int), v0 = .int .i64 x0_1 ∧ v3 = .int .i64 x3_1 ∧ v4 = .int .i64 x4_1 ∧ Aside0 (impl_moebius.l0 kq x0_1 x3_1 x4_1 = some r) ∧ Aside0 (kq ≤ k) ∧ Drawn0 w w')
 case atStart => exact ⟨(a0), (1), (2), (by first | rfl | (simp; done) | (simp [*]; done)), (by first | rfl | (simp; done) | (simp [*]; done)), (by first | rfl | (simp; done) | (simp [*]; done)), H', ⟨Nat.le_refl _⟩, by repeat (first | exact Drawn0.refl _ | apply Drawn0.step)⟩
 case round =>
  clear H'
  try clear c1
  obtain ⟨x0_1, x3_1, x4_1, rfl, rfl, rfl, HA, HK1, ⟨m1, rfl⟩⟩ := hrel
  cases gk with
  | zero => exact absurd HA.out (by simp [impl_moebius.l0])
  | succ k1 =>
   have H := HA.out
   clear HA
   simp only [impl_moebius.l0] at H
   by_cases c2 : x4_1 ≤ x0_1
   ·rw [if_pos c2] at H
    have c2b0 : decide (x4_1 ≤ x0_1) = true := decide_eq_true c2
    clear c2
    by_cases c3 : x4_1 = 0
    ·rw [if_pos c3] at H
     exact absurd H (by simp)
    ·rw [if_neg c3] at H
     have c3b0 : (x4_1 == 0) = false := beq_eq_false_iff_ne.mpr c3
     have c3b1 : (x4_1 != 0) = true := bne_iff_ne.mpr c3
     by_cases c4 : (Int.tmod x0_1 x4_1) = 0
     ·rw [if_pos c4] at H
      have c4b0 : ((Int.tmod x0_1 x4_1) == 0) = true := beq_iff_eq.mpr c4
      have c4b1 : ((Int.tmod x0_1 x4_1) != 0) = false := bne_eq_false_iff_eq.mpr c4
      clear c4
      by_cases c5 : (Int.tmod (wrap64 (Int.tdiv x0_1 x4_1)) x4_1) = 0
      ·rw [if_pos c5] at H
       have c5b0 : ((Int.tmod (wrap64 (Int.tdiv x0_1 x4_1)) x4_1) == 0) = true := beq_iff_eq.mpr c5
       have c5b1 : ((Int.tmod (wrap64 (Int.tdiv x0_1 x4_1)) x4_1) != 0) = false := bne_eq_false_iff_eq.mpr c5
       clear c5
       obtain rfl := Option.some.inj H
       go_wp2
       go_ret
       exact ⟨by first | rfl | (simp; done) | (simp [*]; done), by repeat (first | exact Drawn0.refl _ | apply Drawn0.step)⟩
      ·rw [if_neg c5] at H
       have c5b0 : ((Int.tmod (wrap64 (Int.tdiv x0_1 x4_1)) x4_1) == 0) = false := beq_eq_false_iff_ne.mpr c5
       have c5b1 : ((Int.tmod (wrap64 (Int.tdiv x0_1 x4_1)) x4_1) != 0) = true := bne_iff_ne.mpr c5
       have H' := Aside0.mk H
       clear H
       go_wp2
       go_roundg k1
       case measure => have := HK1.out; omega
       case rel => exact ⟨(wrap64 (Int.tdiv x0_1 x4_1)), (wrap64 (-x3_1)), (wrap64 (x4_1 + 1)), (by first | rfl | (simp; done) | (simp [*]; done)), (by first | rfl | (simp; done) | (simp [*]; done)), (by first | rfl | (simp; done) | (simp [*]; done)), H', ⟨by have := HK1.out; omega⟩, by repeat (first | exact Drawn0.refl _ | apply Drawn0.step)⟩
     ·rw [if_neg c4] at H
      have c4b0 : ((Int.tmod x0_1 x4_1) == 0) = false := beq_eq_false_iff_ne.mpr c4
      have c4b1 : ((Int.tmod x0_1 x4_1) != 0) = true := bne_iff_ne.mpr c4
      have H' := Aside0.mk H
      clear H
      go_wp2
      go_roundg k1
      case measure => have := HK1.out; omega
      case rel => exact ⟨(x0_1), (x3_1), (wrap64 (x4_1 + 1)), (by first | rfl | (simp; done) | (simp [*]; done)), (by first | rfl | (simp; done) | (simp [*]; done)), (by first | rfl | (simp; done) | (simp [*]; done)), H', ⟨by have := HK1.out; omega⟩, by repeat (first | exact Drawn0.refl _ | apply Drawn0.step)⟩
   ·rw [if_neg c2] at H
    have c2b0 : decide (x4_1 ≤ x0_1) = false := decide_eq_false c2
    clear c2
    obtain rfl := Option.some.inj H
    go_wp2
    go_ret
    exact ⟨by first | rfl | (simp; done) | (simp [*]; done), by repeat (first | exact Drawn0.refl _ | apply Drawn0.step)⟩

/-! ### impl_primesOf: function 88 -/
mutual
def impl_primesOf.l0 : Nat → List Int → List Int → Int → Int → Option (List Int)
 | 0, _, _, _, _ => none
 | k + 1, x0, x3, x10, x11 => if x11 < x10 then (impl_primesOf.l1 k x0 x3 (wrap64 (x11 + 1)) 0 1 x10 x11) else (some x3)
def impl_primesOf.l1 : Nat → List Int → List Int → Int → Int → Int → Int → Int → Option (List Int)
 | 0, _, _, _, _, _, _, _ => none
 | k + 1, x0, x3, x5, x6, x7, x10, x11 => if x7 ≤ x5 then (if x7 = 0 then (none) else (if (Int.tmod x5 x7) = 0 then ((impl_moebius.f k (wrap64 (Int.tdiv x5 x7))).bind fun t861 => (if 0 ≤ (wrap64 (x7 - 1)) then (if (wrap64 (x7 - 1)) < (x0.length : Int) then (impl_primesOf.l1 k x0 x3 x5 (wrap64 (x6 + (wrap64 (t861 * (rd x0 (wrap64 (x7 - 1))))))) (wrap64 (x7 + 1)) x10 x11) else (none)) else (none))) else (impl_primesOf.l1 k x0 x3 x5 x6 (wrap64 (x7 + 1)) x10 x11))) else (if x5 = 0 then (none) else (if x3.length < 17592186044416 then (impl_primesOf.l0 k x0 (x3 ++ [wrap64 (Int.tdiv x6 x5)]) x10 (wrap64 (x11 + 1))) else (none)))
end
def impl_primesOf.f (k : Nat) (l0 : List Int) : Option (List Int) := impl_primesOf.l0 k l0 (([] : List Int)) (l0.length : Int) 0
theorem impl_primesOf.mono_l : ∀ k, (∀ y0 y1 y2 y3, LeO (impl_primesOf.l0 k y0 y1 y2 y3) (impl_primesOf.l0 (k + 1) y0 y1 y2 y3)) ∧ (∀ y0 y1 y2 y3 y4 y5 y6, LeO (impl_primesOf.l1 k y0 y1 y2 y3 y4 y5 y6) (impl_primesOf.l1 (k + 1) y0 y1 y2 y3 y4 y5 y6))
 | 0 => ⟨fun _ _ _ _ r h => by simp [impl_primesOf.l0] at h, fun _ _ _ _ _ _ _ r h => by simp [impl_primesOf.l1] at h⟩
 | k + 1 => by
  obtain ⟨ih0, ih1⟩ := impl_primesOf.mono_l k
  refine ⟨?_, ?_⟩
  ·intro y0 y1 y2 y3
   unfold impl_primesOf.l0
   repeat' first
   | (with_reducible exact ih0 _ _ _ _)
   | (with_reducible exact ih1 _ _ _ _ _ _ _)
   | (with_reducible exact impl_moebius.mono _ _)
   | (with_reducible exact LeO.refl _)
   | (with_reducible exact LeO.none _)
   | (with_reducible refine LeO.ite ?_ ?_)
   | (with_reducible refine LeO.bind ?_ (fun _ => ?_))
  ·intro y0 y1 y2 y3 y4 y5 y6
   unfold impl_primesOf.l1
   repeat' first
   | (with_reducible exact ih0 _ _ _ _)
   | (with_reducible exact ih1 _ _ _ _ _ _ _)
   | (with_reducible exact impl_moebius.mono _ _)
   | (with_reducible exact LeO.refl _)
   | (with_reducible exact LeO.none _)
   | (with_reducible refine LeO.ite ?_ ?_)
   | (with_reducible refine LeO.bind ?_ (fun _ => ?_))
theorem impl_primesOf.mono : ∀ a0 k, LeO (impl_primesOf.f k a0) (impl_primesOf.f (k + 1) a0) := by
 intro a0 k
 obtain ⟨ih0, ih1⟩ := impl_primesOf.mono_l k
 unfold impl_primesOf.f
 repeat' first
   | (with_reducible exact ih0 _ _ _ _)
   | (with_reducible exact ih1 _ _ _ _ _ _ _)
   | (with_reducible exact impl_moebius.mono _ _)
   | (with_reducible exact LeO.refl _)
   | (with_reducible exact LeO.none _)
   | (with_reducible refine LeO.ite ?_ ?_)
   | (with_reducible refine LeO.bind ?_ (fun _ => ?_))
set_option maxHeartbeats 8000000 in
set_option maxRecDepth 100000 in
theorem impl_primesOf.calls (k : Nat) (A0 : Option Addr) (c0 : Nat) (l0 : List Int) (r : List Int) (w : World) (hr0 : Kd.C (Kd.int .i64) w A0 l0.length l0) (hc0 : l0.length ≤ c0) (h : impl_primesOf.f k l0 = some r) :
  Calls Try.prog 88 #[.slice A0 l0.length c0] w fun e w' => ∃ v0_ : Value, e = .returned (v0_) ∧ Kd.R (Kd.int .i64) 2 w' w.heap.size (fun _ => True) v0_ r ∧ Below w.heap.size w w' := by
 have HR0 := Aside0.mk hr0
 have HC0 := Aside0.mk hc0
 clear hr0 hc0
 have HB := Aside0.mk (Below.refl w.heap.size w)
 have H : (impl_primesOf.l0 k l0 (([] : List Int)) (l0.length : Int) 0) = some r := h
 clear h
 obtain ⟨y858, hy858⟩ : ∃ y_ : List Int, y_ = (([] : List Int)) := ⟨_, rfl⟩
 replace H : (impl_primesOf.l0 k l0 y858 (l0.length : Int) 0) = some r := by first | (rw [hy858]; with_reducible exact H) | (have H2_ := (Option.bind_some _ _).symm.trans H; rw [hy858]; with_reducible exact H2_) | (have H2_ := (Option.bind_some _ _).symm.trans H; with_reducible exact H2_) | with_reducible exact H | (rw [hy858]; exact H) | exact H
 have Ny858 := Aside0.mk hy858
 clear hy858
 have H' := Aside0.mk H
 clear H
 go_enter Try.func88, Try.ntmps88
 go_wp2_with (first | ((with_reducible refine gate_dst (N := 8) rfl ?_); refine Kd.R_lit (Kd.int .i64) _ 2 ?hg (N := 8) ?hd (xs := ([] : List Int)) (inner := []) (ok := fun _ => True) (okp := fun _ => True) ?hr ?hp (fun _ hk => hk) trivial (Below.refl _ _) (Nat.le_refl _) (by simp) ?_; (case hd => rfl); (case hg => rfl); (case hr => first | (go_simp; done) | (go_simp; rfl)); (case hp => exact (Reps.none _ _)); intro v859 w2 ho3 hb hg_ hnew_; clear hg_ hnew_; (first | rw [← Ny858.out] at ho3 | (simp only [Int.reduceToNat] at ho3; rw [← Ny858.out] at ho3)); have n0_ := Aside0.mk (Kd.R_lower ho3 (below_size (by repeat (first | (with_reducible first | exact HB.out | apply below_alloc | apply pw_below_drewN | apply below_drew1) | exact HB.out)))); have n1_ := Aside0.mk (below_step (by repeat (first | (with_reducible first | exact HB.out | apply below_alloc | apply pw_below_drewN | apply below_drew1) | exact HB.out)) hb); clear HB; have HO860 := n0_; have HB := n1_; clear n0_ n1_; clear hb ho3))
 repeat (go_quiet (first | ((with_reducible refine gate_dst (N := 8) rfl ?_); refine Kd.R_lit (Kd.int .i64) _ 2 ?hg (N := 8) ?hd (xs := ([] : List Int)) (inner := []) (ok := fun _ => True) (okp := fun _ => True) ?hr ?hp (fun _ hk => hk) trivial (Below.refl _ _) (Nat.le_refl _) (by simp) ?_; (case hd => rfl); (case hg => rfl); (case hr => first | (go_simp; done) | (go_simp; rfl)); (case hp => exact (Reps.none _ _)); intro v859 w2 ho3 hb hg_ hnew_; clear hg_ hnew_; (first | rw [← Ny858.out] at ho3 | (simp only [Int.reduceToNat] at ho3; rw [← Ny858.out] at ho3)); have n0_ := Aside0.mk (Kd.R_lower ho3 (below_size (by repeat (first | (with_reducible first | exact HB.out | apply below_alloc | apply pw_below_drewN | apply below_drew1) | exact HB.out)))); have n1_ := Aside0.mk (below_step (by repeat (first | (with_reducible first | exact HB.out | apply below_alloc | apply pw_below_drewN | apply below_drew1) | exact HB.out)) hb); clear HB; have HO860 := n0_; have HB := n1_; clear n0_ n1_; clear hb ho3)); try go_wp2_with (first | ((with_reducible refine gate_dst (N := 8) rfl ?_); refine Kd.R_lit (Kd.int .i64) _ 2 ?hg (N := 8) ?hd (xs := ([] : List Int)) (inner := []) (ok := fun _ => True) (okp := fun _ => True) ?hr ?hp (fun _ hk => hk) trivial (Below.refl _ _) (Nat.le_refl _) (by simp) ?_; (case hd => rfl); (case hg => rfl); (case hr => first | (go_simp; done) | (go_simp; rfl)); (case hp => exact (Reps.none _ _)); intro v859 w2 ho3 hb hg_ hnew_; clear hg_ hnew_; (first | rw [← Ny858.out] at ho3 | (simp only [Int.reduceToNat] at ho3; rw [← Ny858.out] at ho3)); have n0_ := Aside0.mk (Kd.R_lower ho3 (below_size (by repeat (first | (with_reducible first | exact HB.out | apply below_alloc | apply pw_below_drewN | apply below_drew1) | exact HB.out)))); have n1_ := Aside0.mk (below_step (by repeat (first | (with_reducible first | exact HB.out | apply below_alloc | apply pw_below_drewN | apply below_drew1) | exact HB.out)) hb); clear HB; have HO860 := n0_; have HB := n1_; clear n0_ n1_; clear hb ho3)))
 go_loopg [3, 11] k (fun kq v3 v11 w' => ∃ (x3_1 : List Int) (x11_1 : Int), v11 = .int .i64 x11_1 ∧ Aside0 (impl_primesOf.l0 kq l0 x3_1 (l0.length : Int) x11_1 = some r) ∧ Aside0 (kq ≤ k) ∧ Aside0 (Kd.R (Kd.int .i64) 2 w' w.heap.size (fun _ => True) v3 x3_1) ∧ Aside0 (Below w.heap.size w w'))
 case atStart => exact ⟨(y858), (0), (by first | rfl | (simp; done) | (simp [*]; done)), H', ⟨Nat.le_refl _⟩, ⟨by (with_reducible repeat (first | apply Kd.R_alloc | apply Kd.R_drewN | apply Kd.R_drew)); exact HO860.out⟩, ⟨by repeat (first | (with_reducible first | exact HB.out | apply below_alloc | apply pw_below_drewN | apply below_drew1) | exact HB.out)⟩⟩
 case round =>
  clear H'
  try clear p2
  obtain ⟨x3_1, x11_1, rfl, HA, HK1, HO_3, HB⟩ := hrel
  cases gk with
  | zero => exact absurd HA.out (by simp [impl_primesOf.l0])
  | succ k1 =>
   have H := HA.out
   clear HA
   simp only [impl_primesOf.l0] at H
   by_cases c4 : x11_1 < (l0.length : Int)
   ·rw [if_pos c4] at H
    have c4b0 : decide (x11_1 < (l0.length : Int)) = true := decide_eq_true c4
    clear c4
    have H' := Aside0.mk H
    clear H
    go_wp2
    repeat (go_quiet (fail); try go_wp2)
    go_loopg [6, 7] k1 (fun kq v6 v7 w' => ∃ (x6_2 : Int) (x7_2 : Int), v6 = .int .i64 x6_2 ∧ v7 = .int .i64 x7_2 ∧ Aside0 (impl_primesOf.l1 kq l0 x3_1 (wrap64 (x11_1 + 1)) x6_2 x7_2 (l0.length : Int) x11_1 = some r) ∧ Aside0 (kq ≤ k1) ∧ Aside0 (Kd.R (Kd.int .i64) 2 w' w.heap.size (fun _ => True) u3 x3_1) ∧ Aside0 (Below w.heap.size w w'))
    case atStart => exact ⟨(0), (1), (by first | rfl | (simp; done) | (simp [*]; done)), (by first | rfl | (simp; done) | (simp [*]; done)), H', ⟨Nat.le_refl _⟩, ⟨by (with_reducible repeat (first | apply Kd.R_alloc | apply Kd.R_drewN | apply Kd.R_drew)); exact HO_3.out⟩, ⟨by repeat (first | (with_reducible first | exact HB.out | apply below_alloc | apply pw_below_drewN | apply below_drew1) | exact HB.out)⟩⟩
    case round =>
     clear H'
     try clear p2
     try clear c4
     try clear c4b0
     try clear p2
     obtain ⟨x6_2, x7_2, rfl, rfl, HA, HK2, HO_3, HB⟩ := hrel
     cases gk with
     | zero => exact absurd HA.out (by simp [impl_primesOf.l1])
     | succ k2 =>
      have H := HA.out
      clear HA
      simp only [impl_primesOf.l1] at H
      by_cases c5 : x7_2 ≤ (wrap64 (x11_1 + 1))
      ·rw [if_pos c5] at H
       have c5b0 : decide (x7_2 ≤ (wrap64 (x11_1 + 1))) = true := decide_eq_true c5
       clear c5
       by_cases c6 : x7_2 = 0
       ·rw [if_pos c6] at H
        exact absurd H (by simp)
       ·rw [if_neg c6] at H
        have c6b0 : (x7_2 == 0) = false := beq_eq_false_iff_ne.mpr c6
        have c6b1 : (x7_2 != 0) = true := bne_iff_ne.mpr c6
        by_cases c7 : (Int.tmod (wrap64 (x11_1 + 1)) x7_2) = 0
        ·rw [if_pos c7] at H
         have c7b0 : ((Int.tmod (wrap64 (x11_1 + 1)) x7_2) == 0) = true := beq_iff_eq.mpr c7
         have c7b1 : ((Int.tmod (wrap64 (x11_1 + 1)) x7_2) != 0) = false := bne_eq_false_iff_eq.mpr c7
         clear c7
         replace H := Option.bind_eq_some_iff.mp H
         obtain ⟨t861, A80, H⟩ := H
         replace H : (if 0 ≤ (wrap64 (x7_2 - 1)) then (if (wrap64 (x7_2 - 1)) < (l0.length : Int) then (impl_primesOf.l1 k2 l0 x3_1 (wrap64 (x11_1 + 1)) (wrap64 (x6_2 + (wrap64 (t861 * (rd l0 (wrap64 (x7_2 - 1))))))) (wrap64 (x7_2 + 1)) (l0.length : Int) x11_1) else (none)) else (none)) = some r := H
         have A8 := Aside0.mk A80
         clear A80
         obtain ⟨ji9, hji9⟩ : ∃ j_ : Int, (wrap64 (x7_2 - 1)) = j_ := ⟨_, rfl⟩
         (try rw [hji9])
         replace H : (if 0 ≤ (ji9) then (if (ji9) < (l0.length : Int) then (impl_primesOf.l1 k2 l0 x3_1 (wrap64 (x11_1 + 1)) (wrap64 (x6_2 + (wrap64 (t861 * (rd l0 (ji9)))))) (wrap64 (x7_2 + 1)) (l0.length : Int) x11_1) else (none)) else (none)) = some r := by first | (rw [hji9] at H; exact H) | (simp only [hji9] at H ⊢; exact H)
         (try rw [hji9] at A8)
         have hji9w : (IntKind.i64.wrap (x7_2 - 1)) = ji9 := (i64_w _).trans hji9
         by_cases c10 : 0 ≤ (ji9)
         ·rw [if_pos c10] at H
          have c10b0 : decide (0 ≤ (ji9)) = true := decide_eq_true c10
          clear c10
          by_cases c11 : (ji9) < (l0.length : Int)
          ·rw [if_pos c11] at H
           have c11b0 : decide ((ji9) < (l0.length : Int)) = true := decide_eq_true c11
           clear c11
           have H' := Aside0.mk H
           clear H
           have p862 : 0 ≤ ((ji9) : Int) := of_decide_eq_true (by assumption)
           have q862 : (ji9) < (l0.length : Int) := of_decide_eq_true (by assumption)
           obtain ⟨ad862, e862, hx862_0⟩ := Kd.at_int HR0.out (ji9) p862 q862
           cases e862
           replace hx862_0 := (HB.out.cell (World.block_lt_of_cell? w _ hx862_0)).trans hx862_0
           replace p862 := eq_true p862
           replace q862 := eq_true q862
           go_wp2_with (first | (go_at_call 115; (with_reducible refine (impl_moebius.calls k2 (wrap64 (Int.tdiv (wrap64 (x11_1 + 1)) x7_2)) t861 _ A8.out).mono ?_); rintro e w' ⟨rfl, ⟨nd, rfl⟩⟩; (try first | exact ⟨rfl, _, World.drewN_drewN _ _ _⟩ | exact ⟨rfl, _, Eq.trans (World.drewN_drewN _ _ _) (congrArg (World.drewN _) (Nat.add_assoc _ _ _))⟩)))
           repeat (go_quiet (first | (go_at_call 115; (with_reducible refine (impl_moebius.calls k2 (wrap64 (Int.tdiv (wrap64 (x11_1 + 1)) x7_2)) t861 _ A8.out).mono ?_); rintro e w' ⟨rfl, ⟨nd, rfl⟩⟩; (try first | exact ⟨rfl, _, World.drewN_drewN _ _ _⟩ | exact ⟨rfl, _, Eq.trans (World.drewN_drewN _ _ _) (congrArg (World.drewN _) (Nat.add_assoc _ _ _))⟩))); try go_wp2_with (first | (go_at_call 115; (with_reducible refine (impl_moebius.calls k2 (wrap64 (Int.tdiv (wrap64 (x11_1 + 1)) x7_2)) t861 _ A8.out).mono ?_); rintro e w' ⟨rfl, ⟨nd, rfl⟩⟩; (try first | exact ⟨rfl, _, World.drewN_drewN _ _ _⟩ | exact ⟨rfl, _, Eq.trans (World.drewN_drewN _ _ _) (congrArg (World.drewN _) (Nat.add_assoc _ _ _))⟩))))
           first | (first | go_roundg k2 | (refine Handed.intro k2 ?measure ?_; rotate_left; go_step; (try simp only [add_plain]); (repeat apply Exists.intro); refine ⟨?rel, rfl⟩)) | ((try subst hji9); (first | go_roundg k2 | (refine Handed.intro k2 ?measure ?_; rotate_left; go_step; (try simp only [add_plain]); (repeat apply Exists.intro); refine ⟨?rel, rfl⟩)))
           case measure => have := HK1.out; have := HK2.out; omega
           case rel => exact ⟨(wrap64 (x6_2 + (wrap64 (t861 * (rd l0 (ji9)))))), (wrap64 (x7_2 + 1)), (by first | rfl | (simp; done) | (simp only [← hji9] <;> (first | rfl | simp)) | (simp [*]; done)), (by first | rfl | (simp; done) | (simp [*]; done)), H', ⟨by have := HK1.out; have := HK2.out; omega⟩, ⟨by (with_reducible repeat (first | apply Kd.R_alloc | apply Kd.R_drewN | apply Kd.R_drew)); exact HO_3.out⟩, ⟨by repeat (first | (with_reducible first | exact HB.out | apply below_alloc | apply pw_below_drewN | apply below_drew1) | exact HB.out)⟩⟩
          ·rw [if_neg c11] at H
           exact absurd H (by simp)
         ·rw [if_neg c10] at H
          exact absurd H (by simp)
        ·rw [if_neg c7] at H
         have c7b0 : ((Int.tmod (wrap64 (x11_1 + 1)) x7_2) == 0) = false := beq_eq_false_iff_ne.mpr c7
         have c7b1 : ((Int.tmod (wrap64 (x11_1 + 1)) x7_2) != 0) = true := bne_iff_ne.mpr c7
         have H' := Aside0.mk H
         clear H
         go_wp2
         repeat (go_quiet (fail); try go_wp2)
         first | go_roundg k2 | (refine Handed.intro k2 ?measure ?_; rotate_left; go_step; (try simp only [add_plain]); (repeat apply Exists.intro); refine ⟨?rel, rfl⟩)
         case measure => have := HK1.out; have := HK2.out; omega
         case rel => exact ⟨(x6_2), (wrap64 (x7_2 + 1)), (by first | rfl | (simp; done) | (simp [*]; done)), (by first | rfl | (simp; done) | (simp [*]; done)), H', ⟨by have := HK1.out; have := HK2.out; omega⟩, ⟨by (with_reducible repeat (first | apply Kd.R_alloc | apply Kd.R_drewN | apply Kd.R_drew)); exact HO_3.out⟩, ⟨by repeat (first | (with_reducible first | exact HB.out | apply below_alloc | apply pw_below_drewN | apply below_drew1) | exact HB.out)⟩⟩
      ·rw [if_neg c5] at H
       have c5b0 : decide (x7_2 ≤ (wrap64 (x11_1 + 1))) = false := decide_eq_false c5
       clear c5
       by_cases c12 : (wrap64 (x11_1 + 1)) = 0
       ·rw [if_pos c12] at H
        exact absurd H (by simp)
       ·rw [if_neg c12] at H
        have c12b0 : ((wrap64 (x11_1 + 1)) == 0) = false := beq_eq_false_iff_ne.mpr c12
        have c12b1 : ((wrap64 (x11_1 + 1)) != 0) = true := bne_iff_ne.mpr c12
        by_cases c13 : x3_1.length < 17592186044416
        ·rw [if_pos c13] at H
         have LMc13 := Aside0.mk c13
         clear c13
         obtain ⟨y863, hy863⟩ : ∃ y_ : List Int, y_ = (x3_1 ++ [wrap64 (Int.tdiv x6_2 (wrap64 (x11_1 + 1)))]) := ⟨_, rfl⟩
         replace H : (impl_primesOf.l0 k2 l0 y863 (l0.length : Int) (wrap64 (x11_1 + 1))) = some r := by first | (rw [hy863]; with_reducible exact H) | (have H2_ := (Option.bind_some _ _).symm.trans H; rw [hy863]; with_reducible exact H2_) | (have H2_ := (Option.bind_some _ _).symm.trans H; with_reducible exact H2_) | with_reducible exact H | (rw [hy863]; exact H) | exact H
         have Ny863 := Aside0.mk hy863
         clear hy863
         have H' := Aside0.mk H
         clear H
         go_wp2_with (first | ((with_reducible refine gate_builtin (b := .append) (xs := #[.tmp 37, .tmp 41]) rfl ?_); at_builtin; refine Kd.R_append (Kd.int .i64) (w0 := w) w.heap.size rfl (.tmp 37) (.tmp 41) 24 2 (.int .i64 0) 8 rfl Try.underlying24 info2 rfl (by decide) (by omega) u3 x3_1 (wrap64 (Int.tdiv x6_2 (wrap64 (x11_1 + 1)))) [.int .i64 (wrap64 (Int.tdiv x6_2 (wrap64 (x11_1 + 1))))] (fun _ => True) (fun _ => False) rfl rfl ?aP (fun _ hk => hk.elim) ?aF ?aO ?aB ?aS ?aL ?_; (case aP => exact rfl); (case aB => exact (by repeat (first | (with_reducible first | exact HB.out | apply below_alloc | apply pw_below_drewN | apply below_drew1) | exact HB.out))); (case aF => exact (fun _ _ => trivial)); (case aO => exact (by (with_reducible repeat (first | apply Kd.R_alloc | apply Kd.R_drewN | apply Kd.R_drew)); exact HO_3.out)); (case aS => exact (below_size (by repeat (first | (with_reducible first | exact HB.out | apply below_alloc | apply pw_below_drewN | apply below_drew1) | exact HB.out)))); (case aL => have := LMc13.out; omega); intro v864 w14 ho hb hg hat; rw [← Ny863.out] at ho; have n0_ := Aside0.mk (hb); have n1_ := Aside0.mk (ho); clear HB; clear HO_3; have HB := n0_; have HO865 := n1_; clear n0_ n1_; clear ho hb hg hat))
         repeat (go_quiet (first | ((with_reducible refine gate_builtin (b := .append) (xs := #[.tmp 37, .tmp 41]) rfl ?_); at_builtin; refine Kd.R_append (Kd.int .i64) (w0 := w) w.heap.size rfl (.tmp 37) (.tmp 41) 24 2 (.int .i64 0) 8 rfl Try.underlying24 info2 rfl (by decide) (by omega) u3 x3_1 (wrap64 (Int.tdiv x6_2 (wrap64 (x11_1 + 1)))) [.int .i64 (wrap64 (Int.tdiv x6_2 (wrap64 (x11_1 + 1))))] (fun _ => True) (fun _ => False) rfl rfl ?aP (fun _ hk => hk.elim) ?aF ?aO ?aB ?aS ?aL ?_; (case aP => exact rfl); (case aB => exact (by repeat (first | (with_reducible first | exact HB.out | apply below_alloc | apply pw_below_drewN | apply below_drew1) | exact HB.out))); (case aF => exact (fun _ _ => trivial)); (case aO => exact (by (with_reducible repeat (first | apply Kd.R_alloc | apply Kd.R_drewN | apply Kd.R_drew)); exact HO_3.out)); (case aS => exact (below_size (by repeat (first | (with_reducible first | exact HB.out | apply below_alloc | apply pw_below_drewN | apply below_drew1) | exact HB.out)))); (case aL => have := LMc13.out; omega); intro v864 w14 ho hb hg hat; rw [← Ny863.out] at ho; have n0_ := Aside0.mk (hb); have n1_ := Aside0.mk (ho); clear HB; clear HO_3; have HB := n0_; have HO865 := n1_; clear n0_ n1_; clear ho hb hg hat)); try go_wp2_with (first | ((with_reducible refine gate_builtin (b := .append) (xs := #[.tmp 37, .tmp 41]) rfl ?_); at_builtin; refine Kd.R_append (Kd.int .i64) (w0 := w) w.heap.size rfl (.tmp 37) (.tmp 41) 24 2 (.int .i64 0) 8 rfl Try.underlying24 info2 rfl (by decide) (by omega) u3 x3_1 (wrap64 (Int.tdiv x6_2 (wrap64 (x11_1 + 1)))) [.int .i64 (wrap64 (Int.tdiv x6_2 (wrap64 (x11_1 + 1))))] (fun _ => True) (fun _ => False) rfl rfl ?aP (fun _ hk => hk.elim) ?aF ?aO ?aB ?aS ?aL ?_; (case aP => exact rfl); (case aB => exact (by repeat (first | (with_reducible first | exact HB.out | apply below_alloc | apply pw_below_drewN | apply below_drew1) | exact HB.out))); (case aF => exact (fun _ _ => trivial)); (case aO => exact (by (with_reducible repeat (first | apply Kd.R_alloc | apply Kd.R_drewN | apply Kd.R_drew)); exact HO_3.out)); (case aS => exact (below_size (by repeat (first | (with_reducible first | exact HB.out | apply below_alloc | apply pw_below_drewN | apply below_drew1) | exact HB.out)))); (case aL => have := LMc13.out; omega); intro v864 w14 ho hb hg hat; rw [← Ny863.out] at ho; have n0_ := Aside0.mk (hb); have n1_ := Aside0.mk (ho); clear HB; clear HO_3; have HB := n0_; have HO865 := n1_; clear n0_ n1_; clear ho hb hg hat)))
         first | go_roundg k2 | (refine Handed.intro k2 ?measure ?_; rotate_left; go_step; (try simp only [add_plain]); (repeat apply Exists.intro); refine ⟨?rel, rfl⟩)
         case measure => have := HK1.out; have := HK2.out; omega
         case rel => exact ⟨(y863), (wrap64 (x11_1 + 1)), (by first | rfl | (simp; done) | (simp [*]; done)), H', ⟨by have := HK1.out; have := HK2.out; omega⟩, ⟨by (with_reducible repeat (first | apply Kd.R_alloc | apply Kd.R_drewN | apply Kd.R_drew)); exact HO865.out⟩, ⟨by repeat (first | (with_reducible first | exact HB.out | apply below_alloc | apply pw_below_drewN | apply below_drew1) | exact HB.out)⟩⟩
        ·rw [if_neg c13] at H
         exact absurd H (by simp)
   ·rw [if_neg c4] at H
    have c4b0 : decide (x11_1 < (l0.length : Int)) = false := decide_eq_false c4
    clear c4
    obtain rfl := Option.some.inj H
    go_wp2
    repeat (go_quiet (fail); try go_wp2)
    go_ret
    exact ⟨_, by first | rfl | (simp [errW_none, errW_some] <;> rfl) | (simp [*, errW_none, errW_some] <;> rfl), by (with_reducible repeat (first | apply Kd.R_alloc | apply Kd.R_drewN | apply Kd.R_drew)); exact HO_3.out, by repeat (first | (with_reducible first | exact HB.out | apply below_alloc | apply pw_below_drewN | apply below_drew1) | exact HB.out)⟩

/-! ### spec_l02Moebius: function 96 -/
def spec_l02Moebius.l0 : Nat → Int → Int → Int → Option (Int)
 | 0, _, _, _ => none
 | k + 1, x0, x3, x4 => if x4 ≤ x0 then (if x4 = 0 then (none) else (if (Int.tmod x0 x4) = 0 then (if (Int.tmod (wrap64 (Int.tdiv x0 x4)) x4) = 0 then (some 0) else (spec_l02Moebius.l0 k (wrap64 (Int.tdiv x0 x4)) (wrap64 (-x3)) (wrap64 (x4 + 1)))) else (spec_l02Moebius.l0 k x0 x3 (wrap64 (x4 + 1))))) else (some x3)
def spec_l02Moebius.f (k : Nat) (a0 : Int) : Option (Int) := spec_l02Moebius.l0 k a0 1 2
theorem spec_l02Moebius.mono_l : ∀ k, (∀ y0 y1 y2, LeO (spec_l02Moebius.l0 k y0 y1 y2) (spec_l02Moebius.l0 (k + 1) y0 y1 y2))
 | 0 => fun _ _ _ r h => by simp [spec_l02Moebius.l0] at h
 | k + 1 => by
  have ih0 := spec_l02Moebius.mono_l k
  ·intro y0 y1 y2
   unfold spec_l02Moebius.l0
   repeat' first
   | (with_reducible exact ih0 _ _ _)
   | (with_reducible exact LeO.refl _)
   | (with_reducible exact LeO.none _)
   | (with_reducible refine LeO.ite ?_ ?_)
   | (with_reducible refine LeO.bind ?_ (fun _ => ?_))
theorem spec_l02Moebius.mono : ∀ a0 k, LeO (spec_l02Moebius.f k a0) (spec_l02Moebius.f (k + 1) a0) := by
 intro a0 k
 have ih0 := spec_l02Moebius.mono_l k
 unfold spec_l02Moebius.f
 repeat' first
   | (with_reducible exact ih0 _ _ _)
   | (with_reducible exact LeO.refl _)
   | (with_reducible exact LeO.none _)
   | (with_reducible refine LeO.ite ?_ ?_)
   | (with_reducible refine LeO.bind ?_ (fun _ => ?_))
set_option maxHeartbeats 8000000 in
set_option maxRecDepth 100000 in
theorem spec_l02Moebius.calls (k : Nat) (a0 : Int) (r : Int) (w : World) (h : spec_l02Moebius.f k a0 = some r) :
  Calls Try.prog 96 #[.int .i64 a0] w fun e w' => e = .returned (.int .i64 r) ∧ Drawn0 w w' := by
 have H : (spec_l02Moebius.l0 k a0 1 2) = some r := h
 clear h
 have H' := Aside0.mk H
 clear H
 go_enter Try.func96, Try.ntmps96
 go_wp2
 go_loopg [0, 3, 4] k (fun kq v0 v3 v4 w' => ∃ (x0_1 : Int) (x3_1 : Int) (x4_1 : Int), v0 = .int .i64 x0_1 ∧ v3 = .int .i64 x3_1 ∧ v4 = .int .i64 x4_1 ∧ Aside0 (spec_l02Moebius.l0 kq x0_1 x3_1 x4_1 = some r) ∧ Aside0 (kq ≤ k) ∧ Drawn0 w w')
 case atStart => exact ⟨(a0), (1), (2), (by first | rfl | (simp; done) | (simp [*]; done)), (by first | rfl | (simp; done) | (simp [*]; done)), (by first | rfl | (simp; done) | (simp [*]; done)), H', ⟨Nat.le_refl _⟩, by repeat (first | exact Drawn0.refl _ | apply Drawn0.step)⟩
 case round =>
  clear H'
  obtain ⟨x0_1, x3_1, x4_1, rfl, rfl, rfl, HA, HK1, ⟨m1, rfl⟩⟩ := hrel
  cases gk with
  | zero => exact absurd HA.out (by simp [spec_l02Moebius.l0])
  | succ k1 =>
   have H := HA.out
   clear HA
   simp only [spec_l02Moebius.l0] at H
   by_cases c2 : x4_1 ≤ x0_1
   ·rw [if_pos c2] at H
    have c2b0 : decide (x4_1 ≤ x0_1) = true := decide_eq_true c2
    clear c2
    by_cases c3 : x4_1 = 0
    ·rw [if_pos c3] at H
     exact absurd H (by simp)
    ·rw [if_neg c3] at H
     have c3b0 : (x4_1 == 0) = false := beq_eq_false_iff_ne.mpr c3
     have c3b1 : (x4_1 != 0) = true := bne_iff_ne.mpr c3
     by_cases c4 : (Int.tmod x0_1 x4_1) = 0
     ·rw [if_pos c4] at H
      have c4b0 : ((Int.tmod x0_1 x4_1) == 0) = true := beq_iff_eq.mpr c4
      have c4b1 : ((Int.tmod x0_1 x4_1) != 0) = false := bne_eq_false_iff_eq.mpr c4
      clear c4
      by_cases c5 : (Int.tmod (wrap64 (Int.tdiv x0_1 x4_1)) x4_1) = 0
      ·rw [if_pos c5] at H
       have c5b0 : ((Int.tmod (wrap64 (Int.tdiv x0_1 x4_1)) x4_1) == 0) = true := beq_iff_eq.mpr c5
       have c5b1 : ((Int.tmod (wrap64 (Int.tdiv x0_1 x4_1)) x4_1) != 0) = false := bne_eq_false_iff_eq.mpr c5
       clear c5
       obtain rfl := Option.some.inj H
       go_wp2
       go_ret
       exact ⟨by first | rfl | (simp; done) | (simp [*]; done), by repeat (first | exact Drawn0.refl _ | apply Drawn0.step)⟩
      ·rw [if_neg c5] at H
       have c5b0 : ((Int.tmod (wrap64 (Int.tdiv x0_1 x4_1)) x4_1) == 0) = false := beq_eq_false_iff_ne.mpr c5
       have c5b1 : ((Int.tmod (wrap64 (Int.tdiv x0_1 x4_1)) x4_1) != 0) = true := bne_iff_ne.mpr c5
       have H' := Aside0.mk H
       clear H
       go_wp2
       go_roundg k1
       case measure => have := HK1.out; omega
       case rel => exact ⟨(wrap64 (Int.tdiv x0_1 x4_1)), (wrap64 (-x3_1)), (wrap64 (x4_1 + 1)), (by first | rfl | (simp; done) | (simp [*]; done)), (by first | rfl | (simp; done) | (simp [*]; done)), (by first | rfl | (simp; done) | (simp [*]; done)), H', ⟨by have := HK1.out; omega⟩, by repeat (first | exact Drawn0.refl _ | apply Drawn0.step)⟩
     ·rw [if_neg c4] at H
      have c4b0 : ((Int.tmod x0_1 x4_1) == 0) = false := beq_eq_false_iff_ne.mpr c4
      have c4b1 : ((Int.tmod x0_1 x4_1) != 0) = true := bne_iff_ne.mpr c4
      have H' := Aside0.mk H
      clear H
      go_wp2
      go_roundg k1
      case measure => have := HK1.out; omega
      case rel => exact ⟨(x0_1), (x3_1), (wrap64 (x4_1 + 1)), (by first | rfl | (simp; done) | (simp [*]; done)), (by first | rfl | (simp; done) | (simp [*]; done)), (by first | rfl | (simp; done) | (simp [*]; done)), H', ⟨by have := HK1.out; omega⟩, by repeat (first | exact Drawn0.refl _ | apply Drawn0.step)⟩
   ·rw [if_neg c2] at H
    have c2b0 : decide (x4_1 ≤ x0_1) = false := decide_eq_false c2
    clear c2
    obtain rfl := Option.some.inj H
    go_wp2
    go_ret
    exact ⟨by first | rfl | (simp; done) | (simp [*]; done), by repeat (first | exact Drawn0.refl _ | apply Drawn0.step)⟩

/-! ### spec_PrimeCounts: function 48 -/
mutual
def spec_PrimeCounts.l0 : Nat → Int → List Int → List Int → Int → Option (List Int × Int)
 | 0, _, _, _, _ => none
 | k + 1, x1, x7, x8, x9 => if x9 ≤ x1 then (spec_PrimeCounts.l1 k x1 x7 x8 x9 0 1) else (some (x8, 0))
def spec_PrimeCounts.l1 : Nat → Int → List Int → List Int → Int → Int → Int → Option (List Int × Int)
 | 0, _, _, _, _, _, _ => none
 | k + 1, x1, x7, x8, x9, x10, x11 => if x11 ≤ x9 then (if x11 = 0 then (none) else (if (Int.tmod x9 x11) = 0 then ((spec_l02Moebius.f k (wrap64 (Int.tdiv x9 x11))).bind fun t1095 => (if 0 ≤ (wrap64 (x11 - 1)) then (if (wrap64 (x11 - 1)) < (x7.length : Int) then (spec_PrimeCounts.l1 k x1 x7 x8 x9 (wrap64 (x10 + (wrap64 (t1095 * (rd x7 (wrap64 (x11 - 1))))))) (wrap64 (x11 + 1))) else (none)) else (none))) else (spec_PrimeCounts.l1 k x1 x7 x8 x9 x10 (wrap64 (x11 + 1))))) else (if x9 = 0 then (none) else (if x8.length < 17592186044416 then (spec_PrimeCounts.l0 k x1 x7 (x8 ++ [wrap64 (Int.tdiv x10 x9)]) (wrap64 (x9 + 1))) else (none)))
end
def spec_PrimeCounts.f (k : Nat) (a0_0 : Int) (l0_1 : List (List Int)) (a1 : Int) : Option (List Int × Int) := (spec_l02Code.f k a0_0 l0_1 a1 1).bind fun t1088 => (if t1088 = 0 then ((spec_l02Straight.f k a0_0 l0_1 a1).bind fun t1089 => (spec_PrimeCounts.l0 k a1 t1089 (([] : List Int)) 1)) else (some (([] : List Int), t1088)))
theorem spec_PrimeCounts.mono_l : ∀ k, (∀ y0 y1 y2 y3, LeO (spec_PrimeCounts.l0 k y0 y1 y2 y3) (spec_PrimeCounts.l0 (k + 1) y0 y1 y2 y3)) ∧ (∀ y0 y1 y2 y3 y4 y5, LeO (spec_PrimeCounts.l1 k y0 y1 y2 y3 y4 y5) (spec_PrimeCounts.l1 (k + 1) y0 y1 y2 y3 y4 y5))
 | 0 => ⟨fun _ _ _ _ r h => by simp [spec_PrimeCounts.l0] at h, fun _ _ _ _ _ _ r h => by simp [spec_PrimeCounts.l1] at h⟩
 | k + 1 => by
  obtain ⟨ih0, ih1⟩ := spec_PrimeCounts.mono_l k
  refine ⟨?_, ?_⟩
  ·intro y0 y1 y2 y3
   unfold spec_PrimeCounts.l0
   repeat' first
   | (with_reducible exact ih0 _ _ _ _)
   | (with_reducible exact ih1 _ _ _ _ _ _)
   | (with_reducible exact spec_l02Code.mono _ _ _ _ _)
   | (with_reducible exact spec_l02Moebius.mono _ _)
   | (with_reducible exact spec_l02Straight.mono _ _ _ _)
   | (with_reducible exact LeO.refl _)
   | (with_reducible exact LeO.none _)
   | (with_reducible refine LeO.ite ?_ ?_)
   | (with_reducible refine LeO.bind ?_ (fun _ => ?_))
  ·intro y0 y1 y2 y3 y4 y5
   unfold spec_PrimeCounts.l1
   repeat' first
   | (with_reducible exact ih0 _ _ _ _)
   | (with_reducible exact ih1 _ _ _ _ _ _)
   | (with_reducible exact spec_l02Code.mono _ _ _ _ _)
   | (with_reducible exact spec_l02Moebius.mono _ _)
   | (with_reducible exact spec_l02Straight.mono _ _ _ _)
   | (with_reducible exact LeO.refl _)
   | (with_reducible exact LeO.none _)
   | (with_reducible refine LeO.ite ?_ ?_)
   | (with_reducible refine LeO.bind ?_ (fun _ => ?_))
theorem spec_PrimeCounts.mono : ∀ a0 a1 a2 k, LeO (spec_PrimeCounts.f k a0 a1 a2) (spec_PrimeCounts.f (k + 1) a0 a1 a2) := by
 intro a0 a1 a2 k
 obtain ⟨ih0, ih1⟩ := spec_PrimeCounts.mono_l k
 unfold spec_PrimeCounts.f
 repeat' first
   | (with_reducible exact ih0 _ _ _ _)
   | (with_reducible exact ih1 _ _ _ _ _ _)
   | (with_reducible exact spec_l02Code.mono _ _ _ _ _)
   | (with_reducible exact spec_l02Moebius.mono _ _)
   | (with_reducible exact spec_l02Straight.mono _ _ _ _)
   | (with_reducible exact LeO.refl _)
   | (with_reducible exact LeO.none _)
   | (with_reducible refine LeO.ite ?_ ?_)
   | (with_reducible refine LeO.bind ?_ (fun _ => ?_))
set_option maxHeartbeats 8000000 in
set_option maxRecDepth 100000 in
theorem spec_PrimeCounts.calls (k : Nat) (a0_0 : Int) (A0_1 : Option Addr) (c0_1 : Nat) (l0_1 : List (List Int)) (a1 : Int) (r1 : List Int) (r2 : Int) (w : World) (hr0_1 : Kd.C (Kd.slice 2 (Kd.int .i64)) w A0_1 l0_1.length l0_1) (hc0_1 : l0_1.length ≤ c0_1) (h : spec_PrimeCounts.f k a0_0 l0_1 a1 = some (r1, r2)) :
  Calls Try.prog 48 #[.agg #[.int .i64 a0_0, .slice A0_1 l0_1.length c0_1], .int .i64 a1] w fun e w' => ∃ v0_ : Value, e = .returned (.tuple #[v0_, .int .i64 r2]) ∧ Kd.R (Kd.int .i64) 2 w' w.heap.size (fun _ => True) v0_ r1 ∧ Below w.heap.size w w' := by
 have hu37 := Try.underlying37
 have HR0_1 := Aside0.mk hr0_1
 have HC0_1 := Aside0.mk hc0_1
 clear hr0_1 hc0_1
 have HB := Aside0.mk (Below.refl w.heap.size w)
 have H : ((spec_l02Code.f k a0_0 l0_1 a1 1).bind fun t1088 => (if t1088 = 0 then ((spec_l02Straight.f k a0_0 l0_1 a1).bind fun t1089 => (spec_PrimeCounts.l0 k a1 t1089 (([] : List Int)) 1)) else (some (([] : List Int), t1088)))) = some (r1, r2) := h
 clear h
 replace H := Option.bind_eq_some_iff.mp H
 obtain ⟨t1088, A30, H⟩ := H
 replace H : (if t1088 = 0 then ((spec_l02Straight.f k a0_0 l0_1 a1).bind fun t1089 => (spec_PrimeCounts.l0 k a1 t1089 (([] : List Int)) 1)) else (some (([] : List Int), t1088))) = some (r1, r2) := H
 have A3 := Aside0.mk A30
 clear A30
 by_cases c4 : t1088 = 0
 ·rw [if_pos c4] at H
  have c4b0 : (t1088 == 0) = true := beq_iff_eq.mpr c4
  have c4b1 : (t1088 != 0) = false := bne_eq_false_iff_eq.mpr c4
  clear c4
  replace H := Option.bind_eq_some_iff.mp H
  obtain ⟨t1089, A50, H⟩ := H
  replace H : (spec_PrimeCounts.l0 k a1 t1089 (([] : List Int)) 1) = some (r1, r2) := H
  have A5 := Aside0.mk A50
  clear A50
  obtain ⟨y1092, hy1092⟩ : ∃ y_ : List Int, y_ = (([] : List Int)) := ⟨_, rfl⟩
  replace H : (spec_PrimeCounts.l0 k a1 t1089 y1092 1) = some (r1, r2) := by first | (rw [hy1092]; with_reducible exact H) | (have H2_ := (Option.bind_some _ _).symm.trans H; rw [hy1092]; with_reducible exact H2_) | (have H2_ := (Option.bind_some _ _).symm.trans H; with_reducible exact H2_) | with_reducible exact H | (rw [hy1092]; exact H) | exact H
  have Ny1092 := Aside0.mk hy1092
  clear hy1092
  have H' := Aside0.mk H
  clear H
  go_enter Try.func48, Try.ntmps48
  go_wp2_with (first | ((with_reducible refine gate_dst (N := 2) rfl ?_); refine box_event ?hg (N := 2) ?hd (cs := #[.int .i64 a0_0, .slice A0_1 l0_1.length c0_1]) (t := 37) ?hr ?_; (case hd => rfl); (case hg => rfl); (case hr => first | (go_simp; done) | (go_simp; rfl)); intro gb1087 hg w6 hbox hb; have n0_ := Aside0.mk (below_step (by repeat (first | (with_reducible first | exact HB.out | apply below_alloc | apply pw_below_drewN | apply below_drew1) | exact HB.out)) hb); have n1_ := Aside0.mk (hbox); have n2_ := Aside0.mk ((by rw [hg]; exact (below_size (by repeat (first | (with_reducible first | exact HB.out | apply below_alloc | apply pw_below_drewN | apply below_drew1) | exact HB.out))) : w.heap.size ≤ gb1087)); have n3_ := Aside0.mk ((by rw [hg]; exact (below_size (by repeat (first | (with_reducible first | exact HB.out | apply below_alloc | apply pw_below_drewN | apply below_drew1) | exact HB.out))) : w.heap.size ≤ gb1087)); clear HB; have HB := n0_; have BK1087 := n1_; have GW1087 := n2_; have GE1087 := n3_; clear n0_ n1_ n2_ n3_; clear hb hbox hg; have hcz7_0 : w6.cell? ⟨gb1087, 0, none⟩ = some (.int .i64 a0_0) := (blk_cell BK1087.out 0).trans rfl; have hcz7_1 : w6.cell? ⟨gb1087, 1, none⟩ = some (.slice A0_1 l0_1.length c0_1) := (blk_cell BK1087.out 1).trans rfl; have hfz7_0 := blk_frozen BK1087.out 0; have hfz7_1 := blk_frozen BK1087.out 1) | (go_at_call 80; (with_reducible refine (spec_l02Code.calls k a0_0 _ _ l0_1 a1 1 t1088 _ ?side1 ?side2 A3.out).mono ?_); (case side1 => repeat (first | exact (Kd.C_below HR0_1.out HB.out) | (with_reducible refine Kd.C_alloc ?_ _) | (with_reducible refine Kd.C_drewN ?_ _) | (with_reducible refine Kd.C_drew ?_))); (case side2 => exact HC0_1.out); rintro e w8 ⟨rfl, hb⟩; have n0_ := Aside0.mk (blk_below (g := gb1087) (o := .cells #[.int .i64 a0_0, .slice A0_1 l0_1.length c0_1] 37 (0, 0)) (by (with_reducible repeat (first | refine blk_drewN ?_ _ | refine blk_drew ?_ | refine blk_alloc ?_ _)); exact BK1087.out) hb); have n1_ := Aside0.mk (below_step (by repeat (first | (with_reducible first | exact HB.out | apply below_alloc | apply pw_below_drewN | apply below_drew1 | refine below_set ?_ GE1087.out) | exact HB.out)) hb); clear BK1087; clear HB; have BK1087 := n0_; have HB := n1_; clear n0_ n1_; (try clear hb); (try clear hb2); (try clear hk); (try clear hi); have hcz9_0 : w8.cell? ⟨gb1087, 0, none⟩ = some (.int .i64 a0_0) := (blk_cell BK1087.out 0).trans rfl; have hcz9_1 : w8.cell? ⟨gb1087, 1, none⟩ = some (.slice A0_1 l0_1.length c0_1) := (blk_cell BK1087.out 1).trans rfl; have hfz9_0 := blk_frozen BK1087.out 0; have hfz9_1 := blk_frozen BK1087.out 1) | (go_at_call 81; (with_reducible refine (spec_l02Straight.calls k a0_0 _ _ l0_1 a1 t1089 _ ?side1 ?side2 A5.out).mono ?_); (case side1 => repeat (first | exact (Kd.C_below HR0_1.out HB.out) | (with_reducible refine Kd.C_alloc ?_ _) | (with_reducible refine Kd.C_drewN ?_ _) | (with_reducible refine Kd.C_drew ?_))); (case side2 => exact HC0_1.out); rintro e w10 ⟨v1090, rfl, ho0, hb⟩; have n0_ := Aside0.mk (Kd.R_lower ho0 (below_size (by repeat (first | (with_reducible first | exact HB.out | apply below_alloc | apply pw_below_drewN | apply below_drew1 | refine below_set ?_ GE1087.out) | exact HB.out)))); have n1_ := Aside0.mk (blk_below (g := gb1087) (o := .cells #[.int .i64 a0_0, .slice A0_1 l0_1.length c0_1] 37 (0, 0)) (by (with_reducible repeat (first | refine blk_drewN ?_ _ | refine blk_drew ?_ | refine blk_alloc ?_ _)); exact BK1087.out) hb); have n2_ := Aside0.mk (below_step (by repeat (first | (with_reducible first | exact HB.out | apply below_alloc | apply pw_below_drewN | apply below_drew1 | refine below_set ?_ GE1087.out) | exact HB.out)) hb); clear BK1087; clear HB; have HO1091 := n0_; have BK1087 := n1_; have HB := n2_; clear n0_ n1_ n2_; (try clear hb); (try clear hb2); (try clear hk); (try clear hi); (try clear ho0)) | ((with_reducible refine gate_dst (N := 21) rfl ?_); refine Kd.R_lit (Kd.int .i64) _ 2 ?hg (N := 21) ?hd (xs := ([] : List Int)) (inner := []) (ok := fun _ => True) (okp := fun _ => True) ?hr ?hp (fun _ hk => hk) trivial (Below.refl _ _) (Nat.le_refl _) (by simp) ?_; (case hd => rfl); (case hg => rfl); (case hr => first | (go_simp; done) | (go_simp; rfl)); (case hp => exact (Reps.none _ _)); intro v1093 w11 ho12 hb hg_ hnew_; clear hg_ hnew_; (first | rw [← Ny1092.out] at ho12 | (simp only [Int.reduceToNat] at ho12; rw [← Ny1092.out] at ho12)); have n0_ := Aside0.mk (Kd.R_elder' (by (with_reducible repeat (first | apply Kd.R_alloc | apply Kd.R_drewN | apply Kd.R_drew)); exact HO1091.out) (Kd.R_base ho12) hb); have n1_ := Aside0.mk (Kd.R_lower (Kd.R_new' ho12 (Kd.R_lt (by (with_reducible repeat (first | apply Kd.R_alloc | apply Kd.R_drewN | apply Kd.R_drew)); exact HO1091.out))) (below_size (by repeat (first | (with_reducible first | exact HB.out | apply below_alloc | apply pw_below_drewN | apply below_drew1 | refine below_set ?_ GE1087.out) | exact HB.out)))); have n2_ := Aside0.mk (blk_below (g := gb1087) (o := .cells #[.int .i64 a0_0, .slice A0_1 l0_1.length c0_1] 37 (0, 0)) (by (with_reducible repeat (first | refine blk_drewN ?_ _ | refine blk_drew ?_ | refine blk_alloc ?_ _)); exact BK1087.out) hb); have n3_ := Aside0.mk (below_step (by repeat (first | (with_reducible first | exact HB.out | apply below_alloc | apply pw_below_drewN | apply below_drew1 | refine below_set ?_ GE1087.out) | exact HB.out)) hb); clear HO1091; clear BK1087; clear HB; have HO1091 := n0_; have HO1094 := n1_; have BK1087 := n2_; have HB := n3_; clear n0_ n1_ n2_ n3_; clear hb ho12))
  repeat (go_quiet (first | ((with_reducible refine gate_dst (N := 2) rfl ?_); refine box_event ?hg (N := 2) ?hd (cs := #[.int .i64 a0_0, .slice A0_1 l0_1.length c0_1]) (t := 37) ?hr ?_; (case hd => rfl); (case hg => rfl); (case hr => first | (go_simp; done) | (go_simp; rfl)); intro gb1087 hg w6 hbox hb; have n0_ := Aside0.mk (below_step (by repeat (first | (with_reducible first | exact HB.out | apply below_alloc | apply pw_below_drewN | apply below_drew1) | exact HB.out)) hb); have n1_ := Aside0.mk (hbox); have n2_ := Aside0.mk ((by rw [hg]; exact (below_size (by repeat (first | (with_reducible first | exact HB.out | apply below_alloc | apply pw_below_drewN | apply below_drew1) | exact HB.out))) : w.heap.size ≤ gb1087)); have n3_ := Aside0.mk ((by rw [hg]; exact (below_size (by repeat (first | (with_reducible first | exact HB.out | apply below_alloc | apply pw_below_drewN | apply below_drew1) | exact HB.out))) : w.heap.size ≤ gb1087)); clear HB; have HB := n0_; have BK1087 := n1_; have GW1087 := n2_; have GE1087 := n3_; clear n0_ n1_ n2_ n3_; clear hb hbox hg; have hcz7_0 : w6.cell? ⟨gb1087, 0, none⟩ = some (.int .i64 a0_0) := (blk_cell BK1087.out 0).trans rfl; have hcz7_1 : w6.cell? ⟨gb1087, 1, none⟩ = some (.slice A0_1 l0_1.length c0_1) := (blk_cell BK1087.out 1).trans rfl; have hfz7_0 := blk_frozen BK1087.out 0; have hfz7_1 := blk_frozen BK1087.out 1) | (go_at_call 80; (with_reducible refine (spec_l02Code.calls k a0_0 _ _ l0_1 a1 1 t1088 _ ?side1 ?side2 A3.out).mono ?_); (case side1 => repeat (first | exact (Kd.C_below HR0_1.out HB.out) | (with_reducible refine Kd.C_alloc ?_ _) | (with_reducible refine Kd.C_drewN ?_ _) | (with_reducible refine Kd.C_drew ?_))); (case side2 => exact HC0_1.out); rintro e w8 ⟨rfl, hb⟩; have n0_ := Aside0.mk (blk_below (g := gb1087) (o := .cells #[.int .i64 a0_0, .slice A0_1 l0_1.length c0_1] 37 (0, 0)) (by (with_reducible repeat (first | refine blk_drewN ?_ _ | refine blk_drew ?_ | refine blk_alloc ?_ _)); exact BK1087.out) hb); have n1_ := Aside0.mk (below_step (by repeat (first | (with_reducible first | exact HB.out | apply below_alloc | apply pw_below_drewN | apply below_drew1 | refine below_set ?_ GE1087.out) | exact HB.out)) hb); clear BK1087; clear HB; have BK1087 := n0_; have HB := n1_; clear n0_ n1_; (try clear hb); (try clear hb2); (try clear hk); (try clear hi); have hcz9_0 : w8.cell? ⟨gb1087, 0, none⟩ = some (.int .i64 a0_0) := (blk_cell BK1087.out 0).trans rfl; have hcz9_1 : w8.cell? ⟨gb1087, 1, none⟩ = some (.slice A0_1 l0_1.length c0_1) := (blk_cell BK1087.out 1).trans rfl; have hfz9_0 := blk_frozen BK1087.out 0; have hfz9_1 := blk_frozen BK1087.out 1) | (go_at_call 81; (with_reducible refine (spec_l02Straight.calls k a0_0 _ _ l0_1 a1 t1089 _ ?side1 ?side2 A5.out).mono ?_); (case side1 => repeat (first | exact (Kd.C_below HR0_1.out HB.out) | (with_reducible refine Kd.C_alloc ?_ _) | (with_reducible refine Kd.C_drewN ?_ _) | (with_reducible refine Kd.C_drew ?_))); (case side2 => exact HC0_1.out); rintro e w10 ⟨v1090, rfl, ho0, hb⟩; have n0_ := Aside0.mk (Kd.R_lower ho0 (below_size (by repeat (first | (with_reducible first | exact HB.out | apply below_alloc | apply pw_below_drewN | apply below_drew1 | refine below_set ?_ GE1087.out) | exact HB.out)))); have n1_ := Aside0.mk (blk_below (g := gb1087) (o := .cells #[.int .i64 a0_0, .slice A0_1 l0_1.length c0_1] 37 (0, 0)) (by (with_reducible repeat (first | refine blk_drewN ?_ _ | refine blk_drew ?_ | refine blk_alloc ?_ _)); exact BK1087.out) hb); have n2_ := Aside0.mk (below_step (by repeat (first | (with_reducible first | exact HB.out | apply below_alloc | apply pw_below_drewN | apply below_drew1 | refine below_set ?_ GE1087.out) | exact HB.out)) hb); clear BK1087; clear HB; have HO1091 := n0_; have BK1087 := n1_; have HB := n2_; clear n0_ n1_ n2_; (try clear hb); (try clear hb2); (try clear hk); (try clear hi); (try clear ho0)) | ((with_reducible refine gate_dst (N := 21) rfl ?_); refine Kd.R_lit (Kd.int .i64) _ 2 ?hg (N := 21) ?hd (xs := ([] : List Int)) (inner := []) (ok := fun _ => True) (okp := fun _ => True) ?hr ?hp (fun _ hk => hk) trivial (Below.refl _ _) (Nat.le_refl _) (by simp) ?_; (case hd => rfl); (case hg => rfl); (case hr => first | (go_simp; done) | (go_simp; rfl)); (case hp => exact (Reps.none _ _)); intro v1093 w11 ho12 hb hg_ hnew_; clear hg_ hnew_; (first | rw [← Ny1092.out] at ho12 | (simp only [Int.reduceToNat] at ho12; rw [← Ny1092.out] at ho12)); have n0_ := Aside0.mk (Kd.R_elder' (by (with_reducible repeat (first | apply Kd.R_alloc | apply Kd.R_drewN | apply Kd.R_drew)); exact HO1091.out) (Kd.R_base ho12) hb); have n1_ := Aside0.mk (Kd.R_lower (Kd.R_new' ho12 (Kd.R_lt (by (with_reducible repeat (first | apply Kd.R_alloc | apply Kd.R_drewN | apply Kd.R_drew)); exact HO1091.out))) (below_size (by repeat (first | (with_reducible first | exact HB.out | apply below_alloc | apply pw_below_drewN | apply below_drew1 | refine below_set ?_ GE1087.out) | exact HB.out)))); have n2_ := Aside0.mk (blk_below (g := gb1087) (o := .cells #[.int .i64 a0_0, .slice A0_1 l0_1.length c0_1] 37 (0, 0)) (by (with_reducible repeat (first | refine blk_drewN ?_ _ | refine blk_drew ?_ | refine blk_alloc ?_ _)); exact BK1087.out) hb); have n3_ := Aside0.mk (below_step (by repeat (first | (with_reducible first | exact HB.out | apply below_alloc | apply pw_below_drewN | apply below_drew1 | refine below_set ?_ GE1087.out) | exact HB.out)) hb); clear HO1091; clear BK1087; clear HB; have HO1091 := n0_; have HO1094 := n1_; have BK1087 := n2_; have HB := n3_; clear n0_ n1_ n2_ n3_; clear hb ho12)); try go_wp2_with (first | ((with_reducible refine gate_dst (N := 2) rfl ?_); refine box_event ?hg (N := 2) ?hd (cs := #[.int .i64 a0_0, .slice A0_1 l0_1.length c0_1]) (t := 37) ?hr ?_; (case hd => rfl); (case hg => rfl); (case hr => first | (go_simp; done) | (go_simp; rfl)); intro gb1087 hg w6 hbox hb; have n0_ := Aside0.mk (below_step (by repeat (first | (with_reducible first | exact HB.out | apply below_alloc | apply pw_below_drewN | apply below_drew1) | exact HB.out)) hb); have n1_ := Aside0.mk (hbox); have n2_ := Aside0.mk ((by rw [hg]; exact (below_size (by repeat (first | (with_reducible first | exact HB.out | apply below_alloc | apply pw_below_drewN | apply below_drew1) | exact HB.out))) : w.heap.size ≤ gb1087)); have n3_ := Aside0.mk ((by rw [hg]; exact (below_size (by repeat (first | (with_reducible first | exact HB.out | apply below_alloc | apply pw_below_drewN | apply below_drew1) | exact HB.out))) : w.heap.size ≤ gb1087)); clear HB; have HB := n0_; have BK1087 := n1_; have GW1087 := n2_; have GE1087 := n3_; clear n0_ n1_ n2_ n3_; clear hb hbox hg; have hcz7_0 : w6.cell? ⟨gb1087, 0, none⟩ = some (.int .i64 a0_0) := (blk_cell BK1087.out 0).trans rfl; have hcz7_1 : w6.cell? ⟨gb1087, 1, none⟩ = some (.slice A0_1 l0_1.length c0_1) := (blk_cell BK1087.out 1).trans rfl; have hfz7_0 := blk_frozen BK1087.out 0; have hfz7_1 := blk_frozen BK1087.out 1) | (go_at_call 80; (with_reducible refine (spec_l02Code.calls k a0_0 _ _ l0_1 a1 1 t1088 _ ?side1 ?side2 A3.out).mono ?_); (case side1 => repeat (first | exact (Kd.C_below HR0_1.out HB.out) | (with_reducible refine Kd.C_alloc ?_ _) | (with_reducible refine Kd.C_drewN ?_ _) | (with_reducible refine Kd.C_drew ?_))); (case side2 => exact HC0_1.out); rintro e w8 ⟨rfl, hb⟩; have n0_ := Aside0.mk (blk_below (g := gb1087) (o := .cells #[.int .i64 a0_0, .slice A0_1 l0_1.length c0_1] 37 (0, 0)) (by (with_reducible repeat (first | refine blk_drewN ?_ _ | refine blk_drew ?_ | refine blk_alloc ?_ _)); exact BK1087.out) hb); have n1_ := Aside0.mk (below_step (by repeat (first | (with_reducible first | exact HB.out | apply below_alloc | apply pw_below_drewN | apply below_drew1 | refine below_set ?_ GE1087.out) | exact HB.out)) hb); clear BK1087; clear HB; have BK1087 := n0_; have HB := n1_; clear n0_ n1_; (try clear hb); (try clear hb2); (try clear hk); (try clear hi); have hcz9_0 : w8.cell? ⟨gb1087, 0, none⟩ = some (.int .i64 a0_0) := (blk_cell BK1087.out 0).trans rfl; have hcz9_1 : w8.cell? ⟨gb1087, 1, none⟩ = some (.slice A0_1 l0_1.length c0_1) := (blk_cell BK1087.out 1).trans rfl; have hfz9_0 := blk_frozen BK1087.out 0; have hfz9_1 := blk_frozen BK1087.out 1) | (go_at_call 81; (with_reducible refine (spec_l02Straight.calls k a0_0 _ _ l0_1 a1 t1089 _ ?side1 ?side2 A5.out).mono ?_); (case side1 => repeat (first | exact (Kd.C_below HR0_1.out HB.out) | (with_reducible refine Kd.C_alloc ?_ _) | (with_reducible refine Kd.C_drewN ?_ _) | (with_reducible refine Kd.C_drew ?_))); (case side2 => exact HC0_1.out); rintro e w10 ⟨v1090, rfl, ho0, hb⟩; have n0_ := Aside0.mk (Kd.R_lower ho0 (below_size (by repeat (first | (with_reducible first | exact HB.out | apply below_alloc | apply pw_below_drewN | apply below_drew1 | refine below_set ?_ GE1087.out) | exact HB.out)))); have n1_ := Aside0.mk (blk_below (g := gb1087) (o := .cells #[.int .i64 a0_0, .slice A0_1 l0_1.length c0_1] 37 (0, 0)) (by (with_reducible repeat (first | refine blk_drewN ?_ _ | refine blk_drew ?_ | refine blk_alloc ?_ _)); exact BK1087.out) hb); have n2_ := Aside0.mk (below_step (by repeat (first | (with_reducible first | exact HB.out | apply below_alloc | apply pw_below_drewN | apply below_drew1 | refine below_set ?_ GE1087.out) | exact HB.out)) hb); clear BK1087; clear HB; have HO1091 := n0_; have BK1087 := n1_; have HB := n2_; clear n0_ n1_ n2_; (try clear hb); (try clear hb2); (try clear hk); (try clear hi); (try clear ho0)) | ((with_reducible refine gate_dst (N := 21) rfl ?_); refine Kd.R_lit (Kd.int .i64) _ 2 ?hg (N := 21) ?hd (xs := ([] : List Int)) (inner := []) (ok := fun _ => True) (okp := fun _ => True) ?hr ?hp (fun _ hk => hk) trivial (Below.refl _ _) (Nat.le_refl _) (by simp) ?_; (case hd => rfl); (case hg => rfl); (case hr => first | (go_simp; done) | (go_simp; rfl)); (case hp => exact (Reps.none _ _)); intro v1093 w11 ho12 hb hg_ hnew_; clear hg_ hnew_; (first | rw [← Ny1092.out] at ho12 | (simp only [Int.reduceToNat] at ho12; rw [← Ny1092.out] at ho12)); have n0_ := Aside0.mk (Kd.R_elder' (by (with_reducible repeat (first | apply Kd.R_alloc | apply Kd.R_drewN | apply Kd.R_drew)); exact HO1091.out) (Kd.R_base ho12) hb); have n1_ := Aside0.mk (Kd.R_lower (Kd.R_new' ho12 (Kd.R_lt (by (with_reducible repeat (first | apply Kd.R_alloc | apply Kd.R_drewN | apply Kd.R_drew)); exact HO1091.out))) (below_size (by repeat (first | (with_reducible first | exact HB.out | apply below_alloc | apply pw_below_drewN | apply below_drew1 | refine below_set ?_ GE1087.out) | exact HB.out)))); have n2_ := Aside0.mk (blk_below (g := gb1087) (o := .cells #[.int .i64 a0_0, .slice A0_1 l0_1.length c0_1] 37 (0, 0)) (by (with_reducible repeat (first | refine blk_drewN ?_ _ | refine blk_drew ?_ | refine blk_alloc ?_ _)); exact BK1087.out) hb); have n3_ := Aside0.mk (below_step (by repeat (first | (with_reducible first | exact HB.out | apply below_alloc | apply pw_below_drewN | apply below_drew1 | refine below_set ?_ GE1087.out) | exact HB.out)) hb); clear HO1091; clear BK1087; clear HB; have HO1091 := n0_; have HO1094 := n1_; have BK1087 := n2_; have HB := n3_; clear n0_ n1_ n2_ n3_; clear hb ho12)))
  go_loopg [8, 9] k (fun kq v8 v9 w' => ∃ (x8_1 : List Int) (x9_1 : Int), v9 = .int .i64 x9_1 ∧ Aside0 (spec_PrimeCounts.l0 kq a1 t1089 x8_1 x9_1 = some (r1, r2)) ∧ Aside0 (kq ≤ k) ∧ Aside0 (Kd.R (Kd.int .i64) 2 w' w.heap.size (fun k_ => some k_ ≠ (v8 : Value).ownBlock) v1090 t1089) ∧ Aside0 (Kd.R (Kd.int .i64) 2 w' w.heap.size (fun k_ => some k_ ≠ (v1090 : Value).ownBlock) v8 x8_1) ∧ Aside0 (w'.heap[gb1087]? = some (.cells #[.int .i64 a0_0, (.slice A0_1 l0_1.length c0_1)] 37 (0, 0))) ∧ Aside0 (Below w.heap.size w w'))
  case atStart => exact ⟨(y1092), (1), (by first | rfl | (simp; done) | (simp [*]; done)), H', ⟨Nat.le_refl _⟩, ⟨by (with_reducible repeat (first | apply Kd.R_alloc | apply Kd.R_drewN | apply Kd.R_drew)); exact Kd.R_mono HO1091.out (fun _ hk => hk.2)⟩, ⟨by (with_reducible repeat (first | apply Kd.R_alloc | apply Kd.R_drewN | apply Kd.R_drew)); exact Kd.R_mono HO1094.out (fun _ hk => hk.2)⟩, ⟨by (with_reducible repeat (first | refine blk_drewN ?_ _ | refine blk_drew ?_ | refine blk_alloc ?_ _)); exact BK1087.out⟩, ⟨by repeat (first | (with_reducible first | exact HB.out | apply below_alloc | apply pw_below_drewN | apply below_drew1 | refine below_set ?_ GE1087.out) | exact HB.out)⟩⟩
  case round =>
   clear H'
   try clear p2
   try clear c4
   try clear c4b0
   try clear c4b1
   try clear hcz7_0
   try clear hcz7_1
   try clear hcz9_0
   try clear hcz9_1
   try clear hfz7_0
   try clear hfz7_1
   try clear hfz9_0
   try clear hfz9_1
   obtain ⟨x8_1, x9_1, rfl, HA, HK1, HO_7, HO_8, BK1087, HB⟩ := hrel
   cases gk with
   | zero => exact absurd HA.out (by simp [spec_PrimeCounts.l0])
   | succ k1 =>
    have H := HA.out
    clear HA
    simp only [spec_PrimeCounts.l0] at H
    by_cases c13 : x9_1 ≤ a1
    ·rw [if_pos c13] at H
     have c13b0 : decide (x9_1 ≤ a1) = true := decide_eq_true c13
     clear c13
     have H' := Aside0.mk H
     clear H
     go_wp2
     repeat (go_quiet (fail); try go_wp2)
     go_loopg [10, 11] k1 (fun kq v10 v11 w' => ∃ (x10_2 : Int) (x11_2 : Int), v10 = .int .i64 x10_2 ∧ v11 = .int .i64 x11_2 ∧ Aside0 (spec_PrimeCounts.l1 kq a1 t1089 x8_1 x9_1 x10_2 x11_2 = some (r1, r2)) ∧ Aside0 (kq ≤ k1) ∧ Aside0 (Kd.R (Kd.int .i64) 2 w' w.heap.size (fun k_ => some k_ ≠ (u8 : Value).ownBlock) v1090 t1089) ∧ Aside0 (Kd.R (Kd.int .i64) 2 w' w.heap.size (fun k_ => some k_ ≠ (v1090 : Value).ownBlock) u8 x8_1) ∧ Aside0 (w'.heap[gb1087]? = some (.cells #[.int .i64 a0_0, (.slice A0_1 l0_1.length c0_1)] 37 (0, 0))) ∧ Aside0 (Below w.heap.size w w'))
     case atStart => exact ⟨(0), (1), (by first | rfl | (simp; done) | (simp [*]; done)), (by first | rfl | (simp; done) | (simp [*]; done)), H', ⟨Nat.le_refl _⟩, ⟨by (with_reducible repeat (first | apply Kd.R_alloc | apply Kd.R_drewN | apply Kd.R_drew)); exact HO_7.out⟩, ⟨by (with_reducible repeat (first | apply Kd.R_alloc | apply Kd.R_drewN | apply Kd.R_drew)); exact HO_8.out⟩, ⟨by (with_reducible repeat (first | refine blk_drewN ?_ _ | refine blk_drew ?_ | refine blk_alloc ?_ _)); exact BK1087.out⟩, ⟨by repeat (first | (with_reducible first | exact HB.out | apply below_alloc | apply pw_below_drewN | apply below_drew1 | refine below_set ?_ GE1087.out) | exact HB.out)⟩⟩
     case round =>
      clear H'
      try clear c1
      try clear p2
      try clear c4
      try clear c4b0
      try clear c4b1
      try clear c13
      try clear c13b0
      try clear hcz7_0
      try clear hcz7_1
      try clear hcz9_0
      try clear hcz9_1
      try clear hfz7_0
      try clear hfz7_1
      try clear hfz9_0
      try clear hfz9_1
      try clear p2
      obtain ⟨x10_2, x11_2, rfl, rfl, HA, HK2, HO_7, HO_8, BK1087, HB⟩ := hrel
      cases gk with
      | zero => exact absurd HA.out (by simp [spec_PrimeCounts.l1])
      | succ k2 =>
       have H := HA.out
       clear HA
       simp only [spec_PrimeCounts.l1] at H
       by_cases c14 : x11_2 ≤ x9_1
       ·rw [if_pos c14] at H
        have c14b0 : decide (x11_2 ≤ x9_1) = true := decide_eq_true c14
        clear c14
        by_cases c15 : x11_2 = 0
        ·rw [if_pos c15] at H
         exact absurd H (by simp)
        ·rw [if_neg c15] at H
         have c15b0 : (x11_2 == 0) = false := beq_eq_false_iff_ne.mpr c15
         have c15b1 : (x11_2 != 0) = true := bne_iff_ne.mpr c15
         by_cases c16 : (Int.tmod x9_1 x11_2) = 0
         ·rw [if_pos c16] at H
          have c16b0 : ((Int.tmod x9_1 x11_2) == 0) = true := beq_iff_eq.mpr c16
          have c16b1 : ((Int.tmod x9_1 x11_2) != 0) = false := bne_eq_false_iff_eq.mpr c16
          clear c16
          replace H := Option.bind_eq_some_iff.mp H
          obtain ⟨t1095, A170, H⟩ := H
          replace H : (if 0 ≤ (wrap64 (x11_2 - 1)) then (if (wrap64 (x11_2 - 1)) < (t1089.length : Int) then (spec_PrimeCounts.l1 k2 a1 t1089 x8_1 x9_1 (wrap64 (x10_2 + (wrap64 (t1095 * (rd t1089 (wrap64 (x11_2 - 1))))))) (wrap64 (x11_2 + 1))) else (none)) else (none)) = some (r1, r2) := H
          have A17 := Aside0.mk A170
          clear A170
          obtain ⟨ji18, hji18⟩ : ∃ j_ : Int, (wrap64 (x11_2 - 1)) = j_ := ⟨_, rfl⟩
          (try rw [hji18])
          replace H : (if 0 ≤ (ji18) then (if (ji18) < (t1089.length : Int) then (spec_PrimeCounts.l1 k2 a1 t1089 x8_1 x9_1 (wrap64 (x10_2 + (wrap64 (t1095 * (rd t1089 (ji18)))))) (wrap64 (x11_2 + 1))) else (none)) else (none)) = some (r1, r2) := by first | (rw [hji18] at H; exact H) | (simp only [hji18] at H ⊢; exact H)
          (try rw [hji18] at A17)
          have hji18w : (IntKind.i64.wrap (x11_2 - 1)) = ji18 := (i64_w _).trans hji18
          by_cases c19 : 0 ≤ (ji18)
          ·rw [if_pos c19] at H
           have c19b0 : decide (0 ≤ (ji18)) = true := decide_eq_true c19
           clear c19
           by_cases c20 : (ji18) < (t1089.length : Int)
           ·rw [if_pos c20] at H
            have c20b0 : decide ((ji18) < (t1089.length : Int)) = true := decide_eq_true c20
            clear c20
            have H' := Aside0.mk H
            clear H
            obtain ⟨Ao21, co21, eo21⟩ := Kd.R_slice HO_7.out
            subst eo21
            have p1096 : 0 ≤ ((ji18) : Int) := of_decide_eq_true (by assumption)
            have q1096 : (ji18) < (t1089.length : Int) := of_decide_eq_true (by assumption)
            obtain ⟨ad1096, e1096, hx1096_0⟩ := Kd.at_int (Kd.R_reads' HO_7.out).2.2 (ji18) p1096 q1096
            cases e1096
            replace p1096 := eq_true p1096
            replace q1096 := eq_true q1096
            go_wp2_with (first | (go_at_call 96; (with_reducible refine (spec_l02Moebius.calls k2 (wrap64 (Int.tdiv x9_1 x11_2)) t1095 _ A17.out).mono ?_); rintro e w' ⟨rfl, ⟨nd, rfl⟩⟩; (try first | exact ⟨rfl, _, World.drewN_drewN _ _ _⟩ | exact ⟨rfl, _, Eq.trans (World.drewN_drewN _ _ _) (congrArg (World.drewN _) (Nat.add_assoc _ _ _))⟩)))
            repeat (go_quiet (first | (go_at_call 96; (with_reducible refine (spec_l02Moebius.calls k2 (wrap64 (Int.tdiv x9_1 x11_2)) t1095 _ A17.out).mono ?_); rintro e w' ⟨rfl, ⟨nd, rfl⟩⟩; (try first | exact ⟨rfl, _, World.drewN_drewN _ _ _⟩ | exact ⟨rfl, _, Eq.trans (World.drewN_drewN _ _ _) (congrArg (World.drewN _) (Nat.add_assoc _ _ _))⟩))); try go_wp2_with (first | (go_at_call 96; (with_reducible refine (spec_l02Moebius.calls k2 (wrap64 (Int.tdiv x9_1 x11_2)) t1095 _ A17.out).mono ?_); rintro e w' ⟨rfl, ⟨nd, rfl⟩⟩; (try first | exact ⟨rfl, _, World.drewN_drewN _ _ _⟩ | exact ⟨rfl, _, Eq.trans (World.drewN_drewN _ _ _) (congrArg (World.drewN _) (Nat.add_assoc _ _ _))⟩))))
            first | (first | go_roundg k2 | (refine Handed.intro k2 ?measure ?_; rotate_left; go_step; (try simp only [add_plain]); (repeat apply Exists.intro); refine ⟨?rel, rfl⟩)) | ((try subst hji18); (first | go_roundg k2 | (refine Handed.intro k2 ?measure ?_; rotate_left; go_step; (try simp only [add_plain]); (repeat apply Exists.intro); refine ⟨?rel, rfl⟩)))
            case measure => have := HK1.out; have := HK2.out; omega
            case rel => exact ⟨(wrap64 (x10_2 + (wrap64 (t1095 * (rd t1089 (ji18)))))), (wrap64 (x11_2 + 1)), (by first | rfl | (simp; done) | (simp only [← hji18] <;> (first | rfl | simp)) | (simp [*]; done)), (by first | rfl | (simp; done) | (simp [*]; done)), H', ⟨by have := HK1.out; have := HK2.out; omega⟩, ⟨by (with_reducible repeat (first | apply Kd.R_alloc | apply Kd.R_drewN | apply Kd.R_drew)); exact HO_7.out⟩, ⟨by (with_reducible repeat (first | apply Kd.R_alloc | apply Kd.R_drewN | apply Kd.R_drew)); exact HO_8.out⟩, ⟨by (with_reducible repeat (first | refine blk_drewN ?_ _ | refine blk_drew ?_ | refine blk_alloc ?_ _)); exact BK1087.out⟩, ⟨by repeat (first | (with_reducible first | exact HB.out | apply below_alloc | apply pw_below_drewN | apply below_drew1 | refine below_set ?_ GE1087.out) | exact HB.out)⟩⟩
           ·rw [if_neg c20] at H
            exact absurd H (by simp)
          ·rw [if_neg c19] at H
           exact absurd H (by simp)
         ·rw [if_neg c16] at H
          have c16b0 : ((Int.tmod x9_1 x11_2) == 0) = false := beq_eq_false_iff_ne.mpr c16
          have c16b1 : ((Int.tmod x9_1 x11_2) != 0) = true := bne_iff_ne.mpr c16
          have H' := Aside0.mk H
          clear H
          go_wp2
          repeat (go_quiet (fail); try go_wp2)
          first | go_roundg k2 | (refine Handed.intro k2 ?measure ?_; rotate_left; go_step; (try simp only [add_plain]); (repeat apply Exists.intro); refine ⟨?rel, rfl⟩)
          case measure => have := HK1.out; have := HK2.out; omega
          case rel => exact ⟨(x10_2), (wrap64 (x11_2 + 1)), (by first | rfl | (simp; done) | (simp [*]; done)), (by first | rfl | (simp; done) | (simp [*]; done)), H', ⟨by have := HK1.out; have := HK2.out; omega⟩, ⟨by (with_reducible repeat (first | apply Kd.R_alloc | apply Kd.R_drewN | apply Kd.R_drew)); exact HO_7.out⟩, ⟨by (with_reducible repeat (first | apply Kd.R_alloc | apply Kd.R_drewN | apply Kd.R_drew)); exact HO_8.out⟩, ⟨by (with_reducible repeat (first | refine blk_drewN ?_ _ | refine blk_drew ?_ | refine blk_alloc ?_ _)); exact BK1087.out⟩, ⟨by repeat (first | (with_reducible first | exact HB.out | apply below_alloc | apply pw_below_drewN | apply below_drew1 | refine below_set ?_ GE1087.out) | exact HB.out)⟩⟩
       ·rw [if_neg c14] at H
        have c14b0 : decide (x11_2 ≤ x9_1) = false := decide_eq_false c14
        clear c14
        by_cases c22 : x9_1 = 0
        ·rw [if_pos c22] at H
         exact absurd H (by simp)
        ·rw [if_neg c22] at H
         have c22b0 : (x9_1 == 0) = false := beq_eq_false_iff_ne.mpr c22
         have c22b1 : (x9_1 != 0) = true := bne_iff_ne.mpr c22
         by_cases c23 : x8_1.length < 17592186044416
         ·rw [if_pos c23] at H
          have LMc23 := Aside0.mk c23
          clear c23
          obtain ⟨y1097, hy1097⟩ : ∃ y_ : List Int, y_ = (x8_1 ++ [wrap64 (Int.tdiv x10_2 x9_1)]) := ⟨_, rfl⟩
          replace H : (spec_PrimeCounts.l0 k2 a1 t1089 y1097 (wrap64 (x9_1 + 1))) = some (r1, r2) := by first | (rw [hy1097]; with_reducible exact H) | (have H2_ := (Option.bind_some _ _).symm.trans H; rw [hy1097]; with_reducible exact H2_) | (have H2_ := (Option.bind_some _ _).symm.trans H; with_reducible exact H2_) | with_reducible exact H | (rw [hy1097]; exact H) | exact H
          have Ny1097 := Aside0.mk hy1097
          clear hy1097
          have H' := Aside0.mk H
          clear H
          go_wp2_with (first | ((with_reducible refine gate_builtin (b := .append) (xs := #[.tmp 48, .tmp 52]) rfl ?_); at_builtin; refine Kd.R_append (Kd.int .i64) (w0 := w) w.heap.size rfl (.tmp 48) (.tmp 52) 24 2 (.int .i64 0) 8 rfl Try.underlying24 info2 rfl (by decide) (by omega) u8 x8_1 (wrap64 (Int.tdiv x10_2 x9_1)) [.int .i64 (wrap64 (Int.tdiv x10_2 x9_1))] (fun k_ => some k_ ≠ (v1090 : Value).ownBlock) (fun _ => False) rfl rfl ?aP (fun _ hk => hk.elim) ?aF ?aO ?aB ?aS ?aL ?_; (case aP => exact rfl); (case aB => exact (by repeat (first | (with_reducible first | exact HB.out | apply below_alloc | apply pw_below_drewN | apply below_drew1 | refine below_set ?_ GE1087.out) | exact HB.out))); (case aF => exact (fun k_ hk => Kd.fresh' (Kd.R_lt (by (with_reducible repeat (first | apply Kd.R_alloc | apply Kd.R_drewN | apply Kd.R_drew)); exact HO_7.out)) k_ hk)); (case aO => exact (by (with_reducible repeat (first | apply Kd.R_alloc | apply Kd.R_drewN | apply Kd.R_drew)); exact HO_8.out)); (case aS => exact (below_size (by repeat (first | (with_reducible first | exact HB.out | apply below_alloc | apply pw_below_drewN | apply below_drew1 | refine below_set ?_ GE1087.out) | exact HB.out)))); (case aL => have := LMc23.out; omega); intro v1098 w24 ho hb hg hat; rw [← Ny1097.out] at ho; have n0_ := Aside0.mk (Kd.R_after (ok := (fun _ => True)) (by (with_reducible repeat (first | apply Kd.R_alloc | apply Kd.R_drewN | apply Kd.R_drew)); exact Kd.R_mono HO_7.out (fun _ hk => ⟨trivial, hk⟩)) hg hat); have n1_ := Aside0.mk (blk_grown (g := gb1087) (o := .cells #[.int .i64 a0_0, .slice A0_1 l0_1.length c0_1] 37 (0, 0)) (by (with_reducible repeat (first | refine blk_drewN ?_ _ | refine blk_drew ?_ | refine blk_alloc ?_ _)); exact BK1087.out) hg (Kd.R_ne HO_8.out BK1087.out (by decide))); have n2_ := Aside0.mk (hb); have n3_ := Aside0.mk (ho); clear HO_7; clear BK1087; clear HB; clear HO_8; have HO_7 := n0_; have BK1087 := n1_; have HB := n2_; have HO1099 := n3_; clear n0_ n1_ n2_ n3_; clear ho hb hg hat))
          repeat (go_quiet (first | ((with_reducible refine gate_builtin (b := .append) (xs := #[.tmp 48, .tmp 52]) rfl ?_); at_builtin; refine Kd.R_append (Kd.int .i64) (w0 := w) w.heap.size rfl (.tmp 48) (.tmp 52) 24 2 (.int .i64 0) 8 rfl Try.underlying24 info2 rfl (by decide) (by omega) u8 x8_1 (wrap64 (Int.tdiv x10_2 x9_1)) [.int .i64 (wrap64 (Int.tdiv x10_2 x9_1))] (fun k_ => some k_ ≠ (v1090 : Value).ownBlock) (fun _ => False) rfl rfl ?aP (fun _ hk => hk.elim) ?aF ?aO ?aB ?aS ?aL ?_; (case aP => exact rfl); (case aB => exact (by repeat (first | (with_reducible first | exact HB.out | apply below_alloc | apply pw_below_drewN | apply below_drew1 | refine below_set ?_ GE1087.out) | exact HB.out))); (case aF => exact (fun k_ hk => Kd.fresh' (Kd.R_lt (by (with_reducible repeat (first | apply Kd.R_alloc | apply Kd.R_drewN | apply Kd.R_drew)); exact HO_7.out)) k_ hk)); (case aO => exact (by (with_reducible repeat (first | apply Kd.R_alloc | apply Kd.R_drewN | apply Kd.R_drew)); exact HO_8.out)); (case aS => exact (below_size (by repeat (first | (with_reducible first | exact HB.out | apply below_alloc | apply pw_below_drewN | apply below_drew1 | refine below_set ?_ GE1087.out) | exact HB.out)))); (case aL => have := LMc23.out; omega); intro v1098 w24 ho hb hg hat; rw [← Ny1097.out] at ho; have n0_ := Aside0.mk (Kd.R_after (ok := (fun _ => True)) (by (with_reducible repeat (first | apply Kd.R_alloc | apply Kd.R_drewN | apply Kd.R_drew)); exact Kd.R_mono HO_7.out (fun _ hk => ⟨trivial, hk⟩)) hg hat); have n1_ := Aside0.mk (blk_grown (g := gb1087) (o := .cells #[.int .i64 a0_0, .slice A0_1 l0_1.length c0_1] 37 (0, 0)) (by (with_reducible repeat (first | refine blk_drewN ?_ _ | refine blk_drew ?_ | refine blk_alloc ?_ _)); exact BK1087.out) hg (Kd.R_ne HO_8.out BK1087.out (by decide))); have n2_ := Aside0.mk (hb); have n3_ := Aside0.mk (ho); clear HO_7; clear BK1087; clear HB; clear HO_8; have HO_7 := n0_; have BK1087 := n1_; have HB := n2_; have HO1099 := n3_; clear n0_ n1_ n2_ n3_; clear ho hb hg hat)); try go_wp2_with (first | ((with_reducible refine gate_builtin (b := .append) (xs := #[.tmp 48, .tmp 52]) rfl ?_); at_builtin; refine Kd.R_append (Kd.int .i64) (w0 := w) w.heap.size rfl (.tmp 48) (.tmp 52) 24 2 (.int .i64 0) 8 rfl Try.underlying24 info2 rfl (by decide) (by omega) u8 x8_1 (wrap64 (Int.tdiv x10_2 x9_1)) [.int .i64 (wrap64 (Int.tdiv x10_2 x9_1))] (fun k_ => some k_ ≠ (v1090 : Value).ownBlock) (fun _ => False) rfl rfl ?aP (fun _ hk => hk.elim) ?aF ?aO ?aB ?aS ?aL ?_; (case aP => exact rfl); (case aB => exact (by repeat (first | (with_reducible first | exact HB.out | apply below_alloc | apply pw_below_drewN | apply below_drew1 | refine below_set ?_ GE1087.out) | exact HB.out))); (case aF => exact (fun k_ hk => Kd.fresh' (Kd.R_lt (by (with_reducible repeat (first | apply Kd.R_alloc | apply Kd.R_drewN | apply Kd.R_drew)); exact HO_7.out)) k_ hk)); (case aO => exact (by (with_reducible repeat (first | apply Kd.R_alloc | apply Kd.R_drewN | apply Kd.R_drew)); exact HO_8.out)); (case aS => exact (below_size (by repeat (first | (with_reducible first | exact HB.out | apply below_alloc | apply pw_below_drewN | apply below_drew1 | refine below_set ?_ GE1087.out) | exact HB.out)))); (case aL => have := LMc23.out; omega); intro v1098 w24 ho hb hg hat; rw [← Ny1097.out] at ho; have n0_ := Aside0.mk (Kd.R_after (ok := (fun _ => True)) (by (with_reducible repeat (first | apply Kd.R_alloc | apply Kd.R_drewN | apply Kd.R_drew)); exact Kd.R_mono HO_7.out (fun _ hk => ⟨trivial, hk⟩)) hg hat); have n1_ := Aside0.mk (blk_grown (g := gb1087) (o := .cells #[.int .i64 a0_0, .slice A0_1 l0_1.length c0_1] 37 (0, 0)) (by (with_reducible repeat (first | refine blk_drewN ?_ _ | refine blk_drew ?_ | refine blk_alloc ?_ _)); exact BK1087.out) hg (Kd.R_ne HO_8.out BK1087.out (by decide))); have n2_ := Aside0.mk (hb); have n3_ := Aside0.mk (ho); clear HO_7; clear BK1087; clear HB; clear HO_8; have HO_7 := n0_; have BK1087 := n1_; have HB := n2_; have HO1099 := n3_; clear n0_ n1_ n2_ n3_; clear ho hb hg hat)))
          first | go_roundg k2 | (refine Handed.intro k2 ?measure ?_; rotate_left; go_step; (try simp only [add_plain]); (repeat apply Exists.intro); refine ⟨?rel, rfl⟩)
          case measure => have := HK1.out; have := HK2.out; omega
          case rel => exact ⟨(y1097), (wrap64 (x9_1 + 1)), (by first | rfl | (simp; done) | (simp [*]; done)), H', ⟨by have := HK1.out; have := HK2.out; omega⟩, ⟨by (with_reducible repeat (first | apply Kd.R_alloc | apply Kd.R_drewN | apply Kd.R_drew)); exact Kd.R_mono HO_7.out (fun _ hk => hk.2)⟩, ⟨by (with_reducible repeat (first | apply Kd.R_alloc | apply Kd.R_drewN | apply Kd.R_drew)); exact HO1099.out⟩, ⟨by (with_reducible repeat (first | refine blk_drewN ?_ _ | refine blk_drew ?_ | refine blk_alloc ?_ _)); exact BK1087.out⟩, ⟨by repeat (first | (with_reducible first | exact HB.out | apply below_alloc | apply pw_below_drewN | apply below_drew1 | refine below_set ?_ GE1087.out) | exact HB.out)⟩⟩
         ·rw [if_neg c23] at H
          exact absurd H (by simp)
    ·rw [if_neg c13] at H
     have c13b0 : decide (x9_1 ≤ a1) = false := decide_eq_false c13
     clear c13
     simp only [Option.some.injEq, Prod.mk.injEq] at H
     obtain ⟨rfl, rfl⟩ := H
     go_wp2
     repeat (go_quiet (fail); try go_wp2)
     go_ret2
     exact ⟨_, by first | rfl | (simp [errW_none, errW_some] <;> rfl) | (simp [*, errW_none, errW_some] <;> rfl), by (with_reducible repeat (first | apply Kd.R_alloc | apply Kd.R_drewN | apply Kd.R_drew)); exact Kd.R_mono HO_8.out (fun _ hk => trivial), by repeat (first | (with_reducible first | exact HB.out | apply below_alloc | apply pw_below_drewN | apply below_drew1 | refine below_set ?_ GE1087.out) | exact HB.out)⟩
 ·rw [if_neg c4] at H
  have c4b0 : (t1088 == 0) = false := beq_eq_false_iff_ne.mpr c4
  have c4b1 : (t1088 != 0) = true := bne_iff_ne.mpr c4
  simp only [Option.some.injEq, Prod.mk.injEq] at H
  obtain ⟨rfl, rfl⟩ := H
  go_enter Try.func48, Try.ntmps48
  go_wp2_with (first | ((with_reducible refine gate_dst (N := 2) rfl ?_); refine box_event ?hg (N := 2) ?hd (cs := #[.int .i64 a0_0, .slice A0_1 l0_1.length c0_1]) (t := 37) ?hr ?_; (case hd => rfl); (case hg => rfl); (case hr => first | (go_simp; done) | (go_simp; rfl)); intro gb1087 hg w25 hbox hb; have n0_ := Aside0.mk (below_step (by repeat (first | (with_reducible first | exact HB.out | apply below_alloc | apply pw_below_drewN | apply below_drew1) | exact HB.out)) hb); have n1_ := Aside0.mk (hbox); have n2_ := Aside0.mk ((by rw [hg]; exact (below_size (by repeat (first | (with_reducible first | exact HB.out | apply below_alloc | apply pw_below_drewN | apply below_drew1) | exact HB.out))) : w.heap.size ≤ gb1087)); have n3_ := Aside0.mk ((by rw [hg]; exact (below_size (by repeat (first | (with_reducible first | exact HB.out | apply below_alloc | apply pw_below_drewN | apply below_drew1) | exact HB.out))) : w.heap.size ≤ gb1087)); clear HB; have HB := n0_; have BK1087 := n1_; have GW1087 := n2_; have GE1087 := n3_; clear n0_ n1_ n2_ n3_; clear hb hbox hg; have hcz26_0 : w25.cell? ⟨gb1087, 0, none⟩ = some (.int .i64 a0_0) := (blk_cell BK1087.out 0).trans rfl; have hcz26_1 : w25.cell? ⟨gb1087, 1, none⟩ = some (.slice A0_1 l0_1.length c0_1) := (blk_cell BK1087.out 1).trans rfl; have hfz26_0 := blk_frozen BK1087.out 0; have hfz26_1 := blk_frozen BK1087.out 1) | (go_at_call 80; (with_reducible refine (spec_l02Code.calls k a0_0 _ _ l0_1 a1 1 t1088 _ ?side1 ?side2 A3.out).mono ?_); (case side1 => repeat (first | exact (Kd.C_below HR0_1.out HB.out) | (with_reducible refine Kd.C_alloc ?_ _) | (with_reducible refine Kd.C_drewN ?_ _) | (with_reducible refine Kd.C_drew ?_))); (case side2 => exact HC0_1.out); rintro e w27 ⟨rfl, hb⟩; have n0_ := Aside0.mk (blk_below (g := gb1087) (o := .cells #[.int .i64 a0_0, .slice A0_1 l0_1.length c0_1] 37 (0, 0)) (by (with_reducible repeat (first | refine blk_drewN ?_ _ | refine blk_drew ?_ | refine blk_alloc ?_ _)); exact BK1087.out) hb); have n1_ := Aside0.mk (below_step (by repeat (first | (with_reducible first | exact HB.out | apply below_alloc | apply pw_below_drewN | apply below_drew1 | refine below_set ?_ GE1087.out) | exact HB.out)) hb); clear BK1087; clear HB; have BK1087 := n0_; have HB := n1_; clear n0_ n1_; (try clear hb); (try clear hb2); (try clear hk); (try clear hi)))
  repeat (go_quiet (first | ((with_reducible refine gate_dst (N := 2) rfl ?_); refine box_event ?hg (N := 2) ?hd (cs := #[.int .i64 a0_0, .slice A0_1 l0_1.length c0_1]) (t := 37) ?hr ?_; (case hd => rfl); (case hg => rfl); (case hr => first | (go_simp; done) | (go_simp; rfl)); intro gb1087 hg w25 hbox hb; have n0_ := Aside0.mk (below_step (by repeat (first | (with_reducible first | exact HB.out | apply below_alloc | apply pw_below_drewN | apply below_drew1) | exact HB.out)) hb); have n1_ := Aside0.mk (hbox); have n2_ := Aside0.mk ((by rw [hg]; exact (below_size (by repeat (first | (with_reducible first | exact HB.out | apply below_alloc | apply pw_below_drewN | apply below_drew1) | exact HB.out))) : w.heap.size ≤ gb1087)); have n3_ := Aside0.mk ((by rw [hg]; exact (below_size (by repeat (first | (with_reducible first | exact HB.out | apply below_alloc | apply pw_below_drewN | apply below_drew1) | exact HB.out))) : w.heap.size ≤ gb1087)); clear HB; have HB := n0_; have BK1087 := n1_; have GW1087 := n2_; have GE1087 := n3_; clear n0_ n1_ n2_ n3_; clear hb hbox hg; have hcz26_0 : w25.cell? ⟨gb1087, 0, none⟩ = some (.int .i64 a0_0) := (blk_cell BK1087.out 0).trans rfl; have hcz26_1 : w25.cell? ⟨gb1087, 1, none⟩ = some (.slice A0_1 l0_1.length c0_1) := (blk_cell BK1087.out 1).trans rfl; have hfz26_0 := blk_frozen BK1087.out 0; have hfz26_1 := blk_frozen BK1087.out 1) | (go_at_call 80; (with_reducible refine (spec_l02Code.calls k a0_0 _ _ l0_1 a1 1 t1088 _ ?side1 ?side2 A3.out).mono ?_); (case side1 => repeat (first | exact (Kd.C_below HR0_1.out HB.out) | (with_reducible refine Kd.C_alloc ?_ _) | (with_reducible refine Kd.C_drewN ?_ _) | (with_reducible refine Kd.C_drew ?_))); (case side2 => exact HC0_1.out); rintro e w27 ⟨rfl, hb⟩; have n0_ := Aside0.mk (blk_below (g := gb1087) (o := .cells #[.int .i64 a0_0, .slice A0_1 l0_1.length c0_1] 37 (0, 0)) (by (with_reducible repeat (first | refine blk_drewN ?_ _ | refine blk_drew ?_ | refine blk_alloc ?_ _)); exact BK1087.out) hb); have n1_ := Aside0.mk (below_step (by repeat (first | (with_reducible first | exact HB.out | apply below_alloc | apply pw_below_drewN | apply below_drew1 | refine below_set ?_ GE1087.out) | exact HB.out)) hb); clear BK1087; clear HB; have BK1087 := n0_; have HB := n1_; clear n0_ n1_; (try clear hb); (try clear hb2); (try clear hk); (try clear hi))); try go_wp2_with (first | ((with_reducible refine gate_dst (N := 2) rfl ?_); refine box_event ?hg (N := 2) ?hd (cs := #[.int .i64 a0_0, .slice A0_1 l0_1.length c0_1]) (t := 37) ?hr ?_; (case hd => rfl); (case hg => rfl); (case hr => first | (go_simp; done) | (go_simp; rfl)); intro gb1087 hg w25 hbox hb; have n0_ := Aside0.mk (below_step (by repeat (first | (with_reducible first | exact HB.out | apply below_alloc | apply pw_below_drewN | apply below_drew1) | exact HB.out)) hb); have n1_ := Aside0.mk (hbox); have n2_ := Aside0.mk ((by rw [hg]; exact (below_size (by repeat (first | (with_reducible first | exact HB.out | apply below_alloc | apply pw_below_drewN | apply below_drew1) | exact HB.out))) : w.heap.size ≤ gb1087)); have n3_ := Aside0.mk ((by rw [hg]; exact (below_size (by repeat (first | (with_reducible first | exact HB.out | apply below_alloc | apply pw_below_drewN | apply below_drew1) | exact HB.out))) : w.heap.size ≤ gb1087)); clear HB; have HB := n0_; have BK1087 := n1_; have GW1087 := n2_; have GE1087 := n3_; clear n0_ n1_ n2_ n3_; clear hb hbox hg; have hcz26_0 : w25.cell? ⟨gb1087, 0, none⟩ = some (.int .i64 a0_0) := (blk_cell BK1087.out 0).trans rfl; have hcz26_1 : w25.cell? ⟨gb1087, 1, none⟩ = some (.slice A0_1 l0_1.length c0_1) := (blk_cell BK1087.out 1).trans rfl; have hfz26_0 := blk_frozen BK1087.out 0; have hfz26_1 := blk_frozen BK1087.out 1) | (go_at_call 80; (with_reducible refine (spec_l02Code.calls k a0_0 _ _ l0_1 a1 1 t1088 _ ?side1 ?side2 A3.out).mono ?_); (case side1 => repeat (first | exact (Kd.C_below HR0_1.out HB.out) | (with_reducible refine Kd.C_alloc ?_ _) | (with_reducible refine Kd.C_drewN ?_ _) | (with_reducible refine Kd.C_drew ?_))); (case side2 => exact HC0_1.out); rintro e w27 ⟨rfl, hb⟩; have n0_ := Aside0.mk (blk_below (g := gb1087) (o := .cells #[.int .i64 a0_0, .slice A0_1 l0_1.length c0_1] 37 (0, 0)) (by (with_reducible repeat (first | refine blk_drewN ?_ _ | refine blk_drew ?_ | refine blk_alloc ?_ _)); exact BK1087.out) hb); have n1_ := Aside0.mk (below_step (by repeat (first | (with_reducible first | exact HB.out | apply below_alloc | apply pw_below_drewN | apply below_drew1 | refine below_set ?_ GE1087.out) | exact HB.out)) hb); clear BK1087; clear HB; have BK1087 := n0_; have HB := n1_; clear n0_ n1_; (try clear hb); (try clear hb2); (try clear hk); (try clear hi))))
  go_ret2
  exact ⟨_, by first | rfl | (simp [errW_none, errW_some] <;> rfl) | (simp [*, errW_none, errW_some] <;> rfl), by first | exact Kd.R_nil _ _ _ _ _ | exact Kd.N_nil _ _ _ _ _ | exact Kd.V_nil _ _ _ _ _ | exact Kd.Q_nil _ _ _ _ _ | exact Kd.S_nil _ _ _ _ _, by repeat (first | (with_reducible first | exact HB.out | apply below_alloc | apply pw_below_drewN | apply below_drew1 | refine below_set ?_ GE1087.out) | exact HB.out)⟩

/-! ### impl_PrimeCounts: function 49 -/
def impl_PrimeCounts.f (k : Nat) (a0_0 : Int) (l0_1 : List (List Int)) (a1 : Int) : Option (List Int × Int) := (impl_StraightCounts.f k a0_0 l0_1 a1).bind fun bt1101 => (if bt1101.2 = 0 then ((impl_primesOf.f k bt1101.1).bind fun t1105 => (some (t1105, 0))) else (some (([] : List Int), bt1101.2)))
theorem impl_PrimeCounts.mono : ∀ a0 a1 a2 k, LeO (impl_PrimeCounts.f k a0 a1 a2) (impl_PrimeCounts.f (k + 1) a0 a1 a2) := by
 intro a0 a1 a2 k
 unfold impl_PrimeCounts.f
 repeat' first
   | (with_reducible exact impl_StraightCounts.mono _ _ _ _)
   | (with_reducible exact impl_primesOf.mono _ _)
   | (with_reducible exact LeO.refl _)
   | (with_reducible exact LeO.none _)
   | (with_reducible refine LeO.ite ?_ ?_)
   | (with_reducible refine LeO.bind ?_ (fun _ => ?_))
set_option maxHeartbeats 8000000 in
set_option maxRecDepth 100000 in
theorem impl_PrimeCounts.calls (k : Nat) (a0_0 : Int) (A0_1 : Option Addr) (c0_1 : Nat) (l0_1 : List (List Int)) (a1 : Int) (r1 : List Int) (r2 : Int) (w : World) (hr0_1 : Kd.C (Kd.slice 2 (Kd.int .i64)) w A0_1 l0_1.length l0_1) (hc0_1 : l0_1.length ≤ c0_1) (h : impl_PrimeCounts.f k a0_0 l0_1 a1 = some (r1, r2)) :
  Calls Try.prog 49 #[.agg #[.int .i64 a0_0, .slice A0_1 l0_1.length c0_1], .int .i64 a1] w fun e w' => ∃ v0_ : Value, e = .returned (.tuple #[v0_, .int .i64 r2]) ∧ Kd.R (Kd.int .i64) 2 w' w.heap.size (fun _ => True) v0_ r1 ∧ Below w.heap.size w w' := by
 have hu37 := Try.underlying37
 have HR0_1 := Aside0.mk hr0_1
 have HC0_1 := Aside0.mk hc0_1
 clear hr0_1 hc0_1
 have HB := Aside0.mk (Below.refl w.heap.size w)
 have H : ((impl_StraightCounts.f k a0_0 l0_1 a1).bind fun bt1101 => (if bt1101.2 = 0 then ((impl_primesOf.f k bt1101.1).bind fun t1105 => (some (t1105, 0))) else (some (([] : List Int), bt1101.2)))) = some (r1, r2) := h
 clear h
 replace H := Option.bind_eq_some_iff.mp H
 obtain ⟨⟨t1101, t1104⟩, A30, H⟩ := H
 replace H : (if t1104 = 0 then ((impl_primesOf.f k t1101).bind fun t1105 => (some (t1105, 0))) else (some (([] : List Int), t1104))) = some (r1, r2) := H
 have A3 := Aside0.mk A30
 clear A30
 by_cases c4 : t1104 = 0
 ·rw [if_pos c4] at H
  have c4b0 : (t1104 == 0) = true := beq_iff_eq.mpr c4
  have c4b1 : (t1104 != 0) = false := bne_eq_false_iff_eq.mpr c4
  clear c4
  replace H := Option.bind_eq_some_iff.mp H
  obtain ⟨t1105, A50, H⟩ := H
  replace H : (some (t1105, 0)) = some (r1, r2) := H
  have A5 := Aside0.mk A50
  clear A50
  simp only [Option.some.injEq, Prod.mk.injEq] at H
  obtain ⟨rfl, rfl⟩ := H
  go_enter Try.func49, Try.ntmps49
  go_wp2_with (first | ((with_reducible refine gate_dst (N := 2) rfl ?_); refine box_event ?hg (N := 2) ?hd (cs := #[.int .i64 a0_0, .slice A0_1 l0_1.length c0_1]) (t := 37) ?hr ?_; (case hd => rfl); (case hg => rfl); (case hr => first | (go_simp; done) | (go_simp; rfl)); intro gb1100 hg w6 hbox hb; have n0_ := Aside0.mk (below_step (by repeat (first | (with_reducible first | exact HB.out | apply below_alloc | apply pw_below_drewN | apply below_drew1) | exact HB.out)) hb); have n1_ := Aside0.mk (hbox); have n2_ := Aside0.mk ((by rw [hg]; exact (below_size (by repeat (first | (with_reducible first | exact HB.out | apply below_alloc | apply pw_below_drewN | apply below_drew1) | exact HB.out))) : w.heap.size ≤ gb1100)); have n3_ := Aside0.mk ((by rw [hg]; exact (below_size (by repeat (first | (with_reducible first | exact HB.out | apply below_alloc | apply pw_below_drewN | apply below_drew1) | exact HB.out))) : w.heap.size ≤ gb1100)); clear HB; have HB := n0_; have BK1100 := n1_; have GW1100 := n2_; have GE1100 := n3_; clear n0_ n1_ n2_ n3_; clear hb hbox hg; have hcz7_0 : w6.cell? ⟨gb1100, 0, none⟩ = some (.int .i64 a0_0) := (blk_cell BK1100.out 0).trans rfl; have hcz7_1 : w6.cell? ⟨gb1100, 1, none⟩ = some (.slice A0_1 l0_1.length c0_1) := (blk_cell BK1100.out 1).trans rfl; have hfz7_0 := blk_frozen BK1100.out 0; have hfz7_1 := blk_frozen BK1100.out 1) | ((with_reducible refine gate_callee (f := 35) rfl ?_); refine goesL_ (some 11) rfl rfl Try.func35 (by kernel_rfl) rfl #[.agg #[.int .i64 a0_0, .slice A0_1 l0_1.length c0_1], .int .i64 a1] rfl (by (try simp only [List.map_toArray, List.map_cons, List.map_nil]); first | done | rfl | (simp only [List.length_drop, List.length_take]; rfl)) ?_; (with_reducible refine (impl_StraightCounts.calls k a0_0 _ _ l0_1 a1 t1101 t1104 _ ?side1 ?side2 A3.out).mono ?_); (case side1 => repeat (first | exact (Kd.C_below HR0_1.out HB.out) | (with_reducible refine Kd.C_alloc ?_ _) | (with_reducible refine Kd.C_drewN ?_ _) | (with_reducible refine Kd.C_drew ?_))); (case side2 => exact HC0_1.out); rintro e w8 ⟨v1102, rfl, ho0, hb⟩; refine ⟨_, rfl, ?_⟩; have n0_ := Aside0.mk (Kd.R_lower ho0 (below_size (by repeat (first | (with_reducible first | exact HB.out | apply below_alloc | apply pw_below_drewN | apply below_drew1 | refine below_set ?_ GE1100.out) | exact HB.out)))); have n1_ := Aside0.mk (blk_below (g := gb1100) (o := .cells #[.int .i64 a0_0, .slice A0_1 l0_1.length c0_1] 37 (0, 0)) (by (with_reducible repeat (first | refine blk_drewN ?_ _ | refine blk_drew ?_ | refine blk_alloc ?_ _)); exact BK1100.out) hb); have n2_ := Aside0.mk (below_step (by repeat (first | (with_reducible first | exact HB.out | apply below_alloc | apply pw_below_drewN | apply below_drew1 | refine below_set ?_ GE1100.out) | exact HB.out)) hb); clear BK1100; clear HB; have HO1103 := n0_; have BK1100 := n1_; have HB := n2_; clear n0_ n1_ n2_; (try clear hb); (try clear hb2); (try clear hk); (try clear hi); (try clear ho0); obtain ⟨Ao9, co9, eo9⟩ := Kd.R_slice HO1103.out; subst eo9) | ((with_reducible refine gate_callee (f := 88) rfl ?_); refine goesL_ (some 18) rfl rfl Try.func88 (by kernel_rfl) rfl #[.slice Ao9 t1101.length co9] rfl (by (try simp only [List.map_toArray, List.map_cons, List.map_nil]); first | done | rfl | (simp only [List.length_drop, List.length_take]; rfl)) ?_; (with_reducible refine (impl_primesOf.calls k _ _ t1101 t1105 _ ?side1 ?side2 A5.out).mono ?_); (case side1 => repeat (first | exact (Kd.R_reads' HO1103.out).2.2 | (with_reducible refine Kd.C_alloc ?_ _) | (with_reducible refine Kd.C_drewN ?_ _) | (with_reducible refine Kd.C_drew ?_))); (case side2 => exact (Kd.R_reads' HO1103.out).2.1); rintro e w10 ⟨v1106, rfl, ho0, hb⟩; refine ⟨_, rfl, ?_⟩; have n0_ := Aside0.mk (Kd.R_elder' (by (with_reducible repeat (first | apply Kd.R_alloc | apply Kd.R_drewN | apply Kd.R_drew)); exact HO1103.out) (Kd.R_base ho0) hb); have n1_ := Aside0.mk (Kd.R_lower (Kd.R_new' ho0 (Kd.R_lt (by (with_reducible repeat (first | apply Kd.R_alloc | apply Kd.R_drewN | apply Kd.R_drew)); exact HO1103.out))) (below_size (by repeat (first | (with_reducible first | exact HB.out | apply below_alloc | apply pw_below_drewN | apply below_drew1 | refine below_set ?_ GE1100.out) | exact HB.out)))); have n2_ := Aside0.mk (blk_below (g := gb1100) (o := .cells #[.int .i64 a0_0, .slice A0_1 l0_1.length c0_1] 37 (0, 0)) (by (with_reducible repeat (first | refine blk_drewN ?_ _ | refine blk_drew ?_ | refine blk_alloc ?_ _)); exact BK1100.out) hb); have n3_ := Aside0.mk (below_step (by repeat (first | (with_reducible first | exact HB.out | apply below_alloc | apply pw_below_drewN | apply below_drew1 | refine below_set ?_ GE1100.out) | exact HB.out)) hb); clear HO1103; clear BK1100; clear HB; have HO1103 := n0_; have HO1107 := n1_; have BK1100 := n2_; have HB := n3_; clear n0_ n1_ n2_ n3_; (try clear hb); (try clear hb2); (try clear hk); (try clear hi); (try clear ho0)))
  go_ret2
  exact ⟨_, by first | rfl | (simp [errW_none, errW_some] <;> rfl) | (simp [*, errW_none, errW_some] <;> rfl), by (with_reducible repeat (first | apply Kd.R_alloc | apply Kd.R_drewN | apply Kd.R_drew)); exact Kd.R_mono HO1107.out (fun _ hk => trivial), by repeat (first | (with_reducible first | exact HB.out | apply below_alloc | apply pw_below_drewN | apply below_drew1 | refine below_set ?_ GE1100.out) | exact HB.out)⟩
 ·rw [if_neg c4] at H
  have c4b0 : (t1104 == 0) = false := beq_eq_false_iff_ne.mpr c4
  have c4b1 : (t1104 != 0) = true := bne_iff_ne.mpr c4
  simp only [Option.some.injEq, Prod.mk.injEq] at H
  obtain ⟨rfl, rfl⟩ := H
  go_enter Try.func49, Try.ntmps49
  go_wp2_with (first | ((with_reducible refine gate_dst (N := 2) rfl ?_); refine box_event ?hg (N := 2) ?hd (cs := #[.int .i64 a0_0, .slice A0_1 l0_1.length c0_1]) (t := 37) ?hr ?_; (case hd => rfl); (case hg => rfl); (case hr => first | (go_simp; done) | (go_simp; rfl)); intro gb1100 hg w11 hbox hb; have n0_ := Aside0.mk (below_step (by repeat (first | (with_reducible first | exact HB.out | apply below_alloc | apply pw_below_drewN | apply below_drew1) | exact HB.out)) hb); have n1_ := Aside0.mk (hbox); have n2_ := Aside0.mk ((by rw [hg]; exact (below_size (by repeat (first | (with_reducible first | exact HB.out | apply below_alloc | apply pw_below_drewN | apply below_drew1) | exact HB.out))) : w.heap.size ≤ gb1100)); have n3_ := Aside0.mk ((by rw [hg]; exact (below_size (by repeat (first | (with_reducible first | exact HB.out | apply below_alloc | apply pw_below_drewN | apply below_drew1) | exact HB.out))) : w.heap.size ≤ gb1100)); clear HB; have HB := n0_; have BK1100 := n1_; have GW1100 := n2_; have GE1100 := n3_; clear n0_ n1_ n2_ n3_; clear hb hbox hg; have hcz12_0 : w11.cell? ⟨gb1100, 0, none⟩ = some (.int .i64 a0_0) := (blk_cell BK1100.out 0).trans rfl; have hcz12_1 : w11.cell? ⟨gb1100, 1, none⟩ = some (.slice A0_1 l0_1.length c0_1) := (blk_cell BK1100.out 1).trans rfl; have hfz12_0 := blk_frozen BK1100.out 0; have hfz12_1 := blk_frozen BK1100.out 1) | ((with_reducible refine gate_callee (f := 35) rfl ?_); refine goesL_ (some 11) rfl rfl Try.func35 (by kernel_rfl) rfl #[.agg #[.int .i64 a0_0, .slice A0_1 l0_1.length c0_1], .int .i64 a1] rfl (by (try simp only [List.map_toArray, List.map_cons, List.map_nil]); first | done | rfl | (simp only [List.length_drop, List.length_take]; rfl)) ?_; (with_reducible refine (impl_StraightCounts.calls k a0_0 _ _ l0_1 a1 t1101 t1104 _ ?side1 ?side2 A3.out).mono ?_); (case side1 => repeat (first | exact (Kd.C_below HR0_1.out HB.out) | (with_reducible refine Kd.C_alloc ?_ _) | (with_reducible refine Kd.C_drewN ?_ _) | (with_reducible refine Kd.C_drew ?_))); (case side2 => exact HC0_1.out); rintro e w13 ⟨v1102, rfl, ho0, hb⟩; refine ⟨_, rfl, ?_⟩; have n0_ := Aside0.mk (Kd.R_lower ho0 (below_size (by repeat (first | (with_reducible first | exact HB.out | apply below_alloc | apply pw_below_drewN | apply below_drew1 | refine below_set ?_ GE1100.out) | exact HB.out)))); have n1_ := Aside0.mk (blk_below (g := gb1100) (o := .cells #[.int .i64 a0_0, .slice A0_1 l0_1.length c0_1] 37 (0, 0)) (by (with_reducible repeat (first | refine blk_drewN ?_ _ | refine blk_drew ?_ | refine blk_alloc ?_ _)); exact BK1100.out) hb); have n2_ := Aside0.mk (below_step (by repeat (first | (with_reducible first | exact HB.out | apply below_alloc | apply pw_below_drewN | apply below_drew1 | refine below_set ?_ GE1100.out) | exact HB.out)) hb); clear BK1100; clear HB; have HO1103 := n0_; have BK1100 := n1_; have HB := n2_; clear n0_ n1_ n2_; (try clear hb); (try clear hb2); (try clear hk); (try clear hi); (try clear ho0)))
  go_ret2
  exact ⟨_, by first | rfl | (simp [errW_none, errW_some] <;> rfl) | (simp [*, errW_none, errW_some] <;> rfl), by first | exact Kd.R_nil _ _ _ _ _ | exact Kd.N_nil _ _ _ _ _ | exact Kd.V_nil _ _ _ _ _ | exact Kd.Q_nil _ _ _ _ _ | exact Kd.S_nil _ _ _ _ _, by repeat (first | (with_reducible first | exact HB.out | apply below_alloc | apply pw_below_drewN | apply below_drew1 | refine below_set ?_ GE1100.out) | exact HB.out)⟩

/-! ### laws_FnExactPrimeCounts: function 13 -/
def laws_FnExactPrimeCounts.f (k : Nat) (a0_0 : Int) (l0_1 : List (List Int)) (a1 : Int) : Option (Bool) := (laws_szGraph.f k a0_0 l0_1 1048576).bind fun t1109 => (if t1109 < 0 then (some true) else ((laws_toGraph.f k a0_0 l0_1).bind fun bt1110 => ((spec_PrimeCounts.f k bt1110.1 bt1110.2 a1).bind fun bt1114 => ((laws_toGraph.f k a0_0 l0_1).bind fun bt1118 => ((impl_PrimeCounts.f k bt1118.1 bt1118.2 a1).bind fun bt1123 => ((laws_eqInt64S.f k bt1123.1 bt1114.1).bind fun t1127 => (if t1127 = true then (if bt1123.2 = bt1114.2 then ((laws_toGraph.f k a0_0 l0_1).bind fun bt1128 => ((laws_eqGraph.f k bt1118.1 bt1118.2 bt1128.1 bt1128.2).bind fun t1132 => (if t1132 = true then ((laws_markGraph.f k bt1118.1 bt1118.2 1).bind fun bt1133 => (if bt1133.1 < 0 then (some false) else ((laws_eqInt64S.f k bt1123.1 bt1114.1).bind fun t1135 => (if t1135 = true then ((laws_markInt64S.f k bt1123.1 1).bind fun bt1136 => ((laws_heldInt64S.f k bt1136.2 1).bind fun t1138 => (if t1138 < 0 then (some false) else (if t1138 = bt1136.1 then ((laws_toGraph.f k a0_0 l0_1).bind fun bt1139 => ((impl_PrimeCounts.f k bt1139.1 bt1139.2 a1).bind fun bt1143 => ((laws_eqInt64S.f k bt1143.1 bt1114.1).bind fun t1147 => (if t1147 = true then (if bt1143.2 = bt1114.2 then ((laws_heldInt64S.f k bt1136.2 1).bind fun t1148 => (if t1148 < 0 then (some false) else (if t1148 = bt1136.1 then (some true) else (some false)))) else (some false)) else (some false))))) else (some false))))) else (some false))))) else (some false)))) else (some false)) else (some false))))))))
theorem laws_FnExactPrimeCounts.mono : ∀ a0 a1 a2 k, LeO (laws_FnExactPrimeCounts.f k a0 a1 a2) (laws_FnExactPrimeCounts.f (k + 1) a0 a1 a2) := by
 intro a0 a1 a2 k
 unfold laws_FnExactPrimeCounts.f
 repeat' first
   | (with_reducible exact impl_PrimeCounts.mono _ _ _ _)
   | (with_reducible exact laws_eqGraph.mono _ _ _ _ _)
   | (with_reducible exact laws_eqInt64S.mono _ _ _)
   | (with_reducible exact laws_heldInt64S.mono _ _ _)
   | (with_reducible exact laws_markGraph.mono _ _ _ _)
   | (with_reducible exact laws_markInt64S.mono _ _ _)
   | (with_reducible exact laws_szGraph.mono _ _ _ _)
   | (with_reducible exact laws_toGraph.mono _ _ _)
   | (with_reducible exact spec_PrimeCounts.mono _ _ _ _)
   | (with_reducible exact LeO.refl _)
   | (with_reducible exact LeO.none _)
   | (with_reducible refine LeO.ite ?_ ?_)
   | (with_reducible refine LeO.bind ?_ (fun _ => ?_))
set_option maxHeartbeats 8000000 in
set_option maxRecDepth 100000 in
theorem laws_FnExactPrimeCounts.calls (k : Nat) (a0_0 : Int) (A0_1 : Option Addr) (c0_1 : Nat) (l0_1 : List (List Int)) (a1 : Int) (w : World) (hr0_1 : Kd.C (Kd.slice 2 (Kd.int .i64)) w A0_1 l0_1.length l0_1) (hc0_1 : l0_1.length ≤ c0_1) (h : laws_FnExactPrimeCounts.f k a0_0 l0_1 a1 = some true) :
  Calls Try.prog 13 #[.agg #[.int .i64 a0_0, .slice A0_1 l0_1.length c0_1], .int .i64 a1] w fun e w' => e = .returned (.bool true) ∧ Below w.heap.size w w' := by
 have hu33 := Try.underlying33
 have hu37 := Try.underlying37
 have HR0_1 := Aside0.mk hr0_1
 have HC0_1 := Aside0.mk hc0_1
 clear hr0_1 hc0_1
 have HB := Aside0.mk (Below.refl w.heap.size w)
 have H : ((laws_szGraph.f k a0_0 l0_1 1048576).bind fun t1109 => (if t1109 < 0 then (some true) else ((laws_toGraph.f k a0_0 l0_1).bind fun bt1110 => ((spec_PrimeCounts.f k bt1110.1 bt1110.2 a1).bind fun bt1114 => ((laws_toGraph.f k a0_0 l0_1).bind fun bt1118 => ((impl_PrimeCounts.f k bt1118.1 bt1118.2 a1).bind fun bt1123 => ((laws_eqInt64S.f k bt1123.1 bt1114.1).bind fun t1127 => (if t1127 = true then (if bt1123.2 = bt1114.2 then ((laws_toGraph.f k a0_0 l0_1).bind fun bt1128 => ((laws_eqGraph.f k bt1118.1 bt1118.2 bt1128.1 bt1128.2).bind fun t1132 => (if t1132 = true then ((laws_markGraph.f k bt1118.1 bt1118.2 1).bind fun bt1133 => (if bt1133.1 < 0 then (some false) else ((laws_eqInt64S.f k bt1123.1 bt1114.1).bind fun t1135 => (if t1135 = true then ((laws_markInt64S.f k bt1123.1 1).bind fun bt1136 => ((laws_heldInt64S.f k bt1136.2 1).bind fun t1138 => (if t1138 < 0 then (some false) else (if t1138 = bt1136.1 then ((laws_toGraph.f k a0_0 l0_1).bind fun bt1139 => ((impl_PrimeCounts.f k bt1139.1 bt1139.2 a1).bind fun bt1143 => ((laws_eqInt64S.f k bt1143.1 bt1114.1).bind fun t1147 => (if t1147 = true then (if bt1143.2 = bt1114.2 then ((laws_heldInt64S.f k bt1136.2 1).bind fun t1148 => (if t1148 < 0 then (some false) else (if t1148 = bt1136.1 then (some true) else (some false)))) else (some false)) else (some false))))) else (some false))))) else (some false))))) else (some false)))) else (some false)) else (some false))))))))) = some true := h
 clear h
 replace H := Option.bind_eq_some_iff.mp H
 obtain ⟨t1109, A30, H⟩ := H
 replace H : (if t1109 < 0 then (some true) else ((laws_toGraph.f k a0_0 l0_1).bind fun bt1110 => ((spec_PrimeCounts.f k bt1110.1 bt1110.2 a1).bind fun bt1114 => ((laws_toGraph.f k a0_0 l0_1).bind fun bt1118 => ((impl_PrimeCounts.f k bt1118.1 bt1118.2 a1).bind fun bt1123 => ((laws_eqInt64S.f k bt1123.1 bt1114.1).bind fun t1127 => (if t1127 = true then (if bt1123.2 = bt1114.2 then ((laws_toGraph.f k a0_0 l0_1).bind fun bt1128 => ((laws_eqGraph.f k bt1118.1 bt1118.2 bt1128.1 bt1128.2).bind fun t1132 => (if t1132 = true then ((laws_markGraph.f k bt1118.1 bt1118.2 1).bind fun bt1133 => (if bt1133.1 < 0 then (some false) else ((laws_eqInt64S.f k bt1123.1 bt1114.1).bind fun t1135 => (if t1135 = true then ((laws_markInt64S.f k bt1123.1 1).bind fun bt1136 => ((laws_heldInt64S.f k bt1136.2 1).bind fun t1138 => (if t1138 < 0 then (some false) else (if t1138 = bt1136.1 then ((laws_toGraph.f k a0_0 l0_1).bind fun bt1139 => ((impl_PrimeCounts.f k bt1139.1 bt1139.2 a1).bind fun bt1143 => ((laws_eqInt64S.f k bt1143.1 bt1114.1).bind fun t1147 => (if t1147 = true then (if bt1143.2 = bt1114.2 then ((laws_heldInt64S.f k bt1136.2 1).bind fun t1148 => (if t1148 < 0 then (some false) else (if t1148 = bt1136.1 then (some true) else (some false)))) else (some false)) else (some false))))) else (some false))))) else (some false))))) else (some false)))) else (some false)) else (some false)))))))) = some true := H
 have A3 := Aside0.mk A30
 clear A30
 by_cases c4 : t1109 < 0
 ·rw [if_pos c4] at H
  have c4b0 : decide (t1109 < 0) = true := decide_eq_true c4
  clear c4
  try clear H
  go_enter Try.func13, Try.ntmps13
  go_wp2_with (first | ((with_reducible refine gate_dst (N := 2) rfl ?_); refine box_event ?hg (N := 2) ?hd (cs := #[.int .i64 a0_0, .slice A0_1 l0_1.length c0_1]) (t := 33) ?hr ?_; (case hd => rfl); (case hg => rfl); (case hr => first | (go_simp; done) | (go_simp; rfl)); intro gb1108 hg w5 hbox hb; have n0_ := Aside0.mk (hb.size); have n1_ := Aside0.mk ((⟨Nat.le_of_eq hg.symm, blk_lt hbox⟩ : w.heap.size ≤ gb1108 ∧ gb1108 < w5.heap.size)); have n2_ := Aside0.mk (below_step (by repeat (first | (with_reducible first | exact HB.out | apply below_alloc | apply pw_below_drewN | apply below_drew1) | exact HB.out)) hb); have n3_ := Aside0.mk (hbox); have n4_ := Aside0.mk ((by rw [hg]; exact (below_size (by repeat (first | (with_reducible first | exact HB.out | apply below_alloc | apply pw_below_drewN | apply below_drew1) | exact HB.out))) : w.heap.size ≤ gb1108)); have n5_ := Aside0.mk ((by rw [hg]; exact (below_size (by repeat (first | (with_reducible first | exact HB.out | apply below_alloc | apply pw_below_drewN | apply below_drew1) | exact HB.out))) : w.heap.size ≤ gb1108)); clear HB; have Zw5 := n0_; have ZB1108 := n1_; have HB := n2_; have BK1108 := n3_; have GW1108 := n4_; have GE1108 := n5_; clear n0_ n1_ n2_ n3_ n4_ n5_; clear hb hbox hg; have hcz6_0 : w5.cell? ⟨gb1108, 0, none⟩ = some (.int .i64 a0_0) := (blk_cell BK1108.out 0).trans rfl; have hcz6_1 : w5.cell? ⟨gb1108, 1, none⟩ = some (.slice A0_1 l0_1.length c0_1) := (blk_cell BK1108.out 1).trans rfl; have hfz6_0 := blk_frozen BK1108.out 0; have hfz6_1 := blk_frozen BK1108.out 1) | ((with_reducible refine gate_callee (f := 24) rfl ?_); refine goesL_ (some 18) rfl rfl Try.func24 (by kernel_rfl) rfl #[.agg #[.int .i64 a0_0, .slice A0_1 l0_1.length c0_1], .int .i64 1048576] rfl (by (try simp only [List.map_toArray, List.map_cons, List.map_nil]); first | done | rfl) ?_; (with_reducible refine (laws_szGraph.calls k a0_0 _ _ l0_1 1048576 t1109 _ ?side1 ?side2 A3.out).mono ?_); (case side1 => exact (Kd.C_below HR0_1.out HB.out)); (case side2 => exact HC0_1.out); rintro e w7 ⟨rfl, hb⟩; refine ⟨_, rfl, ?_⟩; have n0_ := Aside0.mk (blk_below (g := gb1108) (o := .cells #[.int .i64 a0_0, .slice A0_1 l0_1.length c0_1] 33 (0, 0)) (by (with_reducible repeat (first | refine blk_drewN ?_ _ | refine blk_drew ?_ | refine blk_alloc ?_ _)); exact BK1108.out) hb); have n1_ := Aside0.mk (below_step HB.out hb); have n2_ := Aside0.mk (hb.size); clear BK1108; clear HB; have BK1108 := n0_; have HB := n1_; have Zw7 := n2_; clear n0_ n1_ n2_; (try clear hb); (try clear hkp); (try clear hd_)))
  go_ret
  exact ⟨by first | rfl | (simp [errW_none, errW_some] <;> rfl) | (simp [*, errW_none, errW_some] <;> rfl), by repeat (first | (with_reducible first | exact HB.out | apply below_alloc | apply pw_below_drewN | apply below_drew1 | refine below_set ?_ GE1108.out) | exact HB.out)⟩
 ·rw [if_neg c4] at H
  have c4b0 : decide (t1109 < 0) = false := decide_eq_false c4
  clear c4
  replace H := Option.bind_eq_some_iff.mp H
  obtain ⟨⟨t1110, t1111⟩, A80, H⟩ := H
  replace H : ((spec_PrimeCounts.f k t1110 t1111 a1).bind fun bt1114 => ((laws_toGraph.f k a0_0 l0_1).bind fun bt1118 => ((impl_PrimeCounts.f k bt1118.1 bt1118.2 a1).bind fun bt1123 => ((laws_eqInt64S.f k bt1123.1 bt1114.1).bind fun t1127 => (if t1127 = true then (if bt1123.2 = bt1114.2 then ((laws_toGraph.f k a0_0 l0_1).bind fun bt1128 => ((laws_eqGraph.f k bt1118.1 bt1118.2 bt1128.1 bt1128.2).bind fun t1132 => (if t1132 = true then ((laws_markGraph.f k bt1118.1 bt1118.2 1).bind fun bt1133 => (if bt1133.1 < 0 then (some false) else ((laws_eqInt64S.f k bt1123.1 bt1114.1).bind fun t1135 => (if t1135 = true then ((laws_markInt64S.f k bt1123.1 1).bind fun bt1136 => ((laws_heldInt64S.f k bt1136.2 1).bind fun t1138 => (if t1138 < 0 then (some false) else (if t1138 = bt1136.1 then ((laws_toGraph.f k a0_0 l0_1).bind fun bt1139 => ((impl_PrimeCounts.f k bt1139.1 bt1139.2 a1).bind fun bt1143 => ((laws_eqInt64S.f k bt1143.1 bt1114.1).bind fun t1147 => (if t1147 = true then (if bt1143.2 = bt1114.2 then ((laws_heldInt64S.f k bt1136.2 1).bind fun t1148 => (if t1148 < 0 then (some false) else (if t1148 = bt1136.1 then (some true) else (some false)))) else (some false)) else (some false))))) else (some false))))) else (some false))))) else (some false)))) else (some false)) else (some false)))))) = some true := H
  have A8 := Aside0.mk A80
  clear A80
  replace H := Option.bind_eq_some_iff.mp H
  obtain ⟨⟨t1114, t1117⟩, A90, H⟩ := H
  replace H : ((laws_toGraph.f k a0_0 l0_1).bind fun bt1118 => ((impl_PrimeCounts.f k bt1118.1 bt1118.2 a1).bind fun bt1123 => ((laws_eqInt64S.f k bt1123.1 t1114).bind fun t1127 => (if t1127 = true then (if bt1123.2 = t1117 then ((laws_toGraph.f k a0_0 l0_1).bind fun bt1128 => ((laws_eqGraph.f k bt1118.1 bt1118.2 bt1128.1 bt1128.2).bind fun t1132 => (if t1132 = true then ((laws_markGraph.f k bt1118.1 bt1118.2 1).bind fun bt1133 => (if bt1133.1 < 0 then (some false) else ((laws_eqInt64S.f k bt1123.1 t1114).bind fun t1135 => (if t1135 = true then ((laws_markInt64S.f k bt1123.1 1).bind fun bt1136 => ((laws_heldInt64S.f k bt1136.2 1).bind fun t1138 => (if t1138 < 0 then (some false) else (if t1138 = bt1136.1 then ((laws_toGraph.f k a0_0 l0_1).bind fun bt1139 => ((impl_PrimeCounts.f k bt1139.1 bt1139.2 a1).bind fun bt1143 => ((laws_eqInt64S.f k bt1143.1 t1114).bind fun t1147 => (if t1147 = true then (if bt1143.2 = t1117 then ((laws_heldInt64S.f k bt1136.2 1).bind fun t1148 => (if t1148 < 0 then (some false) else (if t1148 = bt1136.1 then (some true) else (some false)))) else (some false)) else (some false))))) else (some false))))) else (some false))))) else (some false)))) else (some false)) else (some false))))) = some true := H
  have A9 := Aside0.mk A90
  clear A90
  replace H := Option.bind_eq_some_iff.mp H
  obtain ⟨⟨t1118, t1119⟩, A100, H⟩ := H
  replace H : ((impl_PrimeCounts.f k t1118 t1119 a1).bind fun bt1123 => ((laws_eqInt64S.f k bt1123.1 t1114).bind fun t1127 => (if t1127 = true then (if bt1123.2 = t1117 then ((laws_toGraph.f k a0_0 l0_1).bind fun bt1128 => ((laws_eqGraph.f k t1118 t1119 bt1128.1 bt1128.2).bind fun t1132 => (if t1132 = true then ((laws_markGraph.f k t1118 t1119 1).bind fun bt1133 => (if bt1133.1 < 0 then (some false) else ((laws_eqInt64S.f k bt1123.1 t1114).bind fun t1135 => (if t1135 = true then ((laws_markInt64S.f k bt1123.1 1).bind fun bt1136 => ((laws_heldInt64S.f k bt1136.2 1).bind fun t1138 => (if t1138 < 0 then (some false) else (if t1138 = bt1136.1 then ((laws_toGraph.f k a0_0 l0_1).bind fun bt1139 => ((impl_PrimeCounts.f k bt1139.1 bt1139.2 a1).bind fun bt1143 => ((laws_eqInt64S.f k bt1143.1 t1114).bind fun t1147 => (if t1147 = true then (if bt1143.2 = t1117 then ((laws_heldInt64S.f k bt1136.2 1).bind fun t1148 => (if t1148 < 0 then (some false) else (if t1148 = bt1136.1 then (some true) else (some false)))) else (some false)) else (some false))))) else (some false))))) else (some false))))) else (some false)))) else (some false)) else (some false)))) = some true := H
  have A10 := Aside0.mk A100
  clear A100
  replace H := Option.bind_eq_some_iff.mp H
  obtain ⟨⟨t1123, t1126⟩, A110, H⟩ := H
  replace H : ((laws_eqInt64S.f k t1123 t1114).bind fun t1127 => (if t1127 = true then (if t1126 = t1117 then ((laws_toGraph.f k a0_0 l0_1).bind fun bt1128 => ((laws_eqGraph.f k t1118 t1119 bt1128.1 bt1128.2).bind fun t1132 => (if t1132 = true then ((laws_markGraph.f k t1118 t1119 1).bind fun bt1133 => (if bt1133.1 < 0 then (some false) else ((laws_eqInt64S.f k t1123 t1114).bind fun t1135 => (if t1135 = true then ((laws_markInt64S.f k t1123 1).bind fun bt1136 => ((laws_heldInt64S.f k bt1136.2 1).bind fun t1138 => (if t1138 < 0 then (some false) else (if t1138 = bt1136.1 then ((laws_toGraph.f k a0_0 l0_1).bind fun bt1139 => ((impl_PrimeCounts.f k bt1139.1 bt1139.2 a1).bind fun bt1143 => ((laws_eqInt64S.f k bt1143.1 t1114).bind fun t1147 => (if t1147 = true then (if bt1143.2 = t1117 then ((laws_heldInt64S.f k bt1136.2 1).bind fun t1148 => (if t1148 < 0 then (some false) else (if t1148 = bt1136.1 then (some true) else (some false)))) else (some false)) else (some false))))) else (some false))))) else (some false))))) else (some false)))) else (some false)) else (some false))) = some true := H
  have A11 := Aside0.mk A110
  clear A110
  replace H := Option.bind_eq_some_iff.mp H
  obtain ⟨t1127, A120, H⟩ := H
  replace H : (if t1127 = true then (if t1126 = t1117 then ((laws_toGraph.f k a0_0 l0_1).bind fun bt1128 => ((laws_eqGraph.f k t1118 t1119 bt1128.1 bt1128.2).bind fun t1132 => (if t1132 = true then ((laws_markGraph.f k t1118 t1119 1).bind fun bt1133 => (if bt1133.1 < 0 then (some false) else ((laws_eqInt64S.f k t1123 t1114).bind fun t1135 => (if t1135 = true then ((laws_markInt64S.f k t1123 1).bind fun bt1136 => ((laws_heldInt64S.f k bt1136.2 1).bind fun t1138 => (if t1138 < 0 then (some false) else (if t1138 = bt1136.1 then ((laws_toGraph.f k a0_0 l0_1).bind fun bt1139 => ((impl_PrimeCounts.f k bt1139.1 bt1139.2 a1).bind fun bt1143 => ((laws_eqInt64S.f k bt1143.1 t1114).bind fun t1147 => (if t1147 = true then (if bt1143.2 = t1117 then ((laws_heldInt64S.f k bt1136.2 1).bind fun t1148 => (if t1148 < 0 then (some false) else (if t1148 = bt1136.1 then (some true) else (some false)))) else (some false)) else (some false))))) else (some false))))) else (some false))))) else (some false)))) else (some false)) else (some false)) = some true := H
  have A12 := Aside0.mk A120
  clear A120
  by_cases c13 : t1127 = true
  ·subst c13
   have H1 : (if t1126 = t1117 then ((laws_toGraph.f k a0_0 l0_1).bind fun bt1128 => ((laws_eqGraph.f k t1118 t1119 bt1128.1 bt1128.2).bind fun t1132 => (if t1132 = true then ((laws_markGraph.f k t1118 t1119 1).bind fun bt1133 => (if bt1133.1 < 0 then (some false) else ((laws_eqInt64S.f k t1123 t1114).bind fun t1135 => (if t1135 = true then ((laws_markInt64S.f k t1123 1).bind fun bt1136 => ((laws_heldInt64S.f k bt1136.2 1).bind fun t1138 => (if t1138 < 0 then (some false) else (if t1138 = bt1136.1 then ((laws_toGraph.f k a0_0 l0_1).bind fun bt1139 => ((impl_PrimeCounts.f k bt1139.1 bt1139.2 a1).bind fun bt1143 => ((laws_eqInt64S.f k bt1143.1 t1114).bind fun t1147 => (if t1147 = true then (if bt1143.2 = t1117 then ((laws_heldInt64S.f k bt1136.2 1).bind fun t1148 => (if t1148 < 0 then (some false) else (if t1148 = bt1136.1 then (some true) else (some false)))) else (some false)) else (some false))))) else (some false))))) else (some false))))) else (some false)))) else (some false)) = some true := by rw [if_pos rfl] at H; exact H
   clear H
   have H := H1
   clear H1
   by_cases c14 : t1126 = t1117
   ·rw [if_pos c14] at H
    have c14b0 : (t1126 == t1117) = true := beq_iff_eq.mpr c14
    have c14b1 : (t1126 != t1117) = false := bne_eq_false_iff_eq.mpr c14
    clear c14
    replace H := Option.bind_eq_some_iff.mp H
    obtain ⟨⟨t1128, t1129⟩, A150, H⟩ := H
    replace H : ((laws_eqGraph.f k t1118 t1119 t1128 t1129).bind fun t1132 => (if t1132 = true then ((laws_markGraph.f k t1118 t1119 1).bind fun bt1133 => (if bt1133.1 < 0 then (some false) else ((laws_eqInt64S.f k t1123 t1114).bind fun t1135 => (if t1135 = true then ((laws_markInt64S.f k t1123 1).bind fun bt1136 => ((laws_heldInt64S.f k bt1136.2 1).bind fun t1138 => (if t1138 < 0 then (some false) else (if t1138 = bt1136.1 then ((laws_toGraph.f k a0_0 l0_1).bind fun bt1139 => ((impl_PrimeCounts.f k bt1139.1 bt1139.2 a1).bind fun bt1143 => ((laws_eqInt64S.f k bt1143.1 t1114).bind fun t1147 => (if t1147 = true then (if bt1143.2 = t1117 then ((laws_heldInt64S.f k bt1136.2 1).bind fun t1148 => (if t1148 < 0 then (some false) else (if t1148 = bt1136.1 then (some true) else (some false)))) else (some false)) else (some false))))) else (some false))))) else (some false))))) else (some false))) = some true := H
    have A15 := Aside0.mk A150
    clear A150
    replace H := Option.bind_eq_some_iff.mp H
    obtain ⟨t1132, A160, H⟩ := H
    replace H : (if t1132 = true then ((laws_markGraph.f k t1118 t1119 1).bind fun bt1133 => (if bt1133.1 < 0 then (some false) else ((laws_eqInt64S.f k t1123 t1114).bind fun t1135 => (if t1135 = true then ((laws_markInt64S.f k t1123 1).bind fun bt1136 => ((laws_heldInt64S.f k bt1136.2 1).bind fun t1138 => (if t1138 < 0 then (some false) else (if t1138 = bt1136.1 then ((laws_toGraph.f k a0_0 l0_1).bind fun bt1139 => ((impl_PrimeCounts.f k bt1139.1 bt1139.2 a1).bind fun bt1143 => ((laws_eqInt64S.f k bt1143.1 t1114).bind fun t1147 => (if t1147 = true then (if bt1143.2 = t1117 then ((laws_heldInt64S.f k bt1136.2 1).bind fun t1148 => (if t1148 < 0 then (some false) else (if t1148 = bt1136.1 then (some true) else (some false)))) else (some false)) else (some false))))) else (some false))))) else (some false))))) else (some false)) = some true := H
    have A16 := Aside0.mk A160
    clear A160
    by_cases c17 : t1132 = true
    ·subst c17
     have H1 : ((laws_markGraph.f k t1118 t1119 1).bind fun bt1133 => (if bt1133.1 < 0 then (some false) else ((laws_eqInt64S.f k t1123 t1114).bind fun t1135 => (if t1135 = true then ((laws_markInt64S.f k t1123 1).bind fun bt1136 => ((laws_heldInt64S.f k bt1136.2 1).bind fun t1138 => (if t1138 < 0 then (some false) else (if t1138 = bt1136.1 then ((laws_toGraph.f k a0_0 l0_1).bind fun bt1139 => ((impl_PrimeCounts.f k bt1139.1 bt1139.2 a1).bind fun bt1143 => ((laws_eqInt64S.f k bt1143.1 t1114).bind fun t1147 => (if t1147 = true then (if bt1143.2 = t1117 then ((laws_heldInt64S.f k bt1136.2 1).bind fun t1148 => (if t1148 < 0 then (some false) else (if t1148 = bt1136.1 then (some true) else (some false)))) else (some false)) else (some false))))) else (some false))))) else (some false))))) = some true := by rw [if_pos rfl] at H; exact H
     clear H
     have H := H1
     clear H1
     replace H := Option.bind_eq_some_iff.mp H
     obtain ⟨⟨t1133, t1134⟩, A180, H⟩ := H
     replace H : (if t1133 < 0 then (some false) else ((laws_eqInt64S.f k t1123 t1114).bind fun t1135 => (if t1135 = true then ((laws_markInt64S.f k t1123 1).bind fun bt1136 => ((laws_heldInt64S.f k bt1136.2 1).bind fun t1138 => (if t1138 < 0 then (some false) else (if t1138 = bt1136.1 then ((laws_toGraph.f k a0_0 l0_1).bind fun bt1139 => ((impl_PrimeCounts.f k bt1139.1 bt1139.2 a1).bind fun bt1143 => ((laws_eqInt64S.f k bt1143.1 t1114).bind fun t1147 => (if t1147 = true then (if bt1143.2 = t1117 then ((laws_heldInt64S.f k bt1136.2 1).bind fun t1148 => (if t1148 < 0 then (some false) else (if t1148 = bt1136.1 then (some true) else (some false)))) else (some false)) else (some false))))) else (some false))))) else (some false)))) = some true := H
     have A18 := Aside0.mk A180
     clear A180
     by_cases c19 : t1133 < 0
     ·rw [if_pos c19] at H
      have c19b0 : decide (t1133 < 0) = true := decide_eq_true c19
      clear c19
      exact absurd H (by simp)
     ·rw [if_neg c19] at H
      have c19b0 : decide (t1133 < 0) = false := decide_eq_false c19
      clear c19
      replace H := Option.bind_eq_some_iff.mp H
      obtain ⟨t1135, A200, H⟩ := H
      replace H : (if t1135 = true then ((laws_markInt64S.f k t1123 1).bind fun bt1136 => ((laws_heldInt64S.f k bt1136.2 1).bind fun t1138 => (if t1138 < 0 then (some false) else (if t1138 = bt1136.1 then ((laws_toGraph.f k a0_0 l0_1).bind fun bt1139 => ((impl_PrimeCounts.f k bt1139.1 bt1139.2 a1).bind fun bt1143 => ((laws_eqInt64S.f k bt1143.1 t1114).bind fun t1147 => (if t1147 = true then (if bt1143.2 = t1117 then ((laws_heldInt64S.f k bt1136.2 1).bind fun t1148 => (if t1148 < 0 then (some false) else (if t1148 = bt1136.1 then (some true) else (some false)))) else (some false)) else (some false))))) else (some false))))) else (some false)) = some true := H
      have A20 := Aside0.mk A200
      clear A200
      by_cases c21 : t1135 = true
      ·subst c21
       have H1 : ((laws_markInt64S.f k t1123 1).bind fun bt1136 => ((laws_heldInt64S.f k bt1136.2 1).bind fun t1138 => (if t1138 < 0 then (some false) else (if t1138 = bt1136.1 then ((laws_toGraph.f k a0_0 l0_1).bind fun bt1139 => ((impl_PrimeCounts.f k bt1139.1 bt1139.2 a1).bind fun bt1143 => ((laws_eqInt64S.f k bt1143.1 t1114).bind fun t1147 => (if t1147 = true then (if bt1143.2 = t1117 then ((laws_heldInt64S.f k bt1136.2 1).bind fun t1148 => (if t1148 < 0 then (some false) else (if t1148 = bt1136.1 then (some true) else (some false)))) else (some false)) else (some false))))) else (some false))))) = some true := by rw [if_pos rfl] at H; exact H
       clear H
       have H := H1
       clear H1
       replace H := Option.bind_eq_some_iff.mp H
       obtain ⟨⟨t1136, t1137⟩, A220, H⟩ := H
       replace H : ((laws_heldInt64S.f k t1137 1).bind fun t1138 => (if t1138 < 0 then (some false) else (if t1138 = t1136 then ((laws_toGraph.f k a0_0 l0_1).bind fun bt1139 => ((impl_PrimeCounts.f k bt1139.1 bt1139.2 a1).bind fun bt1143 => ((laws_eqInt64S.f k bt1143.1 t1114).bind fun t1147 => (if t1147 = true then (if bt1143.2 = t1117 then ((laws_heldInt64S.f k t1137 1).bind fun t1148 => (if t1148 < 0 then (some false) else (if t1148 = t1136 then (some true) else (some false)))) else (some false)) else (some false))))) else (some false)))) = some true := H
       have A22 := Aside0.mk A220
       clear A220
       replace H := Option.bind_eq_some_iff.mp H
       obtain ⟨t1138, A230, H⟩ := H
       replace H : (if t1138 < 0 then (some false) else (if t1138 = t1136 then ((laws_toGraph.f k a0_0 l0_1).bind fun bt1139 => ((impl_PrimeCounts.f k bt1139.1 bt1139.2 a1).bind fun bt1143 => ((laws_eqInt64S.f k bt1143.1 t1114).bind fun t1147 => (if t1147 = true then (if bt1143.2 = t1117 then ((laws_heldInt64S.f k t1137 1).bind fun t1148 => (if t1148 < 0 then (some false) else (if t1148 = t1136 then (some true) else (some false)))) else (some false)) else (some false))))) else (some false))) = some true := H
       have A23 := Aside0.mk A230
       clear A230
       by_cases c24 : t1138 < 0
       ·rw [if_pos c24] at H
        have c24b0 : decide (t1138 < 0) = true := decide_eq_true c24
        clear c24
        exact absurd H (by simp)
       ·rw [if_neg c24] at H
        have c24b0 : decide (t1138 < 0) = false := decide_eq_false c24
        clear c24
        by_cases c25 : t1138 = t1136
        ·rw [if_pos c25] at H
         have c25b0 : (t1138 == t1136) = true := beq_iff_eq.mpr c25
         have c25b1 : (t1138 != t1136) = false := bne_eq_false_iff_eq.mpr c25
         clear c25
         replace H := Option.bind_eq_some_iff.mp H
         obtain ⟨⟨t1139, t1140⟩, A260, H⟩ := H
         replace H : ((impl_PrimeCounts.f k t1139 t1140 a1).bind fun bt1143 => ((laws_eqInt64S.f k bt1143.1 t1114).bind fun t1147 => (if t1147 = true then (if bt1143.2 = t1117 then ((laws_heldInt64S.f k t1137 1).bind fun t1148 => (if t1148 < 0 then (some false) else (if t1148 = t1136 then (some true) else (some false)))) else (some false)) else (some false)))) = some true := H
         have A26 := Aside0.mk A260
         clear A260
         replace H := Option.bind_eq_some_iff.mp H
         obtain ⟨⟨t1143, t1146⟩, A270, H⟩ := H
         replace H : ((laws_eqInt64S.f k t1143 t1114).bind fun t1147 => (if t1147 = true then (if t1146 = t1117 then ((laws_heldInt64S.f k t1137 1).bind fun t1148 => (if t1148 < 0 then (some false) else (if t1148 = t1136 then (some true) else (some false)))) else (some false)) else (some false))) = some true := H
         have A27 := Aside0.mk A270
         clear A270
         replace H := Option.bind_eq_some_iff.mp H
         obtain ⟨t1147, A280, H⟩ := H
         replace H : (if t1147 = true then (if t1146 = t1117 then ((laws_heldInt64S.f k t1137 1).bind fun t1148 => (if t1148 < 0 then (some false) else (if t1148 = t1136 then (some true) else (some false)))) else (some false)) else (some false)) = some true := H
         have A28 := Aside0.mk A280
         clear A280
         by_cases c29 : t1147 = true
         ·subst c29
          have H1 : (if t1146 = t1117 then ((laws_heldInt64S.f k t1137 1).bind fun t1148 => (if t1148 < 0 then (some false) else (if t1148 = t1136 then (some true) else (some false)))) else (some false)) = some true := by rw [if_pos rfl] at H; exact H
          clear H
          have H := H1
          clear H1
          by_cases c30 : t1146 = t1117
          ·rw [if_pos c30] at H
           have c30b0 : (t1146 == t1117) = true := beq_iff_eq.mpr c30
           have c30b1 : (t1146 != t1117) = false := bne_eq_false_iff_eq.mpr c30
           clear c30
           replace H := Option.bind_eq_some_iff.mp H
           obtain ⟨t1148, A310, H⟩ := H
           replace H : (if t1148 < 0 then (some false) else (if t1148 = t1136 then (some true) else (some false))) = some true := H
           have A31 := Aside0.mk A310
           clear A310
           by_cases c32 : t1148 < 0
           ·rw [if_pos c32] at H
            have c32b0 : decide (t1148 < 0) = true := decide_eq_true c32
            clear c32
            exact absurd H (by simp)
           ·rw [if_neg c32] at H
            have c32b0 : decide (t1148 < 0) = false := decide_eq_false c32
            clear c32
            by_cases c33 : t1148 = t1136
            ·rw [if_pos c33] at H
             have c33b0 : (t1148 == t1136) = true := beq_iff_eq.mpr c33
             have c33b1 : (t1148 != t1136) = false := bne_eq_false_iff_eq.mpr c33
             clear c33
             try clear H
             go_enter Try.func13, Try.ntmps13
             try go_wp2_with (first | ((with_reducible refine gate_dst (N := 2) rfl ?_); refine box_event ?hg (N := 2) ?hd (cs := #[.int .i64 a0_0, .slice A0_1 l0_1.length c0_1]) (t := 33) ?hr ?_; (case hd => rfl); (case hg => rfl); (case hr => first | (go_simp; done) | (go_simp; rfl)); intro gb1108 hg w34 hbox hb; have n0_ := Aside0.mk (hb.size); have n1_ := Aside0.mk ((⟨Nat.le_of_eq hg.symm, blk_lt hbox⟩ : w.heap.size ≤ gb1108 ∧ gb1108 < w34.heap.size)); have n2_ := Aside0.mk (below_step (by repeat (first | (with_reducible first | exact HB.out | apply below_alloc | apply pw_below_drewN | apply below_drew1) | exact HB.out)) hb); have n3_ := Aside0.mk (hbox); have n4_ := Aside0.mk ((by rw [hg]; exact (below_size (by repeat (first | (with_reducible first | exact HB.out | apply below_alloc | apply pw_below_drewN | apply below_drew1) | exact HB.out))) : w.heap.size ≤ gb1108)); have n5_ := Aside0.mk ((by rw [hg]; exact (below_size (by repeat (first | (with_reducible first | exact HB.out | apply below_alloc | apply pw_below_drewN | apply below_drew1) | exact HB.out))) : w.heap.size ≤ gb1108)); clear HB; have Zw34 := n0_; have ZB1108 := n1_; have HB := n2_; have BK1108 := n3_; have GW1108 := n4_; have GE1108 := n5_; clear n0_ n1_ n2_ n3_ n4_ n5_; clear hb hbox hg; have hcz35_0 : w34.cell? ⟨gb1108, 0, none⟩ = some (.int .i64 a0_0) := (blk_cell BK1108.out 0).trans rfl; have hcz35_1 : w34.cell? ⟨gb1108, 1, none⟩ = some (.slice A0_1 l0_1.length c0_1) := (blk_cell BK1108.out 1).trans rfl; have hfz35_0 := blk_frozen BK1108.out 0; have hfz35_1 := blk_frozen BK1108.out 1) | ((with_reducible refine gate_callee (f := 24) rfl ?_); refine goesL_ (some 18) rfl rfl Try.func24 (by kernel_rfl) rfl #[.agg #[.int .i64 a0_0, .slice A0_1 l0_1.length c0_1], .int .i64 1048576] rfl (by (try simp only [List.map_toArray, List.map_cons, List.map_nil]); first | done | rfl) ?_; (with_reducible refine (laws_szGraph.calls k a0_0 _ _ l0_1 1048576 t1109 _ ?side1 ?side2 A3.out).mono ?_); (case side1 => exact (Kd.C_below HR0_1.out HB.out)); (case side2 => exact HC0_1.out); rintro e w36 ⟨rfl, hb⟩; refine ⟨_, rfl, ?_⟩; have n0_ := Aside0.mk (blk_below (g := gb1108) (o := .cells #[.int .i64 a0_0, .slice A0_1 l0_1.length c0_1] 33 (0, 0)) (by (with_reducible repeat (first | refine blk_drewN ?_ _ | refine blk_drew ?_ | refine blk_alloc ?_ _)); exact BK1108.out) hb); have n1_ := Aside0.mk (below_step HB.out hb); have n2_ := Aside0.mk (hb.size); clear BK1108; clear HB; have BK1108 := n0_; have HB := n1_; have Zw36 := n2_; clear n0_ n1_ n2_; (try clear hb); (try clear hkp); (try clear hd_); have hcz37_0 : w36.cell? ⟨gb1108, 0, none⟩ = some (.int .i64 a0_0) := (blk_cell BK1108.out 0).trans rfl; have hcz37_1 : w36.cell? ⟨gb1108, 1, none⟩ = some (.slice A0_1 l0_1.length c0_1) := (blk_cell BK1108.out 1).trans rfl; have hfz37_0 := blk_frozen BK1108.out 0; have hfz37_1 := blk_frozen BK1108.out 1) | ((with_reducible refine gate_callee (f := 26) rfl ?_); refine goesL_ (some 23) rfl rfl Try.func26 (by kernel_rfl) rfl #[.agg #[.int .i64 a0_0, .slice A0_1 l0_1.length c0_1]] rfl (by (try simp only [List.map_toArray, List.map_cons, List.map_nil]); first | done | rfl) ?_; (with_reducible refine (laws_toGraph.calls k a0_0 _ _ l0_1 t1110 t1111 _ ?side1 ?side2 A8.out).mono ?_); (case side1 => exact (Kd.C_below HR0_1.out HB.out)); (case side2 => exact HC0_1.out); rintro e w38 ⟨v1112, rfl, ho0, hb⟩; refine ⟨_, rfl, ?_⟩; have n0_ := Aside0.mk (blk_below (g := gb1108) (o := .cells #[.int .i64 a0_0, .slice A0_1 l0_1.length c0_1] 33 (0, 0)) (by (with_reducible repeat (first | refine blk_drewN ?_ _ | refine blk_drew ?_ | refine blk_alloc ?_ _)); exact BK1108.out) hb); have n1_ := Aside0.mk (Kd.S_lower (Kd.S_mono (Kd.S_bound ho0) (fun k_ hk_ => (⟨hk_.2.1, hk_.2.2.1⟩ : w36.heap.size ≤ k_ ∧ k_ < w38.heap.size))) HB.out.size); have n2_ := Aside0.mk (below_step HB.out hb); have n3_ := Aside0.mk (hb.size); clear BK1108; clear HB; have BK1108 := n0_; have HO1113 := n1_; have HB := n2_; have Zw38 := n3_; clear n0_ n1_ n2_ n3_; (try clear hb); (try clear hkp); (try clear hd_); (try clear ho0); obtain ⟨Ao39, co39, eo39⟩ := Kd.S_slice HO1113.out; subst eo39) | ((with_reducible refine gate_callee (f := 48) rfl ?_); refine goesL_ (some 25) rfl rfl Try.func48 (by kernel_rfl) rfl #[.agg #[.int .i64 t1110, .slice Ao39 t1111.length co39], .int .i64 a1] rfl (by (try simp only [List.map_toArray, List.map_cons, List.map_nil]); first | done | rfl) ?_; (with_reducible refine (spec_PrimeCounts.calls k t1110 _ _ t1111 a1 t1114 t1117 _ ?side1 ?side2 A9.out).mono ?_); (case side1 => exact (Kd.S_reads' HO1113.out).2.2); (case side2 => (have e_ := Kd.S_reads' HO1113.out; have e1_ := e_.1; have e2_ := e_.2.1; omega)); rintro e w40 ⟨v1115, rfl, ho0, hb⟩; refine ⟨_, rfl, ?_⟩; have n0_ := Aside0.mk (blk_below (g := gb1108) (o := .cells #[.int .i64 a0_0, .slice A0_1 l0_1.length c0_1] 33 (0, 0)) (by (with_reducible repeat (first | refine blk_drewN ?_ _ | refine blk_drew ?_ | refine blk_alloc ?_ _)); exact BK1108.out) hb); have n1_ := Aside0.mk (Kd.S_below HO1113.out hb); have n2_ := Aside0.mk (Kd.R_lower (Kd.R_mono (Kd.R_bound ho0) (fun k_ hk_ => (⟨hk_.2.1, hk_.2.2.1⟩ : w38.heap.size ≤ k_ ∧ k_ < w40.heap.size))) HB.out.size); have n3_ := Aside0.mk (below_step HB.out hb); have n4_ := Aside0.mk (hb.size); clear BK1108; clear HO1113; clear HB; have BK1108 := n0_; have HO1113 := n1_; have HO1116 := n2_; have HB := n3_; have Zw40 := n4_; clear n0_ n1_ n2_ n3_ n4_; (try clear hb); (try clear hkp); (try clear hd_); (try clear ho0); obtain ⟨Ao41, co41, eo41⟩ := Kd.R_slice HO1116.out; subst eo41; have hcz42_0 : w40.cell? ⟨gb1108, 0, none⟩ = some (.int .i64 a0_0) := (blk_cell BK1108.out 0).trans rfl; have hcz42_1 : w40.cell? ⟨gb1108, 1, none⟩ = some (.slice A0_1 l0_1.length c0_1) := (blk_cell BK1108.out 1).trans rfl; have hfz42_0 := blk_frozen BK1108.out 0; have hfz42_1 := blk_frozen BK1108.out 1) | ((with_reducible refine gate_callee (f := 26) rfl ?_); refine goesL_ (some 29) rfl rfl Try.func26 (by kernel_rfl) rfl #[.agg #[.int .i64 a0_0, .slice A0_1 l0_1.length c0_1]] rfl (by (try simp only [List.map_toArray, List.map_cons, List.map_nil]); first | done | rfl) ?_; (with_reducible refine (laws_toGraph.calls k a0_0 _ _ l0_1 t1118 t1119 _ ?side1 ?side2 A10.out).mono ?_); (case side1 => exact (Kd.C_below HR0_1.out HB.out)); (case side2 => exact HC0_1.out); rintro e w43 ⟨v1120, rfl, ho0, hb⟩; refine ⟨_, rfl, ?_⟩; have n0_ := Aside0.mk (blk_below (g := gb1108) (o := .cells #[.int .i64 a0_0, .slice A0_1 l0_1.length c0_1] 33 (0, 0)) (by (with_reducible repeat (first | refine blk_drewN ?_ _ | refine blk_drew ?_ | refine blk_alloc ?_ _)); exact BK1108.out) hb); have n1_ := Aside0.mk (Kd.S_below HO1113.out hb); have n2_ := Aside0.mk (Kd.R_below HO1116.out hb); have n3_ := Aside0.mk (Kd.S_lower (Kd.S_mono (Kd.S_bound ho0) (fun k_ hk_ => (⟨hk_.2.1, hk_.2.2.1⟩ : w40.heap.size ≤ k_ ∧ k_ < w43.heap.size))) HB.out.size); have n4_ := Aside0.mk (below_step HB.out hb); have n5_ := Aside0.mk (hb.size); clear BK1108; clear HO1113; clear HO1116; clear HB; have BK1108 := n0_; have HO1113 := n1_; have HO1116 := n2_; have HO1121 := n3_; have HB := n4_; have Zw43 := n5_; clear n0_ n1_ n2_ n3_ n4_ n5_; (try clear hb); (try clear hkp); (try clear hd_); (try clear ho0); obtain ⟨Ao44, co44, eo44⟩ := Kd.S_slice HO1121.out; subst eo44) | ((with_reducible refine gate_dst (N := 8) rfl ?_); refine box_event ?hg (N := 8) ?hd (cs := #[.int .i64 0, .slice none 0 0]) (t := 37) ?hr ?_; (case hd => rfl); (case hg => rfl); (case hr => first | (go_simp; done) | (go_simp; rfl)); intro gb1122 hg w45 hbox hb; have n0_ := Aside0.mk (Kd.S_below HO1113.out hb); have n1_ := Aside0.mk (Kd.R_below HO1116.out hb); have n2_ := Aside0.mk (Kd.S_below HO1121.out hb); have n3_ := Aside0.mk (blk_below (g := gb1108) (o := .cells #[.int .i64 a0_0, .slice A0_1 l0_1.length c0_1] 33 (0, 0)) (by (with_reducible repeat (first | refine blk_drewN ?_ _ | refine blk_drew ?_ | refine blk_alloc ?_ _)); exact BK1108.out) hb); have n4_ := Aside0.mk (hb.size); have n5_ := Aside0.mk ((⟨Nat.le_of_eq hg.symm, blk_lt hbox⟩ : w43.heap.size ≤ gb1122 ∧ gb1122 < w45.heap.size)); have n6_ := Aside0.mk (below_step (by repeat (first | (with_reducible first | exact HB.out | apply below_alloc | apply pw_below_drewN | apply below_drew1 | refine below_set ?_ GE1108.out) | exact HB.out)) hb); have n7_ := Aside0.mk (hbox); have n8_ := Aside0.mk ((by rw [hg]; exact (below_size (by repeat (first | (with_reducible first | exact HB.out | apply below_alloc | apply pw_below_drewN | apply below_drew1 | refine below_set ?_ GE1108.out) | exact HB.out))) : w.heap.size ≤ gb1122)); have n9_ := Aside0.mk ((by rw [hg]; exact (below_size (by repeat (first | (with_reducible first | exact HB.out | apply below_alloc | apply pw_below_drewN | apply below_drew1 | refine below_set ?_ GE1108.out) | exact HB.out))) : w.heap.size ≤ gb1122)); have n10_ := Aside0.mk ((by rw [hg]; exact Nat.ne_of_lt (blk_lt (g := gb1108) (o := .cells #[.int .i64 a0_0, .slice A0_1 l0_1.length c0_1] 33 (0, 0)) (by (with_reducible repeat (first | refine blk_drewN ?_ _ | refine blk_drew ?_ | refine blk_alloc ?_ _)); exact BK1108.out)) : gb1108 ≠ gb1122)); have n11_ := Aside0.mk ((by rw [hg]; exact Nat.ne_of_gt (blk_lt (g := gb1108) (o := .cells #[.int .i64 a0_0, .slice A0_1 l0_1.length c0_1] 33 (0, 0)) (by (with_reducible repeat (first | refine blk_drewN ?_ _ | refine blk_drew ?_ | refine blk_alloc ?_ _)); exact BK1108.out)) : gb1122 ≠ gb1108)); clear HO1113; clear HO1116; clear HO1121; clear BK1108; clear HB; have HO1113 := n0_; have HO1116 := n1_; have HO1121 := n2_; have BK1108 := n3_; have Zw45 := n4_; have ZB1122 := n5_; have HB := n6_; have BK1122 := n7_; have GW1122 := n8_; have GE1122 := n9_; have NB1108_1122 := n10_; have NB1122_1108 := n11_; clear n0_ n1_ n2_ n3_ n4_ n5_ n6_ n7_ n8_ n9_ n10_ n11_; clear hb hbox hg; have hnb46 := NB1122_1108.out; have hnc46 := NB1108_1122.out; have hcz47_0 : w45.cell? ⟨gb1122, 0, none⟩ = some (.int .i64 0) := (blk_cell BK1122.out 0).trans rfl; have hcz47_1 : w45.cell? ⟨gb1122, 1, none⟩ = some (.slice none 0 0) := (blk_cell BK1122.out 1).trans rfl; have hfz47_0 := blk_frozen BK1122.out 0; have hfz47_1 := blk_frozen BK1122.out 1) | ((with_reducible refine gate_callee (f := 49) rfl ?_); have n0_ := Aside0.mk (show ((w45.setCell ⟨gb1122, 0, none⟩ (.int .i64 t1118)).setCell ⟨gb1122, 1, none⟩ (.slice Ao44 t1119.length co44)).heap[gb1108]? = some (.cells #[.int .i64 a0_0, .slice A0_1 l0_1.length c0_1] 33 (0, 0)) from (by (with_reducible repeat (first | refine blk_drewN ?_ _ | refine blk_drew ?_ | refine blk_alloc ?_ _)); refine blk_far ?_ NB1108_1122.out _; (with_reducible repeat (first | refine blk_drewN ?_ _ | refine blk_drew ?_ | refine blk_alloc ?_ _)); refine blk_far ?_ NB1108_1122.out _; (with_reducible repeat (first | refine blk_drewN ?_ _ | refine blk_drew ?_ | refine blk_alloc ?_ _)); exact BK1108.out)); have n1_ := Aside0.mk (show Kd.S (Kd.slice 2 (Kd.int .i64)) 24 ((w45.setCell ⟨gb1122, 0, none⟩ (.int .i64 t1118)).setCell ⟨gb1122, 1, none⟩ (.slice Ao44 t1119.length co44)) w.heap.size (fun k_ => w36.heap.size ≤ k_ ∧ k_ < w38.heap.size) (.slice Ao39 t1111.length co39) t1111 from (Kd.S_far (Kd.S_far HO1113.out (fun k_ ho_ => (show k_ ≠ gb1122 from by have h1_ := ho_.1; have h2_ := ho_.2; have h3_ := ZB1122.out.1; have h4_ := ZB1122.out.2; have := Zw34.out; have := Zw36.out; have := Zw38.out; have := Zw40.out; have := Zw43.out; have := Zw45.out; omega)) _) (fun k_ ho_ => (show k_ ≠ gb1122 from by have h1_ := ho_.1; have h2_ := ho_.2; have h3_ := ZB1122.out.1; have h4_ := ZB1122.out.2; have := Zw34.out; have := Zw36.out; have := Zw38.out; have := Zw40.out; have := Zw43.out; have := Zw45.out; omega)) _)); have n2_ := Aside0.mk (show Kd.R (Kd.int .i64) 2 ((w45.setCell ⟨gb1122, 0, none⟩ (.int .i64 t1118)).setCell ⟨gb1122, 1, none⟩ (.slice Ao44 t1119.length co44)) w.heap.size (fun k_ => w38.heap.size ≤ k_ ∧ k_ < w40.heap.size) (.slice Ao41 t1114.length co41) t1114 from (Kd.R_far (Kd.R_far HO1116.out (fun k_ ho_ => (show k_ ≠ gb1122 from by have h1_ := ho_.1; have h2_ := ho_.2; have h3_ := ZB1122.out.1; have h4_ := ZB1122.out.2; have := Zw34.out; have := Zw36.out; have := Zw38.out; have := Zw40.out; have := Zw43.out; have := Zw45.out; omega)) _) (fun k_ ho_ => (show k_ ≠ gb1122 from by have h1_ := ho_.1; have h2_ := ho_.2; have h3_ := ZB1122.out.1; have h4_ := ZB1122.out.2; have := Zw34.out; have := Zw36.out; have := Zw38.out; have := Zw40.out; have := Zw43.out; have := Zw45.out; omega)) _)); have n3_ := Aside0.mk (show Kd.S (Kd.slice 2 (Kd.int .i64)) 24 ((w45.setCell ⟨gb1122, 0, none⟩ (.int .i64 t1118)).setCell ⟨gb1122, 1, none⟩ (.slice Ao44 t1119.length co44)) w.heap.size (fun k_ => w40.heap.size ≤ k_ ∧ k_ < w43.heap.size) (.slice Ao44 t1119.length co44) t1119 from (Kd.S_far (Kd.S_far HO1121.out (fun k_ ho_ => (show k_ ≠ gb1122 from by have h1_ := ho_.1; have h2_ := ho_.2; have h3_ := ZB1122.out.1; have h4_ := ZB1122.out.2; have := Zw34.out; have := Zw36.out; have := Zw38.out; have := Zw40.out; have := Zw43.out; have := Zw45.out; omega)) _) (fun k_ ho_ => (show k_ ≠ gb1122 from by have h1_ := ho_.1; have h2_ := ho_.2; have h3_ := ZB1122.out.1; have h4_ := ZB1122.out.2; have := Zw34.out; have := Zw36.out; have := Zw38.out; have := Zw40.out; have := Zw43.out; have := Zw45.out; omega)) _)); have n4_ := Aside0.mk (show ((w45.setCell ⟨gb1122, 0, none⟩ (.int .i64 t1118)).setCell ⟨gb1122, 1, none⟩ (.slice Ao44 t1119.length co44)).heap[gb1122]? = some (.cells #[.int .i64 t1118, .slice Ao44 t1119.length co44] 37 (0, 0)) from (by (with_reducible repeat (first | refine blk_drewN ?_ _ | refine blk_drew ?_ | refine blk_alloc ?_ _)); refine blk_put (cs := #[.int .i64 t1118, .slice none 0 0]) ?_ 1 _ rfl; (with_reducible repeat (first | refine blk_drewN ?_ _ | refine blk_drew ?_ | refine blk_alloc ?_ _)); refine blk_put (cs := #[.int .i64 0, .slice none 0 0]) ?_ 0 _ rfl; (with_reducible repeat (first | refine blk_drewN ?_ _ | refine blk_drew ?_ | refine blk_alloc ?_ _)); exact BK1122.out)); have n5_ := Aside0.mk (show Below w.heap.size w ((w45.setCell ⟨gb1122, 0, none⟩ (.int .i64 t1118)).setCell ⟨gb1122, 1, none⟩ (.slice Ao44 t1119.length co44)) from (below_set (below_set HB.out GE1122.out) GE1122.out)); have n6_ := Aside0.mk (show w45.heap.size ≤ ((w45.setCell ⟨gb1122, 0, none⟩ (.int .i64 t1118)).setCell ⟨gb1122, 1, none⟩ (.slice Ao44 t1119.length co44)).heap.size from (Kept.setCell (Kept.setCell (Kept.refl w45 (fun _ => True)) (.inl trivial) _) (.inl trivial) _).1); clear BK1108; clear HO1113; clear HO1116; clear HO1121; clear BK1122; clear HB; generalize hW_ : ((w45.setCell ⟨gb1122, 0, none⟩ (.int .i64 t1118)).setCell ⟨gb1122, 1, none⟩ (.slice Ao44 t1119.length co44)) = w48 at n0_ n1_ n2_ n3_ n4_ n5_ n6_ ⊢; clear hW_; have BK1108 := n0_; have HO1113 := n1_; have HO1116 := n2_; have HO1121 := n3_; have BK1122 := n4_; have HB := n5_; have Zw48 := n6_; clear n0_ n1_ n2_ n3_ n4_ n5_ n6_; refine goesL_ (some 33) rfl rfl Try.func49 (by kernel_rfl) rfl #[.agg #[.int .i64 t1118, .slice Ao44 t1119.length co44], .int .i64 a1] rfl (by (try simp only [List.map_toArray, List.map_cons, List.map_nil]); first | done | rfl) ?_; (with_reducible refine (impl_PrimeCounts.calls k t1118 _ _ t1119 a1 t1123 t1126 _ ?side1 ?side2 A11.out).mono ?_); (case side1 => exact (Kd.S_reads' HO1121.out).2.2); (case side2 => (have e_ := Kd.S_reads' HO1121.out; have e1_ := e_.1; have e2_ := e_.2.1; omega)); rintro e w49 ⟨v1124, rfl, ho0, hb⟩; refine ⟨_, rfl, ?_⟩; have n0_ := Aside0.mk (blk_below (g := gb1108) (o := .cells #[.int .i64 a0_0, .slice A0_1 l0_1.length c0_1] 33 (0, 0)) (by (with_reducible repeat (first | refine blk_drewN ?_ _ | refine blk_drew ?_ | refine blk_alloc ?_ _)); exact BK1108.out) hb); have n1_ := Aside0.mk (Kd.S_below HO1113.out hb); have n2_ := Aside0.mk (Kd.R_below HO1116.out hb); have n3_ := Aside0.mk (Kd.S_below HO1121.out hb); have n4_ := Aside0.mk (blk_below (g := gb1122) (o := .cells #[.int .i64 t1118, .slice Ao44 t1119.length co44] 37 (0, 0)) (by (with_reducible repeat (first | refine blk_drewN ?_ _ | refine blk_drew ?_ | refine blk_alloc ?_ _)); exact BK1122.out) hb); have n5_ := Aside0.mk (Kd.R_lower (Kd.R_mono (Kd.R_bound ho0) (fun k_ hk_ => (⟨hk_.2.1, hk_.2.2.1⟩ : w48.heap.size ≤ k_ ∧ k_ < w49.heap.size))) HB.out.size); have n6_ := Aside0.mk (below_step HB.out hb); have n7_ := Aside0.mk (hb.size); clear BK1108; clear HO1113; clear HO1116; clear HO1121; clear BK1122; clear HB; have BK1108 := n0_; have HO1113 := n1_; have HO1116 := n2_; have HO1121 := n3_; have BK1122 := n4_; have HO1125 := n5_; have HB := n6_; have Zw49 := n7_; clear n0_ n1_ n2_ n3_ n4_ n5_ n6_ n7_; (try clear hb); (try clear hkp); (try clear hd_); (try clear ho0); obtain ⟨Ao50, co50, eo50⟩ := Kd.R_slice HO1125.out; subst eo50) | ((with_reducible refine gate_callee (f := 19) rfl ?_); refine goesL_ (some 38) rfl rfl Try.func19 (by kernel_rfl) rfl #[.slice Ao50 t1123.length co50, .slice Ao41 t1114.length co41] rfl (by (try simp only [List.map_toArray, List.map_cons, List.map_nil]); first | done | rfl) ?_; (with_reducible refine (laws_eqInt64S.calls k _ _ t1123 _ _ t1114 true _ ?side1 ?side2 ?side3 ?side4 A12.out).mono ?_); (case side1 => exact (Kd.R_reads' HO1125.out).2.2); (case side2 => (have e_ := Kd.R_reads' HO1125.out; have e1_ := e_.1; have e2_ := e_.2.1; omega)); (case side3 => exact (Kd.R_reads' HO1116.out).2.2); (case side4 => (have e_ := Kd.R_reads' HO1116.out; have e1_ := e_.1; have e2_ := e_.2.1; omega)); rintro e w51 ⟨rfl, hd_⟩; refine ⟨_, rfl, ?_⟩; have hb := hd_.below; have n0_ := Aside0.mk (blk_below (g := gb1108) (o := .cells #[.int .i64 a0_0, .slice A0_1 l0_1.length c0_1] 33 (0, 0)) (by (with_reducible repeat (first | refine blk_drewN ?_ _ | refine blk_drew ?_ | refine blk_alloc ?_ _)); exact BK1108.out) hb); have n1_ := Aside0.mk (Kd.S_below HO1113.out hb); have n2_ := Aside0.mk (Kd.R_below HO1116.out hb); have n3_ := Aside0.mk (Kd.S_below HO1121.out hb); have n4_ := Aside0.mk (blk_below (g := gb1122) (o := .cells #[.int .i64 t1118, .slice Ao44 t1119.length co44] 37 (0, 0)) (by (with_reducible repeat (first | refine blk_drewN ?_ _ | refine blk_drew ?_ | refine blk_alloc ?_ _)); exact BK1122.out) hb); have n5_ := Aside0.mk (Kd.R_below HO1125.out hb); have n6_ := Aside0.mk (below_step HB.out hb); have n7_ := Aside0.mk (hb.size); clear BK1108; clear HO1113; clear HO1116; clear HO1121; clear BK1122; clear HO1125; clear HB; have BK1108 := n0_; have HO1113 := n1_; have HO1116 := n2_; have HO1121 := n3_; have BK1122 := n4_; have HO1125 := n5_; have HB := n6_; have Zw51 := n7_; clear n0_ n1_ n2_ n3_ n4_ n5_ n6_ n7_; (try clear hb); (try clear hkp); (try clear hd_)))
             have n0_ := Aside0.mk ((show w51.heap.size ≤ w51.drew.heap.size from Nat.le_refl _))
             have n1_ := Aside0.mk (Kd.S_drew HO1113.out)
             have n2_ := Aside0.mk (Kd.R_drew HO1116.out)
             have n3_ := Aside0.mk (Kd.S_drew HO1121.out)
             have n4_ := Aside0.mk (Kd.R_drew HO1125.out)
             have n5_ := Aside0.mk (blk_drew BK1108.out)
             have n6_ := Aside0.mk (blk_drew BK1122.out)
             have n7_ := Aside0.mk (below_drew1 HB.out)
             clear HO1113
             clear HO1116
             clear HO1121
             clear HO1125
             clear BK1108
             clear BK1122
             clear HB
             have Zw52 := n0_
             have HO1113 := n1_
             have HO1116 := n2_
             have HO1121 := n3_
             have HO1125 := n4_
             have BK1108 := n5_
             have BK1122 := n6_
             have HB := n7_
             clear n0_ n1_ n2_ n3_ n4_ n5_ n6_ n7_
             refine start_ (n := 5) (S := fun w' => w'.cell? ⟨gb1122, 0, none⟩ = some (.int .i64 t1118) ∧ w'.cell? ⟨gb1122, 1, none⟩ = some (.slice Ao44 t1119.length co44) ∧ w'.cell? ⟨gb1108, 0, none⟩ = some (.int .i64 a0_0) ∧ w'.cell? ⟨gb1108, 1, none⟩ = some (.slice A0_1 l0_1.length c0_1)) (ds := []) #[false, false, false, false, false] (by kernel_rfl) rfl rfl ⟨(blk_cell BK1122.out 0).trans rfl, (blk_cell BK1122.out 1).trans rfl, (blk_cell BK1108.out 0).trans rfl, (blk_cell BK1108.out 1).trans rfl⟩ (fun hHeld => ?_)
             generalize w51.drew = w52 at HO1113 HO1116 HO1121 HO1125 BK1108 BK1122 HB Zw52 hHeld ⊢
             refine take_ (i := 0) (N := some 45) (v := ?_) (a' := ?_) #[true, false, false, false, false] rfl rfl (by kernel_rfl) (fun _ _ _ h => h) (Or.inl ⟨by rfl, ?_⟩) hHeld ?_ ?_
             rotate_left
             ·rintro w' ⟨s0, s1, s2, s3⟩
              go_simp
              with_reducible rfl
             rotate_left
             ·simp only [Act.put, nf_]
              rfl
             refine take_ (i := 1) (N := some 46) (v := ?_) (a' := ?_) #[true, true, false, false, false] rfl rfl (by kernel_rfl) (fun _ _ _ h => h) (Or.inl ⟨by rfl, ?_⟩) hHeld ?_ ?_
             rotate_left
             ·rintro w' ⟨s0, s1, s2, s3⟩
              go_simp
              with_reducible rfl
             rotate_left
             ·simp only [Act.put, nf_]
              rfl
             refine one_ (i := 2) (N := some 47) #[true, true, true, false, false] rfl rfl (by kernel_rfl) (by decide) (fun K hK => ?_)
             refine goes_ Try.func26 (by kernel_rfl) rfl #[.agg #[.int .i64 a0_0, .slice A0_1 l0_1.length c0_1]] (by rfl) rfl rfl (by (try simp only [List.map_toArray, List.map_cons, List.map_nil]); first | done | rfl | (simp only [List.length_drop, List.length_take]; rfl)) ?_
             with_reducible refine (laws_toGraph.calls k a0_0 _ _ l0_1 t1128 t1129 _ ?side1 ?side2 A15.out).mono ?_
             (case side1 => exact (Kd.C_below HR0_1.out HB.out))
             (case side2 => exact HC0_1.out)
             rintro e w53 ⟨v1130, rfl, ho0, hb⟩
             refine ⟨_, rfl, ?_⟩
             have n0_ := Aside0.mk (blk_below (g := gb1108) (o := .cells #[.int .i64 a0_0, .slice A0_1 l0_1.length c0_1] 33 (0, 0)) (by (with_reducible repeat (first | refine blk_drewN ?_ _ | refine blk_drew ?_ | refine blk_alloc ?_ _)); exact BK1108.out) hb)
             have n1_ := Aside0.mk (Kd.S_below HO1113.out hb)
             have n2_ := Aside0.mk (Kd.R_below HO1116.out hb)
             have n3_ := Aside0.mk (Kd.S_below HO1121.out hb)
             have n4_ := Aside0.mk (blk_below (g := gb1122) (o := .cells #[.int .i64 t1118, .slice Ao44 t1119.length co44] 37 (0, 0)) (by (with_reducible repeat (first | refine blk_drewN ?_ _ | refine blk_drew ?_ | refine blk_alloc ?_ _)); exact BK1122.out) hb)
             have n5_ := Aside0.mk (Kd.R_below HO1125.out hb)
             have n6_ := Aside0.mk (Kd.S_lower (Kd.S_mono (Kd.S_bound ho0) (fun k_ hk_ => (⟨hk_.2.1, hk_.2.2.1⟩ : w52.heap.size ≤ k_ ∧ k_ < w53.heap.size))) HB.out.size)
             have n7_ := Aside0.mk (below_step HB.out hb)
             have n8_ := Aside0.mk (hb.size)
             clear BK1108
             clear HO1113
             clear HO1116
             clear HO1121
             clear BK1122
             clear HO1125
             clear HB
             have BK1108 := n0_
             have HO1113 := n1_
             have HO1116 := n2_
             have HO1121 := n3_
             have BK1122 := n4_
             have HO1125 := n5_
             have HO1131 := n6_
             have HB := n7_
             have Zw53 := n8_
             clear n0_ n1_ n2_ n3_ n4_ n5_ n6_ n7_ n8_
             (try clear hb)
             (try clear hkp)
             (try clear hd_)
             (try clear ho0)
             obtain ⟨Ao54, co54, eo54⟩ := Kd.S_slice HO1131.out
             subst eo54
             refine hK.out _ _ ⟨(blk_cell BK1122.out 0).trans rfl, (blk_cell BK1122.out 1).trans rfl, (blk_cell BK1108.out 0).trans rfl, (blk_cell BK1108.out 1).trans rfl⟩ (fun hHeld => ?_)
             clear hK K
             refine norm_ (a' := ?_) ?_ ?_
             rotate_left
             ·show Act.put _ (some 47) _ = _
              simp only [Act.put, nf_]
              rfl
             refine one_ (i := 3) (N := some 48) #[true, true, true, true, false] rfl rfl (by kernel_rfl) (by decide) (fun K hK => ?_)
             refine goes_ Try.func28 (by kernel_rfl) rfl #[.agg #[.int .i64 t1118, .slice Ao44 t1119.length co44], .agg #[.int .i64 t1128, .slice Ao54 t1129.length co54]] (by rfl) rfl rfl (by (try simp only [List.map_toArray, List.map_cons, List.map_nil]); first | done | rfl | (simp only [List.length_drop, List.length_take]; rfl)) ?_
             with_reducible refine (laws_eqGraph.calls k t1118 _ _ t1119 t1128 _ _ t1129 true _ ?side1 ?side2 ?side3 ?side4 A16.out).mono ?_
             (case side1 => exact (Kd.S_reads' HO1121.out).2.2)
             (case side2 => (have e_ := Kd.S_reads' HO1121.out; have e1_ := e_.1; have e2_ := e_.2.1; omega))
             (case side3 => exact (Kd.S_reads' HO1131.out).2.2)
             (case side4 => (have e_ := Kd.S_reads' HO1131.out; have e1_ := e_.1; have e2_ := e_.2.1; omega))
             rintro e w55 ⟨rfl, hb⟩
             refine ⟨_, rfl, ?_⟩
             have n0_ := Aside0.mk (blk_below (g := gb1108) (o := .cells #[.int .i64 a0_0, .slice A0_1 l0_1.length c0_1] 33 (0, 0)) (by (with_reducible repeat (first | refine blk_drewN ?_ _ | refine blk_drew ?_ | refine blk_alloc ?_ _)); exact BK1108.out) hb)
             have n1_ := Aside0.mk (Kd.S_below HO1113.out hb)
             have n2_ := Aside0.mk (Kd.R_below HO1116.out hb)
             have n3_ := Aside0.mk (Kd.S_below HO1121.out hb)
             have n4_ := Aside0.mk (blk_below (g := gb1122) (o := .cells #[.int .i64 t1118, .slice Ao44 t1119.length co44] 37 (0, 0)) (by (with_reducible repeat (first | refine blk_drewN ?_ _ | refine blk_drew ?_ | refine blk_alloc ?_ _)); exact BK1122.out) hb)
             have n5_ := Aside0.mk (Kd.R_below HO1125.out hb)
             have n6_ := Aside0.mk (Kd.S_below HO1131.out hb)
             have n7_ := Aside0.mk (below_step HB.out hb)
             have n8_ := Aside0.mk (hb.size)
             clear BK1108
             clear HO1113
             clear HO1116
             clear HO1121
             clear BK1122
             clear HO1125
             clear HO1131
             clear HB
             have BK1108 := n0_
             have HO1113 := n1_
             have HO1116 := n2_
             have HO1121 := n3_
             have BK1122 := n4_
             have HO1125 := n5_
             have HO1131 := n6_
             have HB := n7_
             have Zw55 := n8_
             clear n0_ n1_ n2_ n3_ n4_ n5_ n6_ n7_ n8_
             (try clear hb)
             (try clear hkp)
             (try clear hd_)
             refine hK.out _ _ ⟨(blk_cell BK1122.out 0).trans rfl, (blk_cell BK1122.out 1).trans rfl, (blk_cell BK1108.out 0).trans rfl, (blk_cell BK1108.out 1).trans rfl⟩ (fun hHeld => ?_)
             clear hK K
             refine norm_ (a' := ?_) ?_ ?_
             rotate_left
             ·show Act.put _ (some 48) _ = _
              simp only [Act.put, nf_]
              rfl
             refine pure_ (i := 4) (N := some 49) (v := ?_) (a' := ?_) #[true, true, true, true, true] rfl rfl (by kernel_rfl) (fun _ _ _ h => h) (Or.inl ⟨by rfl, ?_⟩) ?_ ?_
             rotate_left
             ·intro w'
              go_simp
              with_reducible rfl
             rotate_left
             ·simp only [Act.put, nf_]
              rfl
             refine done_ (by kernel_rfl) ?_
             have hcz56_0 : w55.cell? ⟨gb1122, 0, none⟩ = some (.int .i64 t1118) := (blk_cell BK1122.out 0).trans rfl
             have hcz56_1 : w55.cell? ⟨gb1122, 1, none⟩ = some (.slice Ao44 t1119.length co44) := (blk_cell BK1122.out 1).trans rfl
             have hfz56_0 := blk_frozen BK1122.out 0
             have hfz56_1 := blk_frozen BK1122.out 1
             try go_wp2_with (first | ((with_reducible refine gate_callee (f := 36) rfl ?_); refine goesL_ (some 52) rfl rfl Try.func36 (by kernel_rfl) rfl #[.agg #[.int .i64 t1118, .slice Ao44 t1119.length co44], .int .i64 1] rfl (by (try simp only [List.map_toArray, List.map_cons, List.map_nil]); first | done | rfl) ?_; (with_reducible refine (laws_markGraph.calls k t1118 (fun k_ => w40.heap.size ≤ k_ ∧ k_ < w43.heap.size) (.slice Ao44 t1119.length co44) t1119 1 t1133 t1134 w _ ?side1 ?side2 A18.out).mono ?_); (case side1 => exact HB.out); (case side2 => exact HO1121.out); rintro e w57 ⟨rfl, hy0, hb, hkp⟩; refine ⟨_, rfl, ?_⟩; have n0_ := Aside0.mk (blk_kept (by (with_reducible repeat (first | refine blk_drewN ?_ _ | refine blk_drew ?_ | refine blk_alloc ?_ _)); exact BK1108.out) hkp (fun hs_ => by have h1_ := ZB1108.out.1; have h2_ := ZB1108.out.2; have := Zw34.out; have := Zw36.out; have := Zw38.out; have := Zw40.out; have := Zw43.out; have := Zw45.out; have := Zw48.out; have := Zw49.out; have := Zw51.out; have := Zw52.out; have := Zw53.out; have := Zw55.out; have h3_ := hs_.1; have h4_ := hs_.2; omega)); have n1_ := Aside0.mk (Kd.S_step HO1113.out (fun k_ ho_ hl_ => hkp.2 k_ hl_ (fun hs_ => by have h1_ := ho_.1; have h2_ := ho_.2; have := Zw34.out; have := Zw36.out; have := Zw38.out; have := Zw40.out; have := Zw43.out; have := Zw45.out; have := Zw48.out; have := Zw49.out; have := Zw51.out; have := Zw52.out; have := Zw53.out; have := Zw55.out; have h3_ := hs_.1; have h4_ := hs_.2; omega))); have n2_ := Aside0.mk (Kd.R_step HO1116.out (fun k_ ho_ hl_ => hkp.2 k_ hl_ (fun hs_ => by have h1_ := ho_.1; have h2_ := ho_.2; have := Zw34.out; have := Zw36.out; have := Zw38.out; have := Zw40.out; have := Zw43.out; have := Zw45.out; have := Zw48.out; have := Zw49.out; have := Zw51.out; have := Zw52.out; have := Zw53.out; have := Zw55.out; have h3_ := hs_.1; have h4_ := hs_.2; omega))); have n3_ := Aside0.mk (hy0); have n4_ := Aside0.mk (blk_kept (by (with_reducible repeat (first | refine blk_drewN ?_ _ | refine blk_drew ?_ | refine blk_alloc ?_ _)); exact BK1122.out) hkp (fun hs_ => by have h1_ := ZB1122.out.1; have h2_ := ZB1122.out.2; have := Zw34.out; have := Zw36.out; have := Zw38.out; have := Zw40.out; have := Zw43.out; have := Zw45.out; have := Zw48.out; have := Zw49.out; have := Zw51.out; have := Zw52.out; have := Zw53.out; have := Zw55.out; have h3_ := hs_.1; have h4_ := hs_.2; omega)); have n5_ := Aside0.mk (Kd.R_step HO1125.out (fun k_ ho_ hl_ => hkp.2 k_ hl_ (fun hs_ => by have h1_ := ho_.1; have h2_ := ho_.2; have := Zw34.out; have := Zw36.out; have := Zw38.out; have := Zw40.out; have := Zw43.out; have := Zw45.out; have := Zw48.out; have := Zw49.out; have := Zw51.out; have := Zw52.out; have := Zw53.out; have := Zw55.out; have h3_ := hs_.1; have h4_ := hs_.2; omega))); have n6_ := Aside0.mk (Kd.S_step HO1131.out (fun k_ ho_ hl_ => hkp.2 k_ hl_ (fun hs_ => by have h1_ := ho_.1; have h2_ := ho_.2; have := Zw34.out; have := Zw36.out; have := Zw38.out; have := Zw40.out; have := Zw43.out; have := Zw45.out; have := Zw48.out; have := Zw49.out; have := Zw51.out; have := Zw52.out; have := Zw53.out; have := Zw55.out; have h3_ := hs_.1; have h4_ := hs_.2; omega))); have n7_ := Aside0.mk (hb); have n8_ := Aside0.mk (hkp.1); clear BK1108; clear HO1113; clear HO1116; clear HO1121; clear BK1122; clear HO1125; clear HO1131; clear HB; have BK1108 := n0_; have HO1113 := n1_; have HO1116 := n2_; have HO1121 := n3_; have BK1122 := n4_; have HO1125 := n5_; have HO1131 := n6_; have HB := n7_; have Zw57 := n8_; clear n0_ n1_ n2_ n3_ n4_ n5_ n6_ n7_ n8_; (try clear hb); (try clear hkp); (try clear hd_); (try clear hy0)) | (go_at_call 19; (with_reducible refine (laws_eqInt64S.calls k _ _ t1123 _ _ t1114 true _ ?side1 ?side2 ?side3 ?side4 A20.out).mono ?_); (case side1 => exact (Kd.R_reads' HO1125.out).2.2); (case side2 => (have e_ := Kd.R_reads' HO1125.out; have e1_ := e_.1; have e2_ := e_.2.1; omega)); (case side3 => exact (Kd.R_reads' HO1116.out).2.2); (case side4 => (have e_ := Kd.R_reads' HO1116.out; have e1_ := e_.1; have e2_ := e_.2.1; omega)); rintro e w58 ⟨rfl, hd_⟩; have hb := hd_.below; have n0_ := Aside0.mk (blk_below (g := gb1108) (o := .cells #[.int .i64 a0_0, .slice A0_1 l0_1.length c0_1] 33 (0, 0)) (by (with_reducible repeat (first | refine blk_drewN ?_ _ | refine blk_drew ?_ | refine blk_alloc ?_ _)); exact BK1108.out) hb); have n1_ := Aside0.mk (Kd.S_below HO1113.out hb); have n2_ := Aside0.mk (Kd.R_below HO1116.out hb); have n3_ := Aside0.mk (Kd.S_below HO1121.out hb); have n4_ := Aside0.mk (blk_below (g := gb1122) (o := .cells #[.int .i64 t1118, .slice Ao44 t1119.length co44] 37 (0, 0)) (by (with_reducible repeat (first | refine blk_drewN ?_ _ | refine blk_drew ?_ | refine blk_alloc ?_ _)); exact BK1122.out) hb); have n5_ := Aside0.mk (Kd.R_below HO1125.out hb); have n6_ := Aside0.mk (Kd.S_below HO1131.out hb); have n7_ := Aside0.mk (below_step HB.out hb); have n8_ := Aside0.mk (hb.size); clear BK1108; clear HO1113; clear HO1116; clear HO1121; clear BK1122; clear HO1125; clear HO1131; clear HB; have BK1108 := n0_; have HO1113 := n1_; have HO1116 := n2_; have HO1121 := n3_; have BK1122 := n4_; have HO1125 := n5_; have HO1131 := n6_; have HB := n7_; have Zw58 := n8_; clear n0_ n1_ n2_ n3_ n4_ n5_ n6_ n7_ n8_; (try clear hb); (try clear hkp); (try clear hd_)) | ((with_reducible refine gate_callee (f := 22) rfl ?_); refine goesL_ (some 68) rfl rfl Try.func22 (by kernel_rfl) rfl #[.slice Ao50 t1123.length co50, .int .i64 1] rfl (by (try simp only [List.map_toArray, List.map_cons, List.map_nil]); first | done | rfl) ?_; (with_reducible refine (laws_markInt64S.calls k (fun k_ => w48.heap.size ≤ k_ ∧ k_ < w49.heap.size) (.slice Ao50 t1123.length co50) t1123 1 t1136 t1137 w _ ?side1 ?side2 A22.out).mono ?_); (case side1 => exact HB.out); (case side2 => exact HO1125.out); rintro e w59 ⟨rfl, hy0, hb, hkp⟩; refine ⟨_, rfl, ?_⟩; have n0_ := Aside0.mk (blk_kept (by (with_reducible repeat (first | refine blk_drewN ?_ _ | refine blk_drew ?_ | refine blk_alloc ?_ _)); exact BK1108.out) hkp (fun hs_ => by have h1_ := ZB1108.out.1; have h2_ := ZB1108.out.2; have := Zw34.out; have := Zw36.out; have := Zw38.out; have := Zw40.out; have := Zw43.out; have := Zw45.out; have := Zw48.out; have := Zw49.out; have := Zw51.out; have := Zw52.out; have := Zw53.out; have := Zw55.out; have := Zw57.out; have := Zw58.out; have h3_ := hs_.1; have h4_ := hs_.2; omega)); have n1_ := Aside0.mk (Kd.S_step HO1113.out (fun k_ ho_ hl_ => hkp.2 k_ hl_ (fun hs_ => by have h1_ := ho_.1; have h2_ := ho_.2; have := Zw34.out; have := Zw36.out; have := Zw38.out; have := Zw40.out; have := Zw43.out; have := Zw45.out; have := Zw48.out; have := Zw49.out; have := Zw51.out; have := Zw52.out; have := Zw53.out; have := Zw55.out; have := Zw57.out; have := Zw58.out; have h3_ := hs_.1; have h4_ := hs_.2; omega))); have n2_ := Aside0.mk (Kd.R_step HO1116.out (fun k_ ho_ hl_ => hkp.2 k_ hl_ (fun hs_ => by have h1_ := ho_.1; have h2_ := ho_.2; have := Zw34.out; have := Zw36.out; have := Zw38.out; have := Zw40.out; have := Zw43.out; have := Zw45.out; have := Zw48.out; have := Zw49.out; have := Zw51.out; have := Zw52.out; have := Zw53.out; have := Zw55.out; have := Zw57.out; have := Zw58.out; have h3_ := hs_.1; have h4_ := hs_.2; omega))); have n3_ := Aside0.mk (Kd.S_step HO1121.out (fun k_ ho_ hl_ => hkp.2 k_ hl_ (fun hs_ => by have h1_ := ho_.1; have h2_ := ho_.2; have := Zw34.out; have := Zw36.out; have := Zw38.out; have := Zw40.out; have := Zw43.out; have := Zw45.out; have := Zw48.out; have := Zw49.out; have := Zw51.out; have := Zw52.out; have := Zw53.out; have := Zw55.out; have := Zw57.out; have := Zw58.out; have h3_ := hs_.1; have h4_ := hs_.2; omega))); have n4_ := Aside0.mk (blk_kept (by (with_reducible repeat (first | refine blk_drewN ?_ _ | refine blk_drew ?_ | refine blk_alloc ?_ _)); exact BK1122.out) hkp (fun hs_ => by have h1_ := ZB1122.out.1; have h2_ := ZB1122.out.2; have := Zw34.out; have := Zw36.out; have := Zw38.out; have := Zw40.out; have := Zw43.out; have := Zw45.out; have := Zw48.out; have := Zw49.out; have := Zw51.out; have := Zw52.out; have := Zw53.out; have := Zw55.out; have := Zw57.out; have := Zw58.out; have h3_ := hs_.1; have h4_ := hs_.2; omega)); have n5_ := Aside0.mk (Kd.R_reok rfl hy0 (fun k_ e_ => HO1125.out.1 k_ e_)); have n6_ := Aside0.mk (Kd.S_step HO1131.out (fun k_ ho_ hl_ => hkp.2 k_ hl_ (fun hs_ => by have h1_ := ho_.1; have h2_ := ho_.2; have := Zw34.out; have := Zw36.out; have := Zw38.out; have := Zw40.out; have := Zw43.out; have := Zw45.out; have := Zw48.out; have := Zw49.out; have := Zw51.out; have := Zw52.out; have := Zw53.out; have := Zw55.out; have := Zw57.out; have := Zw58.out; have h3_ := hs_.1; have h4_ := hs_.2; omega))); have n7_ := Aside0.mk (hb); have n8_ := Aside0.mk (hkp.1); clear BK1108; clear HO1113; clear HO1116; clear HO1121; clear BK1122; clear HO1125; clear HO1131; clear HB; have BK1108 := n0_; have HO1113 := n1_; have HO1116 := n2_; have HO1121 := n3_; have BK1122 := n4_; have HO1125 := n5_; have HO1131 := n6_; have HB := n7_; have Zw59 := n8_; clear n0_ n1_ n2_ n3_ n4_ n5_ n6_ n7_ n8_; (try clear hb); (try clear hkp); (try clear hd_); (try clear hy0)) | ((with_reducible refine gate_callee (f := 23) rfl ?_); refine goesL_ (some 71) rfl rfl Try.func23 (by kernel_rfl) rfl #[.slice Ao50 t1123.length co50, .int .i64 1] rfl (by (try simp only [List.map_toArray, List.map_cons, List.map_nil]); first | done | rfl) ?_; refine calls_of_args (args' := #[.slice Ao50 t1137.length co50, .int .i64 1]) (by first | rfl | (rw [show t1123.length = t1137.length from (Kd.R_reads' HO1125.out).1] <;> rfl) | (simp only [show t1123.length = t1137.length from (Kd.R_reads' HO1125.out).1])) ?_; (with_reducible refine (laws_heldInt64S.calls k _ _ t1137 1 t1138 _ ?side1 ?side2 A23.out).mono ?_); (case side1 => exact (Kd.R_reads' HO1125.out).2.2); (case side2 => (have e_ := Kd.R_reads' HO1125.out; have e1_ := e_.1; have e2_ := e_.2.1; omega)); rintro e w60 ⟨rfl, hd_⟩; refine ⟨_, rfl, ?_⟩; have hb := hd_.below; have n0_ := Aside0.mk (blk_below (g := gb1108) (o := .cells #[.int .i64 a0_0, .slice A0_1 l0_1.length c0_1] 33 (0, 0)) (by (with_reducible repeat (first | refine blk_drewN ?_ _ | refine blk_drew ?_ | refine blk_alloc ?_ _)); exact BK1108.out) hb); have n1_ := Aside0.mk (Kd.S_below HO1113.out hb); have n2_ := Aside0.mk (Kd.R_below HO1116.out hb); have n3_ := Aside0.mk (Kd.S_below HO1121.out hb); have n4_ := Aside0.mk (blk_below (g := gb1122) (o := .cells #[.int .i64 t1118, .slice Ao44 t1119.length co44] 37 (0, 0)) (by (with_reducible repeat (first | refine blk_drewN ?_ _ | refine blk_drew ?_ | refine blk_alloc ?_ _)); exact BK1122.out) hb); have n5_ := Aside0.mk (Kd.R_below HO1125.out hb); have n6_ := Aside0.mk (Kd.S_below HO1131.out hb); have n7_ := Aside0.mk (below_step HB.out hb); have n8_ := Aside0.mk (hb.size); clear BK1108; clear HO1113; clear HO1116; clear HO1121; clear BK1122; clear HO1125; clear HO1131; clear HB; have BK1108 := n0_; have HO1113 := n1_; have HO1116 := n2_; have HO1121 := n3_; have BK1122 := n4_; have HO1125 := n5_; have HO1131 := n6_; have HB := n7_; have Zw60 := n8_; clear n0_ n1_ n2_ n3_ n4_ n5_ n6_ n7_ n8_; (try clear hb); (try clear hkp); (try clear hd_); have hcz61_0 : w60.cell? ⟨gb1108, 0, none⟩ = some (.int .i64 a0_0) := (blk_cell BK1108.out 0).trans rfl; have hcz61_1 : w60.cell? ⟨gb1108, 1, none⟩ = some (.slice A0_1 l0_1.length c0_1) := (blk_cell BK1108.out 1).trans rfl; have hfz61_0 := blk_frozen BK1108.out 0; have hfz61_1 := blk_frozen BK1108.out 1) | ((with_reducible refine gate_callee (f := 26) rfl ?_); refine goesL_ (some 79) rfl rfl Try.func26 (by kernel_rfl) rfl #[.agg #[.int .i64 a0_0, .slice A0_1 l0_1.length c0_1]] rfl (by (try simp only [List.map_toArray, List.map_cons, List.map_nil]); first | done | rfl) ?_; (with_reducible refine (laws_toGraph.calls k a0_0 _ _ l0_1 t1139 t1140 _ ?side1 ?side2 A26.out).mono ?_); (case side1 => exact (Kd.C_below HR0_1.out HB.out)); (case side2 => exact HC0_1.out); rintro e w62 ⟨v1141, rfl, ho0, hb⟩; refine ⟨_, rfl, ?_⟩; have n0_ := Aside0.mk (blk_below (g := gb1108) (o := .cells #[.int .i64 a0_0, .slice A0_1 l0_1.length c0_1] 33 (0, 0)) (by (with_reducible repeat (first | refine blk_drewN ?_ _ | refine blk_drew ?_ | refine blk_alloc ?_ _)); exact BK1108.out) hb); have n1_ := Aside0.mk (Kd.S_below HO1113.out hb); have n2_ := Aside0.mk (Kd.R_below HO1116.out hb); have n3_ := Aside0.mk (Kd.S_below HO1121.out hb); have n4_ := Aside0.mk (blk_below (g := gb1122) (o := .cells #[.int .i64 t1118, .slice Ao44 t1119.length co44] 37 (0, 0)) (by (with_reducible repeat (first | refine blk_drewN ?_ _ | refine blk_drew ?_ | refine blk_alloc ?_ _)); exact BK1122.out) hb); have n5_ := Aside0.mk (Kd.R_below HO1125.out hb); have n6_ := Aside0.mk (Kd.S_below HO1131.out hb); have n7_ := Aside0.mk (Kd.S_lower (Kd.S_mono (Kd.S_bound ho0) (fun k_ hk_ => (⟨hk_.2.1, hk_.2.2.1⟩ : w60.heap.size ≤ k_ ∧ k_ < w62.heap.size))) HB.out.size); have n8_ := Aside0.mk (below_step HB.out hb); have n9_ := Aside0.mk (hb.size); clear BK1108; clear HO1113; clear HO1116; clear HO1121; clear BK1122; clear HO1125; clear HO1131; clear HB; have BK1108 := n0_; have HO1113 := n1_; have HO1116 := n2_; have HO1121 := n3_; have BK1122 := n4_; have HO1125 := n5_; have HO1131 := n6_; have HO1142 := n7_; have HB := n8_; have Zw62 := n9_; clear n0_ n1_ n2_ n3_ n4_ n5_ n6_ n7_ n8_ n9_; (try clear hb); (try clear hkp); (try clear hd_); (try clear ho0); obtain ⟨Ao63, co63, eo63⟩ := Kd.S_slice HO1142.out; subst eo63) | ((with_reducible refine gate_callee (f := 49) rfl ?_); refine goesL_ (some 81) rfl rfl Try.func49 (by kernel_rfl) rfl #[.agg #[.int .i64 t1139, .slice Ao63 t1140.length co63], .int .i64 a1] rfl (by (try simp only [List.map_toArray, List.map_cons, List.map_nil]); first | done | rfl) ?_; (with_reducible refine (impl_PrimeCounts.calls k t1139 _ _ t1140 a1 t1143 t1146 _ ?side1 ?side2 A27.out).mono ?_); (case side1 => exact (Kd.S_reads' HO1142.out).2.2); (case side2 => (have e_ := Kd.S_reads' HO1142.out; have e1_ := e_.1; have e2_ := e_.2.1; omega)); rintro e w64 ⟨v1144, rfl, ho0, hb⟩; refine ⟨_, rfl, ?_⟩; have n0_ := Aside0.mk (blk_below (g := gb1108) (o := .cells #[.int .i64 a0_0, .slice A0_1 l0_1.length c0_1] 33 (0, 0)) (by (with_reducible repeat (first | refine blk_drewN ?_ _ | refine blk_drew ?_ | refine blk_alloc ?_ _)); exact BK1108.out) hb); have n1_ := Aside0.mk (Kd.S_below HO1113.out hb); have n2_ := Aside0.mk (Kd.R_below HO1116.out hb); have n3_ := Aside0.mk (Kd.S_below HO1121.out hb); have n4_ := Aside0.mk (blk_below (g := gb1122) (o := .cells #[.int .i64 t1118, .slice Ao44 t1119.length co44] 37 (0, 0)) (by (with_reducible repeat (first | refine blk_drewN ?_ _ | refine blk_drew ?_ | refine blk_alloc ?_ _)); exact BK1122.out) hb); have n5_ := Aside0.mk (Kd.R_below HO1125.out hb); have n6_ := Aside0.mk (Kd.S_below HO1131.out hb); have n7_ := Aside0.mk (Kd.S_below HO1142.out hb); have n8_ := Aside0.mk (Kd.R_lower (Kd.R_mono (Kd.R_bound ho0) (fun k_ hk_ => (⟨hk_.2.1, hk_.2.2.1⟩ : w62.heap.size ≤ k_ ∧ k_ < w64.heap.size))) HB.out.size); have n9_ := Aside0.mk (below_step HB.out hb); have n10_ := Aside0.mk (hb.size); clear BK1108; clear HO1113; clear HO1116; clear HO1121; clear BK1122; clear HO1125; clear HO1131; clear HO1142; clear HB; have BK1108 := n0_; have HO1113 := n1_; have HO1116 := n2_; have HO1121 := n3_; have BK1122 := n4_; have HO1125 := n5_; have HO1131 := n6_; have HO1142 := n7_; have HO1145 := n8_; have HB := n9_; have Zw64 := n10_; clear n0_ n1_ n2_ n3_ n4_ n5_ n6_ n7_ n8_ n9_ n10_; (try clear hb); (try clear hkp); (try clear hd_); (try clear ho0); obtain ⟨Ao65, co65, eo65⟩ := Kd.R_slice HO1145.out; subst eo65) | ((with_reducible refine gate_callee (f := 19) rfl ?_); refine goesL_ (some 86) rfl rfl Try.func19 (by kernel_rfl) rfl #[.slice Ao65 t1143.length co65, .slice Ao41 t1114.length co41] rfl (by (try simp only [List.map_toArray, List.map_cons, List.map_nil]); first | done | rfl) ?_; (with_reducible refine (laws_eqInt64S.calls k _ _ t1143 _ _ t1114 true _ ?side1 ?side2 ?side3 ?side4 A28.out).mono ?_); (case side1 => exact (Kd.R_reads' HO1145.out).2.2); (case side2 => (have e_ := Kd.R_reads' HO1145.out; have e1_ := e_.1; have e2_ := e_.2.1; omega)); (case side3 => exact (Kd.R_reads' HO1116.out).2.2); (case side4 => (have e_ := Kd.R_reads' HO1116.out; have e1_ := e_.1; have e2_ := e_.2.1; omega)); rintro e w66 ⟨rfl, hd_⟩; refine ⟨_, rfl, ?_⟩; have hb := hd_.below; have n0_ := Aside0.mk (blk_below (g := gb1108) (o := .cells #[.int .i64 a0_0, .slice A0_1 l0_1.length c0_1] 33 (0, 0)) (by (with_reducible repeat (first | refine blk_drewN ?_ _ | refine blk_drew ?_ | refine blk_alloc ?_ _)); exact BK1108.out) hb); have n1_ := Aside0.mk (Kd.S_below HO1113.out hb); have n2_ := Aside0.mk (Kd.R_below HO1116.out hb); have n3_ := Aside0.mk (Kd.S_below HO1121.out hb); have n4_ := Aside0.mk (blk_below (g := gb1122) (o := .cells #[.int .i64 t1118, .slice Ao44 t1119.length co44] 37 (0, 0)) (by (with_reducible repeat (first | refine blk_drewN ?_ _ | refine blk_drew ?_ | refine blk_alloc ?_ _)); exact BK1122.out) hb); have n5_ := Aside0.mk (Kd.R_below HO1125.out hb); have n6_ := Aside0.mk (Kd.S_below HO1131.out hb); have n7_ := Aside0.mk (Kd.S_below HO1142.out hb); have n8_ := Aside0.mk (Kd.R_below HO1145.out hb); have n9_ := Aside0.mk (below_step HB.out hb); have n10_ := Aside0.mk (hb.size); clear BK1108; clear HO1113; clear HO1116; clear HO1121; clear BK1122; clear HO1125; clear HO1131; clear HO1142; clear HO1145; clear HB; have BK1108 := n0_; have HO1113 := n1_; have HO1116 := n2_; have HO1121 := n3_; have BK1122 := n4_; have HO1125 := n5_; have HO1131 := n6_; have HO1142 := n7_; have HO1145 := n8_; have HB := n9_; have Zw66 := n10_; clear n0_ n1_ n2_ n3_ n4_ n5_ n6_ n7_ n8_ n9_ n10_; (try clear hb); (try clear hkp); (try clear hd_)) | ((with_reducible refine gate_callee (f := 23) rfl ?_); refine goesL_ (some 95) rfl rfl Try.func23 (by kernel_rfl) rfl #[.slice Ao50 t1123.length co50, .int .i64 1] rfl (by (try simp only [List.map_toArray, List.map_cons, List.map_nil]); first | done | rfl) ?_; refine calls_of_args (args' := #[.slice Ao50 t1137.length co50, .int .i64 1]) (by first | rfl | (rw [show t1123.length = t1137.length from (Kd.R_reads' HO1125.out).1] <;> rfl) | (simp only [show t1123.length = t1137.length from (Kd.R_reads' HO1125.out).1])) ?_; (with_reducible refine (laws_heldInt64S.calls k _ _ t1137 1 t1148 _ ?side1 ?side2 A31.out).mono ?_); (case side1 => exact (Kd.R_reads' HO1125.out).2.2); (case side2 => (have e_ := Kd.R_reads' HO1125.out; have e1_ := e_.1; have e2_ := e_.2.1; omega)); rintro e w67 ⟨rfl, hd_⟩; refine ⟨_, rfl, ?_⟩; have hb := hd_.below; have n0_ := Aside0.mk (blk_below (g := gb1108) (o := .cells #[.int .i64 a0_0, .slice A0_1 l0_1.length c0_1] 33 (0, 0)) (by (with_reducible repeat (first | refine blk_drewN ?_ _ | refine blk_drew ?_ | refine blk_alloc ?_ _)); exact BK1108.out) hb); have n1_ := Aside0.mk (Kd.S_below HO1113.out hb); have n2_ := Aside0.mk (Kd.R_below HO1116.out hb); have n3_ := Aside0.mk (Kd.S_below HO1121.out hb); have n4_ := Aside0.mk (blk_below (g := gb1122) (o := .cells #[.int .i64 t1118, .slice Ao44 t1119.length co44] 37 (0, 0)) (by (with_reducible repeat (first | refine blk_drewN ?_ _ | refine blk_drew ?_ | refine blk_alloc ?_ _)); exact BK1122.out) hb); have n5_ := Aside0.mk (Kd.R_below HO1125.out hb); have n6_ := Aside0.mk (Kd.S_below HO1131.out hb); have n7_ := Aside0.mk (Kd.S_below HO1142.out hb); have n8_ := Aside0.mk (Kd.R_below HO1145.out hb); have n9_ := Aside0.mk (below_step HB.out hb); have n10_ := Aside0.mk (hb.size); clear BK1108; clear HO1113; clear HO1116; clear HO1121; clear BK1122; clear HO1125; clear HO1131; clear HO1142; clear HO1145; clear HB; have BK1108 := n0_; have HO1113 := n1_; have HO1116 := n2_; have HO1121 := n3_; have BK1122 := n4_; have HO1125 := n5_; have HO1131 := n6_; have HO1142 := n7_; have HO1145 := n8_; have HB := n9_; have Zw67 := n10_; clear n0_ n1_ n2_ n3_ n4_ n5_ n6_ n7_ n8_ n9_ n10_; (try clear hb); (try clear hkp); (try clear hd_)))
             go_ret
             exact ⟨by first | rfl | (simp [errW_none, errW_some] <;> rfl) | (simp [*, errW_none, errW_some] <;> rfl), by repeat (first | (with_reducible first | exact HB.out | apply below_alloc | apply pw_below_drewN | apply below_drew1 | refine below_set ?_ GE1108.out | refine below_set ?_ GE1122.out) | exact HB.out)⟩
            ·rw [if_neg c33] at H
             have c33b0 : (t1148 == t1136) = false := beq_eq_false_iff_ne.mpr c33
             have c33b1 : (t1148 != t1136) = true := bne_iff_ne.mpr c33
             exact absurd H (by simp)
          ·rw [if_neg c30] at H
           have c30b0 : (t1146 == t1117) = false := beq_eq_false_iff_ne.mpr c30
           have c30b1 : (t1146 != t1117) = true := bne_iff_ne.mpr c30
           exact absurd H (by simp)
         ·replace c29 := Bool.eq_false_iff.mpr c29
          subst c29
          have H1 : (some false) = some true := by rw [if_neg (show ¬ (false = true) by decide)] at H; exact H
          clear H
          have H := H1
          clear H1
          exact absurd H (by simp)
        ·rw [if_neg c25] at H
         have c25b0 : (t1138 == t1136) = false := beq_eq_false_iff_ne.mpr c25
         have c25b1 : (t1138 != t1136) = true := bne_iff_ne.mpr c25
         exact absurd H (by simp)
      ·replace c21 := Bool.eq_false_iff.mpr c21
       subst c21
       have H1 : (some false) = some true := by rw [if_neg (show ¬ (false = true) by decide)] at H; exact H
       clear H
       have H := H1
       clear H1
       exact absurd H (by simp)
    ·replace c17 := Bool.eq_false_iff.mpr c17
     subst c17
     have H1 : (some false) = some true := by rw [if_neg (show ¬ (false = true) by decide)] at H; exact H
     clear H
     have H := H1
     clear H1
     exact absurd H (by simp)
   ·rw [if_neg c14] at H
    have c14b0 : (t1126 == t1117) = false := beq_eq_false_iff_ne.mpr c14
    have c14b1 : (t1126 != t1117) = true := bne_iff_ne.mpr c14
    exact absurd H (by simp)
  ·replace c13 := Bool.eq_false_iff.mpr c13
   subst c13
   have H1 : (some false) = some true := by rw [if_neg (show ¬ (false = true) by decide)] at H; exact H
   clear H
   have H := H1
   clear H1
   exact absurd H (by simp)

/-- THE ONE PURE STATEMENT of laws_FnExactPrimeCounts: yours. -/
def laws_FnExactPrimeCounts.Pure : Prop := ∀ (a0_0 : Int) (l0_1 : List (List Int)) (a1 : Int), (Lit.int .i64 a0_0).wf = true → l0_1.length ≤ maxLen → (∀ r ∈ l0_1, r.length ≤ maxLen ∧ ∀ y ∈ r, (Lit.int .i64 y).wf = true) → (Lit.int .i64 a1).wf = true → ∃ k, laws_FnExactPrimeCounts.f k a0_0 l0_1 a1 = some true
theorem laws_FnExactPrimeCounts.walk (P : laws_FnExactPrimeCounts.Pure) (a0_0 : Int) (A0_1 : Option Addr) (c0_1 : Nat) (l0_1 : List (List Int)) (a1 : Int) (w : World) (hw0_0 : (Lit.int .i64 a0_0).wf = true) (hm0_1 : l0_1.length ≤ maxLen) (hw0_1 : (∀ r ∈ l0_1, r.length ≤ maxLen ∧ ∀ y ∈ r, (Lit.int .i64 y).wf = true)) (hr0_1 : Kd.C (Kd.slice 2 (Kd.int .i64)) w A0_1 l0_1.length l0_1) (hc0_1 : l0_1.length ≤ c0_1) (hw1 : (Lit.int .i64 a1).wf = true) :
  Calls Try.prog 13 #[.agg #[.int .i64 a0_0, .slice A0_1 l0_1.length c0_1], .int .i64 a1] w fun e w' => e = .returned (.bool true) ∧ Below w.heap.size w w' := by
 obtain ⟨k, h⟩ := P a0_0 l0_1 a1 hw0_0 hm0_1 hw0_1 hw1
 refine (laws_FnExactPrimeCounts.calls k a0_0 _ _ l0_1 a1 w hr0_1 hc0_1 h).mono ?_
 rintro e w' ⟨rfl, hd⟩
 exact ⟨rfl, hd⟩

end Go.Proofs.Yteeoehohocoecaa.G
