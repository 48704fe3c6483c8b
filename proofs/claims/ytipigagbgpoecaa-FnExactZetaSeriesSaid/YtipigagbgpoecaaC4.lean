/- The printed functions that this law reaches, and their contracts: part 4. -/
-- printed by this repo's wip/printer out of the kit's print with its own changes
import Derived.Test.YtipigagbgpoecaaC3
namespace Go.Proofs.Ytipigagbgpoecaa.G
open Go.RowKit Go.Proofs.YtipigagbgpoecaaW.PrintWords Go.Proofs.YtipigagbgpoecaaW.PrintLast Go.Proofs.YtipigagbgpoecaaW.PrintMore
attribute [local go_sem] max2_int min2_int max_two min_two max_three min_three max_four min_four   -- for this text's walks alone
set_option linter.unusedVariables false
set_option linter.unusedSimpArgs false

/-! ### impl_ZetaSeries: function 23 -/
def impl_ZetaSeries.f (k : Nat) (a0_0 : Int) (l0_1 : List (List Int)) (a1 : Int) : Option (List Int × Int) := (impl_graphCode_at_ZetaSeries_1.f k a0_0 l0_1 a1).bind fun t574 => (if t574 = 0 then ((impl_Graph_reciprocal.f k a0_0 l0_1).bind fun t575 => ((impl_series.f k t575 a1).bind fun bt578 => (if bt578.2 = true then (some (bt578.1, 0)) else (some (([] : List Int), 3))))) else (some (([] : List Int), t574)))
theorem impl_ZetaSeries.mono : ∀ a0 a1 a2 k, LeO (impl_ZetaSeries.f k a0 a1 a2) (impl_ZetaSeries.f (k + 1) a0 a1 a2) := by
 intro a0 a1 a2 k
 unfold impl_ZetaSeries.f
 repeat' first
   | (with_reducible exact impl_Graph_reciprocal.mono _ _ _)
   | (with_reducible exact impl_graphCode_at_ZetaSeries_1.mono _ _ _ _)
   | (with_reducible exact impl_series.mono _ _ _)
   | (with_reducible exact LeO.refl _)
   | (with_reducible exact LeO.none _)
   | (with_reducible refine LeO.ite ?_ ?_)
   | (with_reducible refine LeO.bind ?_ (fun _ => ?_))
   | exact impl_Graph_reciprocal.mono _ _ _
   | exact impl_graphCode_at_ZetaSeries_1.mono _ _ _ _
   | exact impl_series.mono _ _ _
   | exact LeO.none _
   | refine LeO.ite ?_ ?_
   | refine LeO.bind ?_ (fun _ => ?_)
def impl_ZetaSeries.T4 : Bool × List (List Nat × List Nat) := (true, [([], []), ([0], [0]), ([], []), ([1, 2, 1], [1, 2]), ([3], [3]), ([4], [4]), ([4], [4]), ([5, 3, 0, 1, 2, 3, 4, 5], [5]), ([6, 7, 0, 1, 2, 3, 4, 5, 6, 7], [6])])
def impl_ZetaSeries.B4 : List Nat := [0, 1, 0, 7, 15, 31, 31, 63, 255]
theorem impl_ZetaSeries.tab4 : rtab .any (opsOf Try.f23 4) = impl_ZetaSeries.T4 := by kernel_rfl
theorem impl_ZetaSeries.bits4 : waitsOk impl_ZetaSeries.T4.2 impl_ZetaSeries.B4 = true := by kernel_rfl
set_option maxHeartbeats 8000000 in
set_option maxRecDepth 100000 in
theorem impl_ZetaSeries.calls (k : Nat) (a0_0 : Int) (A0_1 : Option Addr) (c0_1 : Nat) (l0_1 : List (List Int)) (a1 : Int) (r1 : List Int) (r2 : Int) (w : World) (hr0_1 : Kd.C (Kd.slice 2 (Kd.int .i64)) w A0_1 l0_1.length l0_1) (hc0_1 : l0_1.length ≤ c0_1) (h : impl_ZetaSeries.f k a0_0 l0_1 a1 = some (r1, r2)) :
  Calls Try.prog 23 #[.agg #[.int .i64 a0_0, .slice A0_1 l0_1.length c0_1], .int .i64 a1] w fun e w' => ∃ v0_ : Value, e = .returned (.tuple #[v0_, .int .i64 r2]) ∧ Kd.R (Kd.int .i64) 2 w' w.heap.size (fun _ => True) v0_ r1 ∧ Below w.heap.size w w' := by
 have hu29 := Try.underlying29
 have HR0_1 := Aside0.mk hr0_1
 have HC0_1 := Aside0.mk hc0_1
 clear hr0_1 hc0_1
 have HB := Aside0.mk (Below.refl w.heap.size w)
 have H : ((impl_graphCode_at_ZetaSeries_1.f k a0_0 l0_1 a1).bind fun t574 => (if t574 = 0 then ((impl_Graph_reciprocal.f k a0_0 l0_1).bind fun t575 => ((impl_series.f k t575 a1).bind fun bt578 => (if bt578.2 = true then (some (bt578.1, 0)) else (some (([] : List Int), 3))))) else (some (([] : List Int), t574)))) = some (r1, r2) := h
 clear h
 replace H := Option.bind_eq_some_iff.mp H
 obtain ⟨t574, A30, H⟩ := H
 replace H : (if t574 = 0 then ((impl_Graph_reciprocal.f k a0_0 l0_1).bind fun t575 => ((impl_series.f k t575 a1).bind fun bt578 => (if bt578.2 = true then (some (bt578.1, 0)) else (some (([] : List Int), 3))))) else (some (([] : List Int), t574))) = some (r1, r2) := H
 have A3 := Aside0.mk A30
 clear A30
 by_cases c4 : t574 = 0
 ·rw [if_pos c4] at H
  have c4b0 : (t574 == 0) = true := beq_iff_eq.mpr c4
  have c4b1 : (t574 != 0) = false := bne_eq_false_iff_eq.mpr c4
  clear c4
  replace H := Option.bind_eq_some_iff.mp H
  obtain ⟨t575, A50, H⟩ := H
  replace H : ((impl_series.f k t575 a1).bind fun bt578 => (if bt578.2 = true then (some (bt578.1, 0)) else (some (([] : List Int), 3)))) = some (r1, r2) := H
  have A5 := Aside0.mk A50
  clear A50
  replace H := Option.bind_eq_some_iff.mp H
  obtain ⟨⟨t578, t579⟩, A60, H⟩ := H
  replace H : (if t579 = true then (some (t578, 0)) else (some (([] : List Int), 3))) = some (r1, r2) := H
  have A6 := Aside0.mk A60
  clear A60
  by_cases c7 : t579 = true
  ·subst c7
   have H1 : (some (t578, 0)) = some (r1, r2) := by rw [if_pos rfl] at H; exact H
   clear H
   have H := H1
   clear H1
   simp only [Option.some.injEq, Prod.mk.injEq] at H
   obtain ⟨rfl, rfl⟩ := H
   go_enter Try.func23, Try.ntmps23
   try go_wp2_with (first | ((with_reducible refine gate_dst (N := 2) rfl ?_); refine box_event ?hg (N := 2) ?hd (cs := #[.int .i64 a0_0, .slice A0_1 l0_1.length c0_1]) (t := 29) ?hr ?_; (case hd => rfl); (case hg => rfl); (case hr => first | (go_simp; done) | (go_simp; rfl)); intro gb572 hg w8 hbox hb; have n0_ := Aside0.mk (below_step (by repeat (first | (with_reducible first | exact HB.out | apply below_alloc | apply pw_below_drewN | apply below_drew1) | exact HB.out)) hb); have n1_ := Aside0.mk (hbox); have n2_ := Aside0.mk ((by rw [hg]; exact (below_size (by repeat (first | (with_reducible first | exact HB.out | apply below_alloc | apply pw_below_drewN | apply below_drew1) | exact HB.out))) : w.heap.size ≤ gb572)); have n3_ := Aside0.mk ((by rw [hg]; exact (below_size (by repeat (first | (with_reducible first | exact HB.out | apply below_alloc | apply pw_below_drewN | apply below_drew1) | exact HB.out))) : w.heap.size ≤ gb572)); clear HB; have HB := n0_; have BK572 := n1_; have GW572 := n2_; have GE572 := n3_; clear n0_ n1_ n2_ n3_; clear hb hbox hg) | ((with_reducible refine gate_dst (N := 3) rfl ?_); refine box_event ?hg (N := 3) ?hd (cs := #[.int .i64 a1]) (t := 2) ?hr ?_; (case hd => rfl); (case hg => rfl); (case hr => first | (go_simp; done) | (go_simp; rfl)); intro gb573 hg w9 hbox hb; have n0_ := Aside0.mk (blk_below (g := gb572) (o := .cells #[.int .i64 a0_0, .slice A0_1 l0_1.length c0_1] 29 (0, 0)) (by (with_reducible repeat (first | refine blk_drewN ?_ _ | refine blk_drew ?_ | refine blk_alloc ?_ _)); exact BK572.out) hb); have n1_ := Aside0.mk (below_step (by repeat (first | (with_reducible first | exact HB.out | apply below_alloc | apply pw_below_drewN | apply below_drew1 | refine below_set ?_ GE572.out) | exact HB.out)) hb); have n2_ := Aside0.mk (hbox); have n3_ := Aside0.mk ((by rw [hg]; exact (below_size (by repeat (first | (with_reducible first | exact HB.out | apply below_alloc | apply pw_below_drewN | apply below_drew1 | refine below_set ?_ GE572.out) | exact HB.out))) : w.heap.size ≤ gb573)); have n4_ := Aside0.mk ((by rw [hg]; exact (below_size (by repeat (first | (with_reducible first | exact HB.out | apply below_alloc | apply pw_below_drewN | apply below_drew1 | refine below_set ?_ GE572.out) | exact HB.out))) : w.heap.size ≤ gb573)); have n5_ := Aside0.mk ((by rw [hg]; exact Nat.ne_of_lt (blk_lt (g := gb572) (o := .cells #[.int .i64 a0_0, .slice A0_1 l0_1.length c0_1] 29 (0, 0)) (by (with_reducible repeat (first | refine blk_drewN ?_ _ | refine blk_drew ?_ | refine blk_alloc ?_ _)); exact BK572.out)) : gb572 ≠ gb573)); have n6_ := Aside0.mk ((by rw [hg]; exact Nat.ne_of_gt (blk_lt (g := gb572) (o := .cells #[.int .i64 a0_0, .slice A0_1 l0_1.length c0_1] 29 (0, 0)) (by (with_reducible repeat (first | refine blk_drewN ?_ _ | refine blk_drew ?_ | refine blk_alloc ?_ _)); exact BK572.out)) : gb573 ≠ gb572)); clear BK572; clear HB; have BK572 := n0_; have HB := n1_; have BK573 := n2_; have GW573 := n3_; have GE573 := n4_; have NB572_573 := n5_; have NB573_572 := n6_; clear n0_ n1_ n2_ n3_ n4_ n5_ n6_; clear hb hbox hg; have hnb10 := NB572_573.out; have hnc10 := NB573_572.out; have hcz11_0 : w9.cell? ⟨gb572, 0, none⟩ = some (.int .i64 a0_0) := (blk_cell BK572.out 0).trans rfl; have hcz11_1 : w9.cell? ⟨gb572, 1, none⟩ = some (.slice A0_1 l0_1.length c0_1) := (blk_cell BK572.out 1).trans rfl; have hfz11_0 := blk_frozen BK572.out 0; have hfz11_1 := blk_frozen BK572.out 1) | ((with_reducible refine gate_callee (f := 50) rfl ?_); refine goesL_ (some 11) rfl rfl Try.func50 (by kernel_rfl) rfl #[.agg #[.int .i64 a0_0, .slice A0_1 l0_1.length c0_1], .func (.func 57) #[] #[.pointer (some ⟨gb573, 0, none⟩)]] rfl (by (try simp only [List.map_toArray, List.map_cons, List.map_nil]); first | done | rfl | (simp only [List.length_drop, List.length_take]; rfl)) ?_; (with_reducible refine (impl_graphCode_at_ZetaSeries_1.calls k a0_0 _ _ l0_1 gb573 a1 t574 _ ?side1 ?side2 ?side3 A3.out).mono ?_); (case side1 => repeat (first | exact (Kd.C_below HR0_1.out HB.out) | (with_reducible refine Kd.C_alloc ?_ _) | (with_reducible refine Kd.C_drewN ?_ _) | (with_reducible refine Kd.C_drew ?_))); (case side2 => exact HC0_1.out); (case side3 => exact (by (with_reducible repeat (first | refine blk_drewN ?_ _ | refine blk_drew ?_ | refine blk_alloc ?_ _)); exact BK573.out)); rintro e w12 ⟨rfl, hb⟩; refine ⟨_, rfl, ?_⟩; have n0_ := Aside0.mk (blk_below (g := gb572) (o := .cells #[.int .i64 a0_0, .slice A0_1 l0_1.length c0_1] 29 (0, 0)) (by (with_reducible repeat (first | refine blk_drewN ?_ _ | refine blk_drew ?_ | refine blk_alloc ?_ _)); exact BK572.out) hb); have n1_ := Aside0.mk (blk_below (g := gb573) (o := .cells #[.int .i64 a1] 2 (0, 0)) (by (with_reducible repeat (first | refine blk_drewN ?_ _ | refine blk_drew ?_ | refine blk_alloc ?_ _)); exact BK573.out) hb); have n2_ := Aside0.mk (below_step (by repeat (first | (with_reducible first | exact HB.out | apply below_alloc | apply pw_below_drewN | apply below_drew1 | refine below_set ?_ GE572.out | refine below_set ?_ GE573.out) | exact HB.out)) hb); clear BK572; clear BK573; clear HB; have BK572 := n0_; have BK573 := n1_; have HB := n2_; clear n0_ n1_ n2_; (try clear hb); (try clear hb2); (try clear hk); (try clear hi)))
   have n0_ := Aside0.mk (blk_drew BK572.out)
   have n1_ := Aside0.mk (blk_drew BK573.out)
   have n2_ := Aside0.mk (below_drew1 HB.out)
   clear BK572
   clear BK573
   clear HB
   have BK572 := n0_
   have BK573 := n1_
   have HB := n2_
   clear n0_ n1_ n2_
   refine start_ (n := 9) (S := fun w' => w'.cell? ⟨gb572, 0, none⟩ = some (.int .i64 a0_0) ∧ w'.cell? ⟨gb572, 1, none⟩ = some (.slice A0_1 l0_1.length c0_1) ∧ w'.cell? ⟨gb573, 0, none⟩ = some (.int .i64 a1)) (ds := []) #[false, false, false, false, false, false, false, false, false] (by kernel_rfl) rfl rfl ⟨(blk_cell BK572.out 0).trans rfl, (blk_cell BK572.out 1).trans rfl, (blk_cell BK573.out 0).trans rfl⟩ (fun hHeld => ?_); refine with_tabW impl_ZetaSeries.tab4 impl_ZetaSeries.bits4 (fun HT_ HW_ => ?_)
   generalize w12.drew = w13 at BK572 BK573 HB hHeld ⊢
   refine take_ (i := 0) (N := some 16) (v := ?_) (a' := ?_) #[true, false, false, false, false, false, false, false, false] rfl rfl (take_ofW HT_.out HW_.out (by kernel_rfl)) (fun _ _ _ h => h) (Or.inl ⟨by rfl, ?_⟩) hHeld ?_ ?_
   rotate_left
   ·rintro w' ⟨s0, s1, s2⟩
    go_simp
    with_reducible rfl
   rotate_left
   ·simp only [Act.put, List.setIfInBounds_toArray, List.set_cons_zero, List.set_cons_succ, i64_w, i32_w]
    rfl
   refine take_ (i := 2) (N := some 18) (v := ?_) (a' := ?_) #[true, false, true, false, false, false, false, false, false] rfl rfl (take_ofW HT_.out HW_.out (by kernel_rfl)) (fun _ _ _ h => h) (Or.inl ⟨by rfl, ?_⟩) hHeld ?_ ?_
   rotate_left
   ·rintro w' ⟨s0, s1, s2⟩
    go_simp
    with_reducible rfl
   rotate_left
   ·simp only [Act.put, List.setIfInBounds_toArray, List.set_cons_zero, List.set_cons_succ, i64_w, i32_w]
    rfl
   refine one_ (i := 1) (N := some 17) #[true, true, true, false, false, false, false, false, false] rfl rfl (one_of HT_.out (by kernel_rfl)) (by decide) (fun K hK => ?_)
   refine goes_ Try.func60 (by kernel_rfl) rfl #[.agg #[.int .i64 a0_0, .slice A0_1 l0_1.length c0_1]] (by rfl) rfl rfl (by (try simp only [List.map_toArray, List.map_cons, List.map_nil]); first | done | rfl | (simp only [List.length_drop, List.length_take]; rfl)) ?_
   with_reducible refine (impl_Graph_reciprocal.calls k a0_0 _ _ l0_1 t575 _ ?side1 ?side2 A5.out).mono ?_
   (case side1 => repeat (first | exact (Kd.C_below HR0_1.out HB.out) | (with_reducible refine Kd.C_alloc ?_ _) | (with_reducible refine Kd.C_drewN ?_ _) | (with_reducible refine Kd.C_drew ?_)))
   (case side2 => exact HC0_1.out)
   rintro e w14 ⟨v576, rfl, ho0, hb⟩
   refine ⟨_, rfl, ?_⟩
   have n0_ := Aside0.mk (Kd.R_lower (Kd.R_newB ho0 (g := gb573) (o := .cells #[.int .i64 a1] 2 (0, 0)) (by (with_reducible repeat (first | refine blk_drewN ?_ _ | refine blk_drew ?_ | refine blk_alloc ?_ _)); exact BK573.out)) (below_size (by repeat (first | (with_reducible first | exact HB.out | apply below_alloc | apply pw_below_drewN | apply below_drew1 | refine below_set ?_ GE572.out | refine below_set ?_ GE573.out) | exact HB.out))))
   have n1_ := Aside0.mk (blk_below (g := gb572) (o := .cells #[.int .i64 a0_0, .slice A0_1 l0_1.length c0_1] 29 (0, 0)) (by (with_reducible repeat (first | refine blk_drewN ?_ _ | refine blk_drew ?_ | refine blk_alloc ?_ _)); exact BK572.out) hb)
   have n2_ := Aside0.mk (blk_below (g := gb573) (o := .cells #[.int .i64 a1] 2 (0, 0)) (by (with_reducible repeat (first | refine blk_drewN ?_ _ | refine blk_drew ?_ | refine blk_alloc ?_ _)); exact BK573.out) hb)
   have n3_ := Aside0.mk (below_step (by repeat (first | (with_reducible first | exact HB.out | apply below_alloc | apply pw_below_drewN | apply below_drew1 | refine below_set ?_ GE572.out | refine below_set ?_ GE573.out) | exact HB.out)) hb)
   clear BK572
   clear BK573
   clear HB
   have HO577 := n0_
   have BK572 := n1_
   have BK573 := n2_
   have HB := n3_
   clear n0_ n1_ n2_ n3_
   (try clear hb)
   (try clear hb2)
   (try clear hk)
   (try clear hi)
   (try clear ho0)
   obtain ⟨Ao15, co15, eo15⟩ := Kd.R_slice HO577.out
   (first | subst eo15 | (injection eo15 with f1_ f2_ f3_; have f4_ := f1_.symm; have f5_ := f3_.symm; clear f1_ f2_ f3_; subst f4_; subst f5_))
   refine hK.out _ _ ⟨(blk_cell BK572.out 0).trans rfl, (blk_cell BK572.out 1).trans rfl, (blk_cell BK573.out 0).trans rfl⟩ (fun hHeld => ?_)
   clear hK K
   refine norm_ (a' := ?_) ?_ ?_
   rotate_left
   ·show Act.put _ (some 17) _ = _
    simp only [Act.put, List.setIfInBounds_toArray, List.set_cons_zero, List.set_cons_succ, i64_w, i32_w]
    rfl
   refine one_ (i := 3) (N := some 19) #[true, true, true, true, false, false, false, false, false] rfl rfl (one_of HT_.out (by kernel_rfl)) (by decide) (fun K hK => ?_)
   refine goes_ Try.func59 (by kernel_rfl) rfl #[.slice Ao15 t575.length co15, .int .i64 a1] (by rfl) rfl rfl (by (try simp only [List.map_toArray, List.map_cons, List.map_nil]); first | done | rfl | (simp only [List.length_drop, List.length_take]; rfl)) ?_
   with_reducible refine (impl_series.calls k _ _ t575 a1 t578 true _ ?side1 ?side2 A6.out).mono ?_
   (case side1 => repeat (first | exact (Kd.R_reads' HO577.out).2.2 | (with_reducible refine Kd.C_alloc ?_ _) | (with_reducible refine Kd.C_drewN ?_ _) | (with_reducible refine Kd.C_drew ?_)))
   (case side2 => exact (Kd.R_reads' HO577.out).2.1)
   rintro e w16 ⟨v580, rfl, ho0, hb⟩
   refine ⟨_, rfl, ?_⟩
   have n0_ := Aside0.mk (Kd.R_elder' (by (with_reducible repeat (first | apply Kd.R_alloc | apply Kd.R_drewN | apply Kd.R_drew)); exact HO577.out) (Kd.R_base ho0) hb)
   have n1_ := Aside0.mk (Kd.R_lower (Kd.R_newB (Kd.R_new' ho0 (Kd.R_lt (by (with_reducible repeat (first | apply Kd.R_alloc | apply Kd.R_drewN | apply Kd.R_drew)); exact HO577.out))) (g := gb573) (o := .cells #[.int .i64 a1] 2 (0, 0)) (by (with_reducible repeat (first | refine blk_drewN ?_ _ | refine blk_drew ?_ | refine blk_alloc ?_ _)); exact BK573.out)) (below_size (by repeat (first | (with_reducible first | exact HB.out | apply below_alloc | apply pw_below_drewN | apply below_drew1 | refine below_set ?_ GE572.out | refine below_set ?_ GE573.out) | exact HB.out))))
   have n2_ := Aside0.mk (blk_below (g := gb572) (o := .cells #[.int .i64 a0_0, .slice A0_1 l0_1.length c0_1] 29 (0, 0)) (by (with_reducible repeat (first | refine blk_drewN ?_ _ | refine blk_drew ?_ | refine blk_alloc ?_ _)); exact BK572.out) hb)
   have n3_ := Aside0.mk (blk_below (g := gb573) (o := .cells #[.int .i64 a1] 2 (0, 0)) (by (with_reducible repeat (first | refine blk_drewN ?_ _ | refine blk_drew ?_ | refine blk_alloc ?_ _)); exact BK573.out) hb)
   have n4_ := Aside0.mk (below_step (by repeat (first | (with_reducible first | exact HB.out | apply below_alloc | apply pw_below_drewN | apply below_drew1 | refine below_set ?_ GE572.out | refine below_set ?_ GE573.out) | exact HB.out)) hb)
   clear HO577
   clear BK572
   clear BK573
   clear HB
   have HO577 := n0_
   have HO581 := n1_
   have BK572 := n2_
   have BK573 := n3_
   have HB := n4_
   clear n0_ n1_ n2_ n3_ n4_
   (try clear hb)
   (try clear hb2)
   (try clear hk)
   (try clear hi)
   (try clear ho0)
   refine hK.out _ _ ⟨(blk_cell BK572.out 0).trans rfl, (blk_cell BK572.out 1).trans rfl, (blk_cell BK573.out 0).trans rfl⟩ (fun hHeld => ?_)
   clear hK K
   refine norm_ (a' := ?_) ?_ ?_
   rotate_left
   ·show Act.put _ (some 19) _ = _
    simp only [Act.put, List.setIfInBounds_toArray, List.set_cons_zero, List.set_cons_succ, i64_w, i32_w]
    rfl
   refine pure_ (i := 4) (N := some 15) (v := ?_) (a' := ?_) #[true, true, true, true, true, false, false, false, false] rfl rfl (any_of HT_.out (by kernel_rfl)) (fun _ _ _ h => h) (Or.inl ⟨by rfl, ?_⟩) ?_ ?_
   rotate_left
   ·intro w'
    go_simp
    with_reducible rfl
   rotate_left
   ·simp only [Act.put, List.setIfInBounds_toArray, List.set_cons_zero, List.set_cons_succ, i64_w, i32_w]
    rfl
   refine pure_ (i := 5) (N := some 20) (v := ?_) (a' := ?_) #[true, true, true, true, true, true, false, false, false] rfl rfl (any_of HT_.out (by kernel_rfl)) (fun _ _ _ h => h) (Or.inl ⟨by rfl, ?_⟩) ?_ ?_
   rotate_left
   ·intro w'
    go_simp
    with_reducible rfl
   rotate_left
   ·simp only [Act.put, List.setIfInBounds_toArray, List.set_cons_zero, List.set_cons_succ, i64_w, i32_w]
    rfl
   refine pure_ (i := 6) (N := some 21) (v := ?_) (a' := ?_) #[true, true, true, true, true, true, true, false, false] rfl rfl (any_of HT_.out (by kernel_rfl)) (fun _ _ _ h => h) (Or.inl ⟨by rfl, ?_⟩) ?_ ?_
   rotate_left
   ·intro w'
    go_simp
    with_reducible rfl
   rotate_left
   ·simp only [Act.put, List.setIfInBounds_toArray, List.set_cons_zero, List.set_cons_succ, i64_w, i32_w]
    rfl
   refine pure_ (i := 7) (N := some 7) (v := ?_) (a' := ?_) #[true, true, true, true, true, true, true, true, false] rfl rfl (any_of HT_.out (by kernel_rfl)) (fun _ _ _ h => h) (Or.inl ⟨by rfl, ?_⟩) ?_ ?_
   rotate_left
   ·intro w'
    go_simp
    with_reducible rfl
   rotate_left
   ·simp only [Act.put, List.setIfInBounds_toArray, List.set_cons_zero, List.set_cons_succ, i64_w, i32_w]
    rfl
   refine pure_ (i := 8) (N := some 8) (v := ?_) (a' := ?_) #[true, true, true, true, true, true, true, true, true] rfl rfl (any_of HT_.out (by kernel_rfl)) (fun _ _ _ h => h) (Or.inl ⟨by rfl, ?_⟩) ?_ ?_
   rotate_left
   ·intro w'
    go_simp
    with_reducible rfl
   rotate_left
   ·simp only [Act.put, List.setIfInBounds_toArray, List.set_cons_zero, List.set_cons_succ, i64_w, i32_w]
    rfl
   refine done_ (done_of HT_.out (by kernel_rfl)) ?_
   try go_wp2
   go_ret2
   exact ⟨_, by first | rfl | (simp [errW_none, errW_some] <;> rfl) | (simp [*, errW_none, errW_some] <;> rfl), by (with_reducible repeat (first | apply Kd.R_alloc | apply Kd.R_drewN | apply Kd.R_drew)); exact Kd.R_mono HO581.out (fun _ hk => trivial), by repeat (first | (with_reducible first | exact HB.out | apply below_alloc | apply pw_below_drewN | apply below_drew1 | refine below_set ?_ GE572.out | refine below_set ?_ GE573.out) | exact HB.out)⟩
  ·replace c7 := Bool.eq_false_iff.mpr c7
   subst c7
   have H1 : (some (([] : List Int), 3)) = some (r1, r2) := by rw [if_neg (show ¬ (false = true) by decide)] at H; exact H
   clear H
   have H := H1
   clear H1
   simp only [Option.some.injEq, Prod.mk.injEq] at H
   obtain ⟨rfl, rfl⟩ := H
   go_enter Try.func23, Try.ntmps23
   try go_wp2_with (first | ((with_reducible refine gate_dst (N := 2) rfl ?_); refine box_event ?hg (N := 2) ?hd (cs := #[.int .i64 a0_0, .slice A0_1 l0_1.length c0_1]) (t := 29) ?hr ?_; (case hd => rfl); (case hg => rfl); (case hr => first | (go_simp; done) | (go_simp; rfl)); intro gb572 hg w17 hbox hb; have n0_ := Aside0.mk (below_step (by repeat (first | (with_reducible first | exact HB.out | apply below_alloc | apply pw_below_drewN | apply below_drew1) | exact HB.out)) hb); have n1_ := Aside0.mk (hbox); have n2_ := Aside0.mk ((by rw [hg]; exact (below_size (by repeat (first | (with_reducible first | exact HB.out | apply below_alloc | apply pw_below_drewN | apply below_drew1) | exact HB.out))) : w.heap.size ≤ gb572)); have n3_ := Aside0.mk ((by rw [hg]; exact (below_size (by repeat (first | (with_reducible first | exact HB.out | apply below_alloc | apply pw_below_drewN | apply below_drew1) | exact HB.out))) : w.heap.size ≤ gb572)); clear HB; have HB := n0_; have BK572 := n1_; have GW572 := n2_; have GE572 := n3_; clear n0_ n1_ n2_ n3_; clear hb hbox hg) | ((with_reducible refine gate_dst (N := 3) rfl ?_); refine box_event ?hg (N := 3) ?hd (cs := #[.int .i64 a1]) (t := 2) ?hr ?_; (case hd => rfl); (case hg => rfl); (case hr => first | (go_simp; done) | (go_simp; rfl)); intro gb573 hg w18 hbox hb; have n0_ := Aside0.mk (blk_below (g := gb572) (o := .cells #[.int .i64 a0_0, .slice A0_1 l0_1.length c0_1] 29 (0, 0)) (by (with_reducible repeat (first | refine blk_drewN ?_ _ | refine blk_drew ?_ | refine blk_alloc ?_ _)); exact BK572.out) hb); have n1_ := Aside0.mk (below_step (by repeat (first | (with_reducible first | exact HB.out | apply below_alloc | apply pw_below_drewN | apply below_drew1 | refine below_set ?_ GE572.out) | exact HB.out)) hb); have n2_ := Aside0.mk (hbox); have n3_ := Aside0.mk ((by rw [hg]; exact (below_size (by repeat (first | (with_reducible first | exact HB.out | apply below_alloc | apply pw_below_drewN | apply below_drew1 | refine below_set ?_ GE572.out) | exact HB.out))) : w.heap.size ≤ gb573)); have n4_ := Aside0.mk ((by rw [hg]; exact (below_size (by repeat (first | (with_reducible first | exact HB.out | apply below_alloc | apply pw_below_drewN | apply below_drew1 | refine below_set ?_ GE572.out) | exact HB.out))) : w.heap.size ≤ gb573)); have n5_ := Aside0.mk ((by rw [hg]; exact Nat.ne_of_lt (blk_lt (g := gb572) (o := .cells #[.int .i64 a0_0, .slice A0_1 l0_1.length c0_1] 29 (0, 0)) (by (with_reducible repeat (first | refine blk_drewN ?_ _ | refine blk_drew ?_ | refine blk_alloc ?_ _)); exact BK572.out)) : gb572 ≠ gb573)); have n6_ := Aside0.mk ((by rw [hg]; exact Nat.ne_of_gt (blk_lt (g := gb572) (o := .cells #[.int .i64 a0_0, .slice A0_1 l0_1.length c0_1] 29 (0, 0)) (by (with_reducible repeat (first | refine blk_drewN ?_ _ | refine blk_drew ?_ | refine blk_alloc ?_ _)); exact BK572.out)) : gb573 ≠ gb572)); clear BK572; clear HB; have BK572 := n0_; have HB := n1_; have BK573 := n2_; have GW573 := n3_; have GE573 := n4_; have NB572_573 := n5_; have NB573_572 := n6_; clear n0_ n1_ n2_ n3_ n4_ n5_ n6_; clear hb hbox hg; have hnb19 := NB572_573.out; have hnc19 := NB573_572.out; have hcz20_0 : w18.cell? ⟨gb572, 0, none⟩ = some (.int .i64 a0_0) := (blk_cell BK572.out 0).trans rfl; have hcz20_1 : w18.cell? ⟨gb572, 1, none⟩ = some (.slice A0_1 l0_1.length c0_1) := (blk_cell BK572.out 1).trans rfl; have hfz20_0 := blk_frozen BK572.out 0; have hfz20_1 := blk_frozen BK572.out 1) | ((with_reducible refine gate_callee (f := 50) rfl ?_); refine goesL_ (some 11) rfl rfl Try.func50 (by kernel_rfl) rfl #[.agg #[.int .i64 a0_0, .slice A0_1 l0_1.length c0_1], .func (.func 57) #[] #[.pointer (some ⟨gb573, 0, none⟩)]] rfl (by (try simp only [List.map_toArray, List.map_cons, List.map_nil]); first | done | rfl | (simp only [List.length_drop, List.length_take]; rfl)) ?_; (with_reducible refine (impl_graphCode_at_ZetaSeries_1.calls k a0_0 _ _ l0_1 gb573 a1 t574 _ ?side1 ?side2 ?side3 A3.out).mono ?_); (case side1 => repeat (first | exact (Kd.C_below HR0_1.out HB.out) | (with_reducible refine Kd.C_alloc ?_ _) | (with_reducible refine Kd.C_drewN ?_ _) | (with_reducible refine Kd.C_drew ?_))); (case side2 => exact HC0_1.out); (case side3 => exact (by (with_reducible repeat (first | refine blk_drewN ?_ _ | refine blk_drew ?_ | refine blk_alloc ?_ _)); exact BK573.out)); rintro e w21 ⟨rfl, hb⟩; refine ⟨_, rfl, ?_⟩; have n0_ := Aside0.mk (blk_below (g := gb572) (o := .cells #[.int .i64 a0_0, .slice A0_1 l0_1.length c0_1] 29 (0, 0)) (by (with_reducible repeat (first | refine blk_drewN ?_ _ | refine blk_drew ?_ | refine blk_alloc ?_ _)); exact BK572.out) hb); have n1_ := Aside0.mk (blk_below (g := gb573) (o := .cells #[.int .i64 a1] 2 (0, 0)) (by (with_reducible repeat (first | refine blk_drewN ?_ _ | refine blk_drew ?_ | refine blk_alloc ?_ _)); exact BK573.out) hb); have n2_ := Aside0.mk (below_step (by repeat (first | (with_reducible first | exact HB.out | apply below_alloc | apply pw_below_drewN | apply below_drew1 | refine below_set ?_ GE572.out | refine below_set ?_ GE573.out) | exact HB.out)) hb); clear BK572; clear BK573; clear HB; have BK572 := n0_; have BK573 := n1_; have HB := n2_; clear n0_ n1_ n2_; (try clear hb); (try clear hb2); (try clear hk); (try clear hi)))
   have n0_ := Aside0.mk (blk_drew BK572.out)
   have n1_ := Aside0.mk (blk_drew BK573.out)
   have n2_ := Aside0.mk (below_drew1 HB.out)
   clear BK572
   clear BK573
   clear HB
   have BK572 := n0_
   have BK573 := n1_
   have HB := n2_
   clear n0_ n1_ n2_
   refine start_ (n := 9) (S := fun w' => w'.cell? ⟨gb572, 0, none⟩ = some (.int .i64 a0_0) ∧ w'.cell? ⟨gb572, 1, none⟩ = some (.slice A0_1 l0_1.length c0_1) ∧ w'.cell? ⟨gb573, 0, none⟩ = some (.int .i64 a1)) (ds := []) #[false, false, false, false, false, false, false, false, false] (by kernel_rfl) rfl rfl ⟨(blk_cell BK572.out 0).trans rfl, (blk_cell BK572.out 1).trans rfl, (blk_cell BK573.out 0).trans rfl⟩ (fun hHeld => ?_); refine with_tabW impl_ZetaSeries.tab4 impl_ZetaSeries.bits4 (fun HT_ HW_ => ?_)
   generalize w21.drew = w22 at BK572 BK573 HB hHeld ⊢
   refine take_ (i := 0) (N := some 16) (v := ?_) (a' := ?_) #[true, false, false, false, false, false, false, false, false] rfl rfl (take_ofW HT_.out HW_.out (by kernel_rfl)) (fun _ _ _ h => h) (Or.inl ⟨by rfl, ?_⟩) hHeld ?_ ?_
   rotate_left
   ·rintro w' ⟨s0, s1, s2⟩
    go_simp
    with_reducible rfl
   rotate_left
   ·simp only [Act.put, List.setIfInBounds_toArray, List.set_cons_zero, List.set_cons_succ, i64_w, i32_w]
    rfl
   refine take_ (i := 2) (N := some 18) (v := ?_) (a' := ?_) #[true, false, true, false, false, false, false, false, false] rfl rfl (take_ofW HT_.out HW_.out (by kernel_rfl)) (fun _ _ _ h => h) (Or.inl ⟨by rfl, ?_⟩) hHeld ?_ ?_
   rotate_left
   ·rintro w' ⟨s0, s1, s2⟩
    go_simp
    with_reducible rfl
   rotate_left
   ·simp only [Act.put, List.setIfInBounds_toArray, List.set_cons_zero, List.set_cons_succ, i64_w, i32_w]
    rfl
   refine one_ (i := 1) (N := some 17) #[true, true, true, false, false, false, false, false, false] rfl rfl (one_of HT_.out (by kernel_rfl)) (by decide) (fun K hK => ?_)
   refine goes_ Try.func60 (by kernel_rfl) rfl #[.agg #[.int .i64 a0_0, .slice A0_1 l0_1.length c0_1]] (by rfl) rfl rfl (by (try simp only [List.map_toArray, List.map_cons, List.map_nil]); first | done | rfl | (simp only [List.length_drop, List.length_take]; rfl)) ?_
   with_reducible refine (impl_Graph_reciprocal.calls k a0_0 _ _ l0_1 t575 _ ?side1 ?side2 A5.out).mono ?_
   (case side1 => repeat (first | exact (Kd.C_below HR0_1.out HB.out) | (with_reducible refine Kd.C_alloc ?_ _) | (with_reducible refine Kd.C_drewN ?_ _) | (with_reducible refine Kd.C_drew ?_)))
   (case side2 => exact HC0_1.out)
   rintro e w23 ⟨v576, rfl, ho0, hb⟩
   refine ⟨_, rfl, ?_⟩
   have n0_ := Aside0.mk (Kd.R_lower (Kd.R_newB ho0 (g := gb573) (o := .cells #[.int .i64 a1] 2 (0, 0)) (by (with_reducible repeat (first | refine blk_drewN ?_ _ | refine blk_drew ?_ | refine blk_alloc ?_ _)); exact BK573.out)) (below_size (by repeat (first | (with_reducible first | exact HB.out | apply below_alloc | apply pw_below_drewN | apply below_drew1 | refine below_set ?_ GE572.out | refine below_set ?_ GE573.out) | exact HB.out))))
   have n1_ := Aside0.mk (blk_below (g := gb572) (o := .cells #[.int .i64 a0_0, .slice A0_1 l0_1.length c0_1] 29 (0, 0)) (by (with_reducible repeat (first | refine blk_drewN ?_ _ | refine blk_drew ?_ | refine blk_alloc ?_ _)); exact BK572.out) hb)
   have n2_ := Aside0.mk (blk_below (g := gb573) (o := .cells #[.int .i64 a1] 2 (0, 0)) (by (with_reducible repeat (first | refine blk_drewN ?_ _ | refine blk_drew ?_ | refine blk_alloc ?_ _)); exact BK573.out) hb)
   have n3_ := Aside0.mk (below_step (by repeat (first | (with_reducible first | exact HB.out | apply below_alloc | apply pw_below_drewN | apply below_drew1 | refine below_set ?_ GE572.out | refine below_set ?_ GE573.out) | exact HB.out)) hb)
   clear BK572
   clear BK573
   clear HB
   have HO577 := n0_
   have BK572 := n1_
   have BK573 := n2_
   have HB := n3_
   clear n0_ n1_ n2_ n3_
   (try clear hb)
   (try clear hb2)
   (try clear hk)
   (try clear hi)
   (try clear ho0)
   obtain ⟨Ao24, co24, eo24⟩ := Kd.R_slice HO577.out
   (first | subst eo24 | (injection eo24 with f1_ f2_ f3_; have f4_ := f1_.symm; have f5_ := f3_.symm; clear f1_ f2_ f3_; subst f4_; subst f5_))
   refine hK.out _ _ ⟨(blk_cell BK572.out 0).trans rfl, (blk_cell BK572.out 1).trans rfl, (blk_cell BK573.out 0).trans rfl⟩ (fun hHeld => ?_)
   clear hK K
   refine norm_ (a' := ?_) ?_ ?_
   rotate_left
   ·show Act.put _ (some 17) _ = _
    simp only [Act.put, List.setIfInBounds_toArray, List.set_cons_zero, List.set_cons_succ, i64_w, i32_w]
    rfl
   refine one_ (i := 3) (N := some 19) #[true, true, true, true, false, false, false, false, false] rfl rfl (one_of HT_.out (by kernel_rfl)) (by decide) (fun K hK => ?_)
   refine goes_ Try.func59 (by kernel_rfl) rfl #[.slice Ao24 t575.length co24, .int .i64 a1] (by rfl) rfl rfl (by (try simp only [List.map_toArray, List.map_cons, List.map_nil]); first | done | rfl | (simp only [List.length_drop, List.length_take]; rfl)) ?_
   with_reducible refine (impl_series.calls k _ _ t575 a1 t578 false _ ?side1 ?side2 A6.out).mono ?_
   (case side1 => repeat (first | exact (Kd.R_reads' HO577.out).2.2 | (with_reducible refine Kd.C_alloc ?_ _) | (with_reducible refine Kd.C_drewN ?_ _) | (with_reducible refine Kd.C_drew ?_)))
   (case side2 => exact (Kd.R_reads' HO577.out).2.1)
   rintro e w25 ⟨v580, rfl, ho0, hb⟩
   refine ⟨_, rfl, ?_⟩
   have n0_ := Aside0.mk (Kd.R_elder' (by (with_reducible repeat (first | apply Kd.R_alloc | apply Kd.R_drewN | apply Kd.R_drew)); exact HO577.out) (Kd.R_base ho0) hb)
   have n1_ := Aside0.mk (Kd.R_lower (Kd.R_newB (Kd.R_new' ho0 (Kd.R_lt (by (with_reducible repeat (first | apply Kd.R_alloc | apply Kd.R_drewN | apply Kd.R_drew)); exact HO577.out))) (g := gb573) (o := .cells #[.int .i64 a1] 2 (0, 0)) (by (with_reducible repeat (first | refine blk_drewN ?_ _ | refine blk_drew ?_ | refine blk_alloc ?_ _)); exact BK573.out)) (below_size (by repeat (first | (with_reducible first | exact HB.out | apply below_alloc | apply pw_below_drewN | apply below_drew1 | refine below_set ?_ GE572.out | refine below_set ?_ GE573.out) | exact HB.out))))
   have n2_ := Aside0.mk (blk_below (g := gb572) (o := .cells #[.int .i64 a0_0, .slice A0_1 l0_1.length c0_1] 29 (0, 0)) (by (with_reducible repeat (first | refine blk_drewN ?_ _ | refine blk_drew ?_ | refine blk_alloc ?_ _)); exact BK572.out) hb)
   have n3_ := Aside0.mk (blk_below (g := gb573) (o := .cells #[.int .i64 a1] 2 (0, 0)) (by (with_reducible repeat (first | refine blk_drewN ?_ _ | refine blk_drew ?_ | refine blk_alloc ?_ _)); exact BK573.out) hb)
   have n4_ := Aside0.mk (below_step (by repeat (first | (with_reducible first | exact HB.out | apply below_alloc | apply pw_below_drewN | apply below_drew1 | refine below_set ?_ GE572.out | refine below_set ?_ GE573.out) | exact HB.out)) hb)
   clear HO577
   clear BK572
   clear BK573
   clear HB
   have HO577 := n0_
   have HO581 := n1_
   have BK572 := n2_
   have BK573 := n3_
   have HB := n4_
   clear n0_ n1_ n2_ n3_ n4_
   (try clear hb)
   (try clear hb2)
   (try clear hk)
   (try clear hi)
   (try clear ho0)
   refine hK.out _ _ ⟨(blk_cell BK572.out 0).trans rfl, (blk_cell BK572.out 1).trans rfl, (blk_cell BK573.out 0).trans rfl⟩ (fun hHeld => ?_)
   clear hK K
   refine norm_ (a' := ?_) ?_ ?_
   rotate_left
   ·show Act.put _ (some 19) _ = _
    simp only [Act.put, List.setIfInBounds_toArray, List.set_cons_zero, List.set_cons_succ, i64_w, i32_w]
    rfl
   refine pure_ (i := 4) (N := some 15) (v := ?_) (a' := ?_) #[true, true, true, true, true, false, false, false, false] rfl rfl (any_of HT_.out (by kernel_rfl)) (fun _ _ _ h => h) (Or.inl ⟨by rfl, ?_⟩) ?_ ?_
   rotate_left
   ·intro w'
    go_simp
    with_reducible rfl
   rotate_left
   ·simp only [Act.put, List.setIfInBounds_toArray, List.set_cons_zero, List.set_cons_succ, i64_w, i32_w]
    rfl
   refine pure_ (i := 5) (N := some 20) (v := ?_) (a' := ?_) #[true, true, true, true, true, true, false, false, false] rfl rfl (any_of HT_.out (by kernel_rfl)) (fun _ _ _ h => h) (Or.inl ⟨by rfl, ?_⟩) ?_ ?_
   rotate_left
   ·intro w'
    go_simp
    with_reducible rfl
   rotate_left
   ·simp only [Act.put, List.setIfInBounds_toArray, List.set_cons_zero, List.set_cons_succ, i64_w, i32_w]
    rfl
   refine pure_ (i := 6) (N := some 21) (v := ?_) (a' := ?_) #[true, true, true, true, true, true, true, false, false] rfl rfl (any_of HT_.out (by kernel_rfl)) (fun _ _ _ h => h) (Or.inl ⟨by rfl, ?_⟩) ?_ ?_
   rotate_left
   ·intro w'
    go_simp
    with_reducible rfl
   rotate_left
   ·simp only [Act.put, List.setIfInBounds_toArray, List.set_cons_zero, List.set_cons_succ, i64_w, i32_w]
    rfl
   refine pure_ (i := 7) (N := some 7) (v := ?_) (a' := ?_) #[true, true, true, true, true, true, true, true, false] rfl rfl (any_of HT_.out (by kernel_rfl)) (fun _ _ _ h => h) (Or.inl ⟨by rfl, ?_⟩) ?_ ?_
   rotate_left
   ·intro w'
    go_simp
    with_reducible rfl
   rotate_left
   ·simp only [Act.put, List.setIfInBounds_toArray, List.set_cons_zero, List.set_cons_succ, i64_w, i32_w]
    rfl
   refine pure_ (i := 8) (N := some 8) (v := ?_) (a' := ?_) #[true, true, true, true, true, true, true, true, true] rfl rfl (any_of HT_.out (by kernel_rfl)) (fun _ _ _ h => h) (Or.inl ⟨by rfl, ?_⟩) ?_ ?_
   rotate_left
   ·intro w'
    go_simp
    with_reducible rfl
   rotate_left
   ·simp only [Act.put, List.setIfInBounds_toArray, List.set_cons_zero, List.set_cons_succ, i64_w, i32_w]
    rfl
   refine done_ (done_of HT_.out (by kernel_rfl)) ?_
   try go_wp2
   go_ret2
   exact ⟨_, by first | rfl | (simp [errW_none, errW_some] <;> rfl) | (simp [*, errW_none, errW_some] <;> rfl), by first | exact Kd.R_nil _ _ _ _ _ | exact Kd.N_nil _ _ _ _ _ | exact Kd.V_nil _ _ _ _ _ | exact Kd.Q_nil _ _ _ _ _ | exact Kd.S_nil _ _ _ _ _, by repeat (first | (with_reducible first | exact HB.out | apply below_alloc | apply pw_below_drewN | apply below_drew1 | refine below_set ?_ GE572.out | refine below_set ?_ GE573.out) | exact HB.out)⟩
 ·rw [if_neg c4] at H
  have c4b0 : (t574 == 0) = false := beq_eq_false_iff_ne.mpr c4
  have c4b1 : (t574 != 0) = true := bne_iff_ne.mpr c4
  simp only [Option.some.injEq, Prod.mk.injEq] at H
  obtain ⟨rfl, rfl⟩ := H
  go_enter Try.func23, Try.ntmps23
  go_wp2_with (first | ((with_reducible refine gate_dst (N := 2) rfl ?_); refine box_event ?hg (N := 2) ?hd (cs := #[.int .i64 a0_0, .slice A0_1 l0_1.length c0_1]) (t := 29) ?hr ?_; (case hd => rfl); (case hg => rfl); (case hr => first | (go_simp; done) | (go_simp; rfl)); intro gb572 hg w26 hbox hb; have n0_ := Aside0.mk (below_step (by repeat (first | (with_reducible first | exact HB.out | apply below_alloc | apply pw_below_drewN | apply below_drew1) | exact HB.out)) hb); have n1_ := Aside0.mk (hbox); have n2_ := Aside0.mk ((by rw [hg]; exact (below_size (by repeat (first | (with_reducible first | exact HB.out | apply below_alloc | apply pw_below_drewN | apply below_drew1) | exact HB.out))) : w.heap.size ≤ gb572)); have n3_ := Aside0.mk ((by rw [hg]; exact (below_size (by repeat (first | (with_reducible first | exact HB.out | apply below_alloc | apply pw_below_drewN | apply below_drew1) | exact HB.out))) : w.heap.size ≤ gb572)); clear HB; have HB := n0_; have BK572 := n1_; have GW572 := n2_; have GE572 := n3_; clear n0_ n1_ n2_ n3_; clear hb hbox hg) | ((with_reducible refine gate_dst (N := 3) rfl ?_); refine box_event ?hg (N := 3) ?hd (cs := #[.int .i64 a1]) (t := 2) ?hr ?_; (case hd => rfl); (case hg => rfl); (case hr => first | (go_simp; done) | (go_simp; rfl)); intro gb573 hg w27 hbox hb; have n0_ := Aside0.mk (blk_below (g := gb572) (o := .cells #[.int .i64 a0_0, .slice A0_1 l0_1.length c0_1] 29 (0, 0)) (by (with_reducible repeat (first | refine blk_drewN ?_ _ | refine blk_drew ?_ | refine blk_alloc ?_ _)); exact BK572.out) hb); have n1_ := Aside0.mk (below_step (by repeat (first | (with_reducible first | exact HB.out | apply below_alloc | apply pw_below_drewN | apply below_drew1 | refine below_set ?_ GE572.out) | exact HB.out)) hb); have n2_ := Aside0.mk (hbox); have n3_ := Aside0.mk ((by rw [hg]; exact (below_size (by repeat (first | (with_reducible first | exact HB.out | apply below_alloc | apply pw_below_drewN | apply below_drew1 | refine below_set ?_ GE572.out) | exact HB.out))) : w.heap.size ≤ gb573)); have n4_ := Aside0.mk ((by rw [hg]; exact (below_size (by repeat (first | (with_reducible first | exact HB.out | apply below_alloc | apply pw_below_drewN | apply below_drew1 | refine below_set ?_ GE572.out) | exact HB.out))) : w.heap.size ≤ gb573)); have n5_ := Aside0.mk ((by rw [hg]; exact Nat.ne_of_lt (blk_lt (g := gb572) (o := .cells #[.int .i64 a0_0, .slice A0_1 l0_1.length c0_1] 29 (0, 0)) (by (with_reducible repeat (first | refine blk_drewN ?_ _ | refine blk_drew ?_ | refine blk_alloc ?_ _)); exact BK572.out)) : gb572 ≠ gb573)); have n6_ := Aside0.mk ((by rw [hg]; exact Nat.ne_of_gt (blk_lt (g := gb572) (o := .cells #[.int .i64 a0_0, .slice A0_1 l0_1.length c0_1] 29 (0, 0)) (by (with_reducible repeat (first | refine blk_drewN ?_ _ | refine blk_drew ?_ | refine blk_alloc ?_ _)); exact BK572.out)) : gb573 ≠ gb572)); clear BK572; clear HB; have BK572 := n0_; have HB := n1_; have BK573 := n2_; have GW573 := n3_; have GE573 := n4_; have NB572_573 := n5_; have NB573_572 := n6_; clear n0_ n1_ n2_ n3_ n4_ n5_ n6_; clear hb hbox hg; have hnb28 := NB572_573.out; have hnc28 := NB573_572.out; have hcz29_0 : w27.cell? ⟨gb572, 0, none⟩ = some (.int .i64 a0_0) := (blk_cell BK572.out 0).trans rfl; have hcz29_1 : w27.cell? ⟨gb572, 1, none⟩ = some (.slice A0_1 l0_1.length c0_1) := (blk_cell BK572.out 1).trans rfl; have hfz29_0 := blk_frozen BK572.out 0; have hfz29_1 := blk_frozen BK572.out 1) | ((with_reducible refine gate_callee (f := 50) rfl ?_); refine goesL_ (some 11) rfl rfl Try.func50 (by kernel_rfl) rfl #[.agg #[.int .i64 a0_0, .slice A0_1 l0_1.length c0_1], .func (.func 57) #[] #[.pointer (some ⟨gb573, 0, none⟩)]] rfl (by (try simp only [List.map_toArray, List.map_cons, List.map_nil]); first | done | rfl | (simp only [List.length_drop, List.length_take]; rfl)) ?_; (with_reducible refine (impl_graphCode_at_ZetaSeries_1.calls k a0_0 _ _ l0_1 gb573 a1 t574 _ ?side1 ?side2 ?side3 A3.out).mono ?_); (case side1 => repeat (first | exact (Kd.C_below HR0_1.out HB.out) | (with_reducible refine Kd.C_alloc ?_ _) | (with_reducible refine Kd.C_drewN ?_ _) | (with_reducible refine Kd.C_drew ?_))); (case side2 => exact HC0_1.out); (case side3 => exact (by (with_reducible repeat (first | refine blk_drewN ?_ _ | refine blk_drew ?_ | refine blk_alloc ?_ _)); exact BK573.out)); rintro e w30 ⟨rfl, hb⟩; refine ⟨_, rfl, ?_⟩; have n0_ := Aside0.mk (blk_below (g := gb572) (o := .cells #[.int .i64 a0_0, .slice A0_1 l0_1.length c0_1] 29 (0, 0)) (by (with_reducible repeat (first | refine blk_drewN ?_ _ | refine blk_drew ?_ | refine blk_alloc ?_ _)); exact BK572.out) hb); have n1_ := Aside0.mk (blk_below (g := gb573) (o := .cells #[.int .i64 a1] 2 (0, 0)) (by (with_reducible repeat (first | refine blk_drewN ?_ _ | refine blk_drew ?_ | refine blk_alloc ?_ _)); exact BK573.out) hb); have n2_ := Aside0.mk (below_step (by repeat (first | (with_reducible first | exact HB.out | apply below_alloc | apply pw_below_drewN | apply below_drew1 | refine below_set ?_ GE572.out | refine below_set ?_ GE573.out) | exact HB.out)) hb); clear BK572; clear BK573; clear HB; have BK572 := n0_; have BK573 := n1_; have HB := n2_; clear n0_ n1_ n2_; (try clear hb); (try clear hb2); (try clear hk); (try clear hi)))
  go_ret2
  exact ⟨_, by first | rfl | (simp [errW_none, errW_some] <;> rfl) | (simp [*, errW_none, errW_some] <;> rfl), by first | exact Kd.R_nil _ _ _ _ _ | exact Kd.N_nil _ _ _ _ _ | exact Kd.V_nil _ _ _ _ _ | exact Kd.Q_nil _ _ _ _ _ | exact Kd.S_nil _ _ _ _ _, by repeat (first | (with_reducible first | exact HB.out | apply below_alloc | apply pw_below_drewN | apply below_drew1 | refine below_set ?_ GE572.out | refine below_set ?_ GE573.out) | exact HB.out)⟩

/-! ### laws_FnExactZetaSeries: function 5 -/
def laws_FnExactZetaSeries.f (k : Nat) (a0_0 : Int) (l0_1 : List (List Int)) (a1 : Int) : Option (Bool) := (laws_szGraph.f k a0_0 l0_1 1048576).bind fun t583 => (if t583 < 0 then (some true) else ((laws_toGraph.f k a0_0 l0_1).bind fun bt584 => ((spec_ZetaSeries.f k bt584.1 bt584.2 a1).bind fun bt588 => ((laws_toGraph.f k a0_0 l0_1).bind fun bt592 => ((impl_ZetaSeries.f k bt592.1 bt592.2 a1).bind fun bt597 => ((laws_eqInt64S.f k bt597.1 bt588.1).bind fun t601 => (if t601 = true then (if bt597.2 = bt588.2 then ((laws_toGraph.f k a0_0 l0_1).bind fun bt602 => ((laws_eqGraph.f k bt592.1 bt592.2 bt602.1 bt602.2).bind fun t606 => (if t606 = true then ((laws_markGraph.f k bt592.1 bt592.2 1).bind fun bt607 => (if bt607.1 < 0 then (some false) else ((laws_eqInt64S.f k bt597.1 bt588.1).bind fun t609 => (if t609 = true then ((laws_markInt64S.f k bt597.1 1).bind fun bt610 => ((laws_heldInt64S.f k bt610.2 1).bind fun t612 => (if t612 < 0 then (some false) else (if t612 = bt610.1 then ((laws_toGraph.f k a0_0 l0_1).bind fun bt613 => ((impl_ZetaSeries.f k bt613.1 bt613.2 a1).bind fun bt617 => ((laws_eqInt64S.f k bt617.1 bt588.1).bind fun t621 => (if t621 = true then (if bt617.2 = bt588.2 then ((laws_heldInt64S.f k bt610.2 1).bind fun t622 => (if t622 < 0 then (some false) else (if t622 = bt610.1 then (some true) else (some false)))) else (some false)) else (some false))))) else (some false))))) else (some false))))) else (some false)))) else (some false)) else (some false))))))))
theorem laws_FnExactZetaSeries.mono : ∀ a0 a1 a2 k, LeO (laws_FnExactZetaSeries.f k a0 a1 a2) (laws_FnExactZetaSeries.f (k + 1) a0 a1 a2) := by
 intro a0 a1 a2 k
 unfold laws_FnExactZetaSeries.f
 repeat' first
   | (with_reducible exact impl_ZetaSeries.mono _ _ _ _)
   | (with_reducible exact laws_eqGraph.mono _ _ _ _ _)
   | (with_reducible exact laws_eqInt64S.mono _ _ _)
   | (with_reducible exact laws_heldInt64S.mono _ _ _)
   | (with_reducible exact laws_markGraph.mono _ _ _ _)
   | (with_reducible exact laws_markInt64S.mono _ _ _)
   | (with_reducible exact laws_szGraph.mono _ _ _ _)
   | (with_reducible exact laws_toGraph.mono _ _ _)
   | (with_reducible exact spec_ZetaSeries.mono _ _ _ _)
   | (with_reducible exact LeO.refl _)
   | (with_reducible exact LeO.none _)
   | (with_reducible refine LeO.ite ?_ ?_)
   | (with_reducible refine LeO.bind ?_ (fun _ => ?_))
   | exact impl_ZetaSeries.mono _ _ _ _
   | exact laws_eqGraph.mono _ _ _ _ _
   | exact laws_eqInt64S.mono _ _ _
   | exact laws_heldInt64S.mono _ _ _
   | exact laws_markGraph.mono _ _ _ _
   | exact laws_markInt64S.mono _ _ _
   | exact laws_szGraph.mono _ _ _ _
   | exact laws_toGraph.mono _ _ _
   | exact spec_ZetaSeries.mono _ _ _ _
   | exact LeO.none _
   | refine LeO.ite ?_ ?_
   | refine LeO.bind ?_ (fun _ => ?_)
set_option maxHeartbeats 8000000 in
set_option maxRecDepth 100000 in
theorem laws_FnExactZetaSeries.calls (k : Nat) (a0_0 : Int) (A0_1 : Option Addr) (c0_1 : Nat) (l0_1 : List (List Int)) (a1 : Int) (w : World) (hr0_1 : Kd.C (Kd.slice 2 (Kd.int .i64)) w A0_1 l0_1.length l0_1) (hc0_1 : l0_1.length ≤ c0_1) (h : laws_FnExactZetaSeries.f k a0_0 l0_1 a1 = some true) :
  Calls Try.prog 5 #[.agg #[.int .i64 a0_0, .slice A0_1 l0_1.length c0_1], .int .i64 a1] w fun e w' => e = .returned (.bool true) ∧ Below w.heap.size w w' := by
 have hu24 := Try.underlying24
 have hu29 := Try.underlying29
 have HR0_1 := Aside0.mk hr0_1
 have HC0_1 := Aside0.mk hc0_1
 clear hr0_1 hc0_1
 have HB := Aside0.mk (Below.refl w.heap.size w)
 have H : ((laws_szGraph.f k a0_0 l0_1 1048576).bind fun t583 => (if t583 < 0 then (some true) else ((laws_toGraph.f k a0_0 l0_1).bind fun bt584 => ((spec_ZetaSeries.f k bt584.1 bt584.2 a1).bind fun bt588 => ((laws_toGraph.f k a0_0 l0_1).bind fun bt592 => ((impl_ZetaSeries.f k bt592.1 bt592.2 a1).bind fun bt597 => ((laws_eqInt64S.f k bt597.1 bt588.1).bind fun t601 => (if t601 = true then (if bt597.2 = bt588.2 then ((laws_toGraph.f k a0_0 l0_1).bind fun bt602 => ((laws_eqGraph.f k bt592.1 bt592.2 bt602.1 bt602.2).bind fun t606 => (if t606 = true then ((laws_markGraph.f k bt592.1 bt592.2 1).bind fun bt607 => (if bt607.1 < 0 then (some false) else ((laws_eqInt64S.f k bt597.1 bt588.1).bind fun t609 => (if t609 = true then ((laws_markInt64S.f k bt597.1 1).bind fun bt610 => ((laws_heldInt64S.f k bt610.2 1).bind fun t612 => (if t612 < 0 then (some false) else (if t612 = bt610.1 then ((laws_toGraph.f k a0_0 l0_1).bind fun bt613 => ((impl_ZetaSeries.f k bt613.1 bt613.2 a1).bind fun bt617 => ((laws_eqInt64S.f k bt617.1 bt588.1).bind fun t621 => (if t621 = true then (if bt617.2 = bt588.2 then ((laws_heldInt64S.f k bt610.2 1).bind fun t622 => (if t622 < 0 then (some false) else (if t622 = bt610.1 then (some true) else (some false)))) else (some false)) else (some false))))) else (some false))))) else (some false))))) else (some false)))) else (some false)) else (some false))))))))) = some true := h
 clear h
 replace H := Option.bind_eq_some_iff.mp H
 obtain ⟨t583, A30, H⟩ := H
 replace H : (if t583 < 0 then (some true) else ((laws_toGraph.f k a0_0 l0_1).bind fun bt584 => ((spec_ZetaSeries.f k bt584.1 bt584.2 a1).bind fun bt588 => ((laws_toGraph.f k a0_0 l0_1).bind fun bt592 => ((impl_ZetaSeries.f k bt592.1 bt592.2 a1).bind fun bt597 => ((laws_eqInt64S.f k bt597.1 bt588.1).bind fun t601 => (if t601 = true then (if bt597.2 = bt588.2 then ((laws_toGraph.f k a0_0 l0_1).bind fun bt602 => ((laws_eqGraph.f k bt592.1 bt592.2 bt602.1 bt602.2).bind fun t606 => (if t606 = true then ((laws_markGraph.f k bt592.1 bt592.2 1).bind fun bt607 => (if bt607.1 < 0 then (some false) else ((laws_eqInt64S.f k bt597.1 bt588.1).bind fun t609 => (if t609 = true then ((laws_markInt64S.f k bt597.1 1).bind fun bt610 => ((laws_heldInt64S.f k bt610.2 1).bind fun t612 => (if t612 < 0 then (some false) else (if t612 = bt610.1 then ((laws_toGraph.f k a0_0 l0_1).bind fun bt613 => ((impl_ZetaSeries.f k bt613.1 bt613.2 a1).bind fun bt617 => ((laws_eqInt64S.f k bt617.1 bt588.1).bind fun t621 => (if t621 = true then (if bt617.2 = bt588.2 then ((laws_heldInt64S.f k bt610.2 1).bind fun t622 => (if t622 < 0 then (some false) else (if t622 = bt610.1 then (some true) else (some false)))) else (some false)) else (some false))))) else (some false))))) else (some false))))) else (some false)))) else (some false)) else (some false)))))))) = some true := H
 have A3 := Aside0.mk A30
 clear A30
 by_cases c4 : t583 < 0
 ·rw [if_pos c4] at H
  have c4b0 : decide (t583 < 0) = true := decide_eq_true c4
  clear c4
  try clear H
  go_enter Try.func5, Try.ntmps5
  go_wp2_with (first | ((with_reducible refine gate_dst (N := 2) rfl ?_); refine box_event ?hg (N := 2) ?hd (cs := #[.int .i64 a0_0, .slice A0_1 l0_1.length c0_1]) (t := 24) ?hr ?_; (case hd => rfl); (case hg => rfl); (case hr => first | (go_simp; done) | (go_simp; rfl)); intro gb582 hg w5 hbox hb; have n0_ := Aside0.mk (hb.size); have n1_ := Aside0.mk ((⟨Nat.le_of_eq hg.symm, blk_lt hbox⟩ : w.heap.size ≤ gb582 ∧ gb582 < w5.heap.size)); have n2_ := Aside0.mk (below_step (by repeat (first | (with_reducible first | exact HB.out | apply below_alloc | apply pw_below_drewN | apply below_drew1) | exact HB.out)) hb); have n3_ := Aside0.mk (hbox); have n4_ := Aside0.mk ((by rw [hg]; exact (below_size (by repeat (first | (with_reducible first | exact HB.out | apply below_alloc | apply pw_below_drewN | apply below_drew1) | exact HB.out))) : w.heap.size ≤ gb582)); have n5_ := Aside0.mk ((by rw [hg]; exact (below_size (by repeat (first | (with_reducible first | exact HB.out | apply below_alloc | apply pw_below_drewN | apply below_drew1) | exact HB.out))) : w.heap.size ≤ gb582)); clear HB; have Zw5 := n0_; have ZB582 := n1_; have HB := n2_; have BK582 := n3_; have GW582 := n4_; have GE582 := n5_; clear n0_ n1_ n2_ n3_ n4_ n5_; clear hb hbox hg; have hcz6_0 : w5.cell? ⟨gb582, 0, none⟩ = some (.int .i64 a0_0) := (blk_cell BK582.out 0).trans rfl; have hcz6_1 : w5.cell? ⟨gb582, 1, none⟩ = some (.slice A0_1 l0_1.length c0_1) := (blk_cell BK582.out 1).trans rfl; have hfz6_0 := blk_frozen BK582.out 0; have hfz6_1 := blk_frozen BK582.out 1) | ((with_reducible refine gate_callee (f := 10) rfl ?_); refine goesL_ (some 18) rfl rfl Try.func10 (by kernel_rfl) rfl #[.agg #[.int .i64 a0_0, .slice A0_1 l0_1.length c0_1], .int .i64 1048576] rfl (by (try simp only [List.map_toArray, List.map_cons, List.map_nil]); first | done | rfl) ?_; (with_reducible refine (laws_szGraph.calls k a0_0 _ _ l0_1 1048576 t583 _ ?side1 ?side2 A3.out).mono ?_); (case side1 => exact (Kd.C_below HR0_1.out HB.out)); (case side2 => exact HC0_1.out); rintro e w7 ⟨rfl, hb⟩; refine ⟨_, rfl, ?_⟩; have n0_ := Aside0.mk (blk_below (g := gb582) (o := .cells #[.int .i64 a0_0, .slice A0_1 l0_1.length c0_1] 24 (0, 0)) (by (with_reducible repeat (first | refine blk_drewN ?_ _ | refine blk_drew ?_ | refine blk_alloc ?_ _)); exact BK582.out) hb); have n1_ := Aside0.mk (below_step HB.out hb); have n2_ := Aside0.mk (hb.size); clear BK582; clear HB; have BK582 := n0_; have HB := n1_; have Zw7 := n2_; clear n0_ n1_ n2_; (try clear hb); (try clear hkp); (try clear hd_)))
  go_ret
  exact ⟨by first | rfl | (simp [errW_none, errW_some] <;> rfl) | (simp [*, errW_none, errW_some] <;> rfl), by repeat (first | (with_reducible first | exact HB.out | apply below_alloc | apply pw_below_drewN | apply below_drew1 | refine below_set ?_ GE582.out) | exact HB.out)⟩
 ·rw [if_neg c4] at H
  have c4b0 : decide (t583 < 0) = false := decide_eq_false c4
  clear c4
  replace H := Option.bind_eq_some_iff.mp H
  obtain ⟨⟨t584, t585⟩, A80, H⟩ := H
  replace H : ((spec_ZetaSeries.f k t584 t585 a1).bind fun bt588 => ((laws_toGraph.f k a0_0 l0_1).bind fun bt592 => ((impl_ZetaSeries.f k bt592.1 bt592.2 a1).bind fun bt597 => ((laws_eqInt64S.f k bt597.1 bt588.1).bind fun t601 => (if t601 = true then (if bt597.2 = bt588.2 then ((laws_toGraph.f k a0_0 l0_1).bind fun bt602 => ((laws_eqGraph.f k bt592.1 bt592.2 bt602.1 bt602.2).bind fun t606 => (if t606 = true then ((laws_markGraph.f k bt592.1 bt592.2 1).bind fun bt607 => (if bt607.1 < 0 then (some false) else ((laws_eqInt64S.f k bt597.1 bt588.1).bind fun t609 => (if t609 = true then ((laws_markInt64S.f k bt597.1 1).bind fun bt610 => ((laws_heldInt64S.f k bt610.2 1).bind fun t612 => (if t612 < 0 then (some false) else (if t612 = bt610.1 then ((laws_toGraph.f k a0_0 l0_1).bind fun bt613 => ((impl_ZetaSeries.f k bt613.1 bt613.2 a1).bind fun bt617 => ((laws_eqInt64S.f k bt617.1 bt588.1).bind fun t621 => (if t621 = true then (if bt617.2 = bt588.2 then ((laws_heldInt64S.f k bt610.2 1).bind fun t622 => (if t622 < 0 then (some false) else (if t622 = bt610.1 then (some true) else (some false)))) else (some false)) else (some false))))) else (some false))))) else (some false))))) else (some false)))) else (some false)) else (some false)))))) = some true := H
  have A8 := Aside0.mk A80
  clear A80
  replace H := Option.bind_eq_some_iff.mp H
  obtain ⟨⟨t588, t591⟩, A90, H⟩ := H
  replace H : ((laws_toGraph.f k a0_0 l0_1).bind fun bt592 => ((impl_ZetaSeries.f k bt592.1 bt592.2 a1).bind fun bt597 => ((laws_eqInt64S.f k bt597.1 t588).bind fun t601 => (if t601 = true then (if bt597.2 = t591 then ((laws_toGraph.f k a0_0 l0_1).bind fun bt602 => ((laws_eqGraph.f k bt592.1 bt592.2 bt602.1 bt602.2).bind fun t606 => (if t606 = true then ((laws_markGraph.f k bt592.1 bt592.2 1).bind fun bt607 => (if bt607.1 < 0 then (some false) else ((laws_eqInt64S.f k bt597.1 t588).bind fun t609 => (if t609 = true then ((laws_markInt64S.f k bt597.1 1).bind fun bt610 => ((laws_heldInt64S.f k bt610.2 1).bind fun t612 => (if t612 < 0 then (some false) else (if t612 = bt610.1 then ((laws_toGraph.f k a0_0 l0_1).bind fun bt613 => ((impl_ZetaSeries.f k bt613.1 bt613.2 a1).bind fun bt617 => ((laws_eqInt64S.f k bt617.1 t588).bind fun t621 => (if t621 = true then (if bt617.2 = t591 then ((laws_heldInt64S.f k bt610.2 1).bind fun t622 => (if t622 < 0 then (some false) else (if t622 = bt610.1 then (some true) else (some false)))) else (some false)) else (some false))))) else (some false))))) else (some false))))) else (some false)))) else (some false)) else (some false))))) = some true := H
  have A9 := Aside0.mk A90
  clear A90
  replace H := Option.bind_eq_some_iff.mp H
  obtain ⟨⟨t592, t593⟩, A100, H⟩ := H
  replace H : ((impl_ZetaSeries.f k t592 t593 a1).bind fun bt597 => ((laws_eqInt64S.f k bt597.1 t588).bind fun t601 => (if t601 = true then (if bt597.2 = t591 then ((laws_toGraph.f k a0_0 l0_1).bind fun bt602 => ((laws_eqGraph.f k t592 t593 bt602.1 bt602.2).bind fun t606 => (if t606 = true then ((laws_markGraph.f k t592 t593 1).bind fun bt607 => (if bt607.1 < 0 then (some false) else ((laws_eqInt64S.f k bt597.1 t588).bind fun t609 => (if t609 = true then ((laws_markInt64S.f k bt597.1 1).bind fun bt610 => ((laws_heldInt64S.f k bt610.2 1).bind fun t612 => (if t612 < 0 then (some false) else (if t612 = bt610.1 then ((laws_toGraph.f k a0_0 l0_1).bind fun bt613 => ((impl_ZetaSeries.f k bt613.1 bt613.2 a1).bind fun bt617 => ((laws_eqInt64S.f k bt617.1 t588).bind fun t621 => (if t621 = true then (if bt617.2 = t591 then ((laws_heldInt64S.f k bt610.2 1).bind fun t622 => (if t622 < 0 then (some false) else (if t622 = bt610.1 then (some true) else (some false)))) else (some false)) else (some false))))) else (some false))))) else (some false))))) else (some false)))) else (some false)) else (some false)))) = some true := H
  have A10 := Aside0.mk A100
  clear A100
  replace H := Option.bind_eq_some_iff.mp H
  obtain ⟨⟨t597, t600⟩, A110, H⟩ := H
  replace H : ((laws_eqInt64S.f k t597 t588).bind fun t601 => (if t601 = true then (if t600 = t591 then ((laws_toGraph.f k a0_0 l0_1).bind fun bt602 => ((laws_eqGraph.f k t592 t593 bt602.1 bt602.2).bind fun t606 => (if t606 = true then ((laws_markGraph.f k t592 t593 1).bind fun bt607 => (if bt607.1 < 0 then (some false) else ((laws_eqInt64S.f k t597 t588).bind fun t609 => (if t609 = true then ((laws_markInt64S.f k t597 1).bind fun bt610 => ((laws_heldInt64S.f k bt610.2 1).bind fun t612 => (if t612 < 0 then (some false) else (if t612 = bt610.1 then ((laws_toGraph.f k a0_0 l0_1).bind fun bt613 => ((impl_ZetaSeries.f k bt613.1 bt613.2 a1).bind fun bt617 => ((laws_eqInt64S.f k bt617.1 t588).bind fun t621 => (if t621 = true then (if bt617.2 = t591 then ((laws_heldInt64S.f k bt610.2 1).bind fun t622 => (if t622 < 0 then (some false) else (if t622 = bt610.1 then (some true) else (some false)))) else (some false)) else (some false))))) else (some false))))) else (some false))))) else (some false)))) else (some false)) else (some false))) = some true := H
  have A11 := Aside0.mk A110
  clear A110
  replace H := Option.bind_eq_some_iff.mp H
  obtain ⟨t601, A120, H⟩ := H
  replace H : (if t601 = true then (if t600 = t591 then ((laws_toGraph.f k a0_0 l0_1).bind fun bt602 => ((laws_eqGraph.f k t592 t593 bt602.1 bt602.2).bind fun t606 => (if t606 = true then ((laws_markGraph.f k t592 t593 1).bind fun bt607 => (if bt607.1 < 0 then (some false) else ((laws_eqInt64S.f k t597 t588).bind fun t609 => (if t609 = true then ((laws_markInt64S.f k t597 1).bind fun bt610 => ((laws_heldInt64S.f k bt610.2 1).bind fun t612 => (if t612 < 0 then (some false) else (if t612 = bt610.1 then ((laws_toGraph.f k a0_0 l0_1).bind fun bt613 => ((impl_ZetaSeries.f k bt613.1 bt613.2 a1).bind fun bt617 => ((laws_eqInt64S.f k bt617.1 t588).bind fun t621 => (if t621 = true then (if bt617.2 = t591 then ((laws_heldInt64S.f k bt610.2 1).bind fun t622 => (if t622 < 0 then (some false) else (if t622 = bt610.1 then (some true) else (some false)))) else (some false)) else (some false))))) else (some false))))) else (some false))))) else (some false)))) else (some false)) else (some false)) = some true := H
  have A12 := Aside0.mk A120
  clear A120
  by_cases c13 : t601 = true
  ·subst c13
   have H1 : (if t600 = t591 then ((laws_toGraph.f k a0_0 l0_1).bind fun bt602 => ((laws_eqGraph.f k t592 t593 bt602.1 bt602.2).bind fun t606 => (if t606 = true then ((laws_markGraph.f k t592 t593 1).bind fun bt607 => (if bt607.1 < 0 then (some false) else ((laws_eqInt64S.f k t597 t588).bind fun t609 => (if t609 = true then ((laws_markInt64S.f k t597 1).bind fun bt610 => ((laws_heldInt64S.f k bt610.2 1).bind fun t612 => (if t612 < 0 then (some false) else (if t612 = bt610.1 then ((laws_toGraph.f k a0_0 l0_1).bind fun bt613 => ((impl_ZetaSeries.f k bt613.1 bt613.2 a1).bind fun bt617 => ((laws_eqInt64S.f k bt617.1 t588).bind fun t621 => (if t621 = true then (if bt617.2 = t591 then ((laws_heldInt64S.f k bt610.2 1).bind fun t622 => (if t622 < 0 then (some false) else (if t622 = bt610.1 then (some true) else (some false)))) else (some false)) else (some false))))) else (some false))))) else (some false))))) else (some false)))) else (some false)) = some true := by rw [if_pos rfl] at H; exact H
   clear H
   have H := H1
   clear H1
   by_cases c14 : t600 = t591
   ·rw [if_pos c14] at H
    have c14b0 : (t600 == t591) = true := beq_iff_eq.mpr c14
    have c14b1 : (t600 != t591) = false := bne_eq_false_iff_eq.mpr c14
    clear c14
    replace H := Option.bind_eq_some_iff.mp H
    obtain ⟨⟨t602, t603⟩, A150, H⟩ := H
    replace H : ((laws_eqGraph.f k t592 t593 t602 t603).bind fun t606 => (if t606 = true then ((laws_markGraph.f k t592 t593 1).bind fun bt607 => (if bt607.1 < 0 then (some false) else ((laws_eqInt64S.f k t597 t588).bind fun t609 => (if t609 = true then ((laws_markInt64S.f k t597 1).bind fun bt610 => ((laws_heldInt64S.f k bt610.2 1).bind fun t612 => (if t612 < 0 then (some false) else (if t612 = bt610.1 then ((laws_toGraph.f k a0_0 l0_1).bind fun bt613 => ((impl_ZetaSeries.f k bt613.1 bt613.2 a1).bind fun bt617 => ((laws_eqInt64S.f k bt617.1 t588).bind fun t621 => (if t621 = true then (if bt617.2 = t591 then ((laws_heldInt64S.f k bt610.2 1).bind fun t622 => (if t622 < 0 then (some false) else (if t622 = bt610.1 then (some true) else (some false)))) else (some false)) else (some false))))) else (some false))))) else (some false))))) else (some false))) = some true := H
    have A15 := Aside0.mk A150
    clear A150
    replace H := Option.bind_eq_some_iff.mp H
    obtain ⟨t606, A160, H⟩ := H
    replace H : (if t606 = true then ((laws_markGraph.f k t592 t593 1).bind fun bt607 => (if bt607.1 < 0 then (some false) else ((laws_eqInt64S.f k t597 t588).bind fun t609 => (if t609 = true then ((laws_markInt64S.f k t597 1).bind fun bt610 => ((laws_heldInt64S.f k bt610.2 1).bind fun t612 => (if t612 < 0 then (some false) else (if t612 = bt610.1 then ((laws_toGraph.f k a0_0 l0_1).bind fun bt613 => ((impl_ZetaSeries.f k bt613.1 bt613.2 a1).bind fun bt617 => ((laws_eqInt64S.f k bt617.1 t588).bind fun t621 => (if t621 = true then (if bt617.2 = t591 then ((laws_heldInt64S.f k bt610.2 1).bind fun t622 => (if t622 < 0 then (some false) else (if t622 = bt610.1 then (some true) else (some false)))) else (some false)) else (some false))))) else (some false))))) else (some false))))) else (some false)) = some true := H
    have A16 := Aside0.mk A160
    clear A160
    by_cases c17 : t606 = true
    ·subst c17
     have H1 : ((laws_markGraph.f k t592 t593 1).bind fun bt607 => (if bt607.1 < 0 then (some false) else ((laws_eqInt64S.f k t597 t588).bind fun t609 => (if t609 = true then ((laws_markInt64S.f k t597 1).bind fun bt610 => ((laws_heldInt64S.f k bt610.2 1).bind fun t612 => (if t612 < 0 then (some false) else (if t612 = bt610.1 then ((laws_toGraph.f k a0_0 l0_1).bind fun bt613 => ((impl_ZetaSeries.f k bt613.1 bt613.2 a1).bind fun bt617 => ((laws_eqInt64S.f k bt617.1 t588).bind fun t621 => (if t621 = true then (if bt617.2 = t591 then ((laws_heldInt64S.f k bt610.2 1).bind fun t622 => (if t622 < 0 then (some false) else (if t622 = bt610.1 then (some true) else (some false)))) else (some false)) else (some false))))) else (some false))))) else (some false))))) = some true := by rw [if_pos rfl] at H; exact H
     clear H
     have H := H1
     clear H1
     replace H := Option.bind_eq_some_iff.mp H
     obtain ⟨⟨t607, t608⟩, A180, H⟩ := H
     replace H : (if t607 < 0 then (some false) else ((laws_eqInt64S.f k t597 t588).bind fun t609 => (if t609 = true then ((laws_markInt64S.f k t597 1).bind fun bt610 => ((laws_heldInt64S.f k bt610.2 1).bind fun t612 => (if t612 < 0 then (some false) else (if t612 = bt610.1 then ((laws_toGraph.f k a0_0 l0_1).bind fun bt613 => ((impl_ZetaSeries.f k bt613.1 bt613.2 a1).bind fun bt617 => ((laws_eqInt64S.f k bt617.1 t588).bind fun t621 => (if t621 = true then (if bt617.2 = t591 then ((laws_heldInt64S.f k bt610.2 1).bind fun t622 => (if t622 < 0 then (some false) else (if t622 = bt610.1 then (some true) else (some false)))) else (some false)) else (some false))))) else (some false))))) else (some false)))) = some true := H
     have A18 := Aside0.mk A180
     clear A180
     by_cases c19 : t607 < 0
     ·rw [if_pos c19] at H
      have c19b0 : decide (t607 < 0) = true := decide_eq_true c19
      clear c19
      exact absurd H (by simp)
     ·rw [if_neg c19] at H
      have c19b0 : decide (t607 < 0) = false := decide_eq_false c19
      clear c19
      replace H := Option.bind_eq_some_iff.mp H
      obtain ⟨t609, A200, H⟩ := H
      replace H : (if t609 = true then ((laws_markInt64S.f k t597 1).bind fun bt610 => ((laws_heldInt64S.f k bt610.2 1).bind fun t612 => (if t612 < 0 then (some false) else (if t612 = bt610.1 then ((laws_toGraph.f k a0_0 l0_1).bind fun bt613 => ((impl_ZetaSeries.f k bt613.1 bt613.2 a1).bind fun bt617 => ((laws_eqInt64S.f k bt617.1 t588).bind fun t621 => (if t621 = true then (if bt617.2 = t591 then ((laws_heldInt64S.f k bt610.2 1).bind fun t622 => (if t622 < 0 then (some false) else (if t622 = bt610.1 then (some true) else (some false)))) else (some false)) else (some false))))) else (some false))))) else (some false)) = some true := H
      have A20 := Aside0.mk A200
      clear A200
      by_cases c21 : t609 = true
      ·subst c21
       have H1 : ((laws_markInt64S.f k t597 1).bind fun bt610 => ((laws_heldInt64S.f k bt610.2 1).bind fun t612 => (if t612 < 0 then (some false) else (if t612 = bt610.1 then ((laws_toGraph.f k a0_0 l0_1).bind fun bt613 => ((impl_ZetaSeries.f k bt613.1 bt613.2 a1).bind fun bt617 => ((laws_eqInt64S.f k bt617.1 t588).bind fun t621 => (if t621 = true then (if bt617.2 = t591 then ((laws_heldInt64S.f k bt610.2 1).bind fun t622 => (if t622 < 0 then (some false) else (if t622 = bt610.1 then (some true) else (some false)))) else (some false)) else (some false))))) else (some false))))) = some true := by rw [if_pos rfl] at H; exact H
       clear H
       have H := H1
       clear H1
       replace H := Option.bind_eq_some_iff.mp H
       obtain ⟨⟨t610, t611⟩, A220, H⟩ := H
       replace H : ((laws_heldInt64S.f k t611 1).bind fun t612 => (if t612 < 0 then (some false) else (if t612 = t610 then ((laws_toGraph.f k a0_0 l0_1).bind fun bt613 => ((impl_ZetaSeries.f k bt613.1 bt613.2 a1).bind fun bt617 => ((laws_eqInt64S.f k bt617.1 t588).bind fun t621 => (if t621 = true then (if bt617.2 = t591 then ((laws_heldInt64S.f k t611 1).bind fun t622 => (if t622 < 0 then (some false) else (if t622 = t610 then (some true) else (some false)))) else (some false)) else (some false))))) else (some false)))) = some true := H
       have A22 := Aside0.mk A220
       clear A220
       replace H := Option.bind_eq_some_iff.mp H
       obtain ⟨t612, A230, H⟩ := H
       replace H : (if t612 < 0 then (some false) else (if t612 = t610 then ((laws_toGraph.f k a0_0 l0_1).bind fun bt613 => ((impl_ZetaSeries.f k bt613.1 bt613.2 a1).bind fun bt617 => ((laws_eqInt64S.f k bt617.1 t588).bind fun t621 => (if t621 = true then (if bt617.2 = t591 then ((laws_heldInt64S.f k t611 1).bind fun t622 => (if t622 < 0 then (some false) else (if t622 = t610 then (some true) else (some false)))) else (some false)) else (some false))))) else (some false))) = some true := H
       have A23 := Aside0.mk A230
       clear A230
       by_cases c24 : t612 < 0
       ·rw [if_pos c24] at H
        have c24b0 : decide (t612 < 0) = true := decide_eq_true c24
        clear c24
        exact absurd H (by simp)
       ·rw [if_neg c24] at H
        have c24b0 : decide (t612 < 0) = false := decide_eq_false c24
        clear c24
        by_cases c25 : t612 = t610
        ·rw [if_pos c25] at H
         have c25b0 : (t612 == t610) = true := beq_iff_eq.mpr c25
         have c25b1 : (t612 != t610) = false := bne_eq_false_iff_eq.mpr c25
         clear c25
         replace H := Option.bind_eq_some_iff.mp H
         obtain ⟨⟨t613, t614⟩, A260, H⟩ := H
         replace H : ((impl_ZetaSeries.f k t613 t614 a1).bind fun bt617 => ((laws_eqInt64S.f k bt617.1 t588).bind fun t621 => (if t621 = true then (if bt617.2 = t591 then ((laws_heldInt64S.f k t611 1).bind fun t622 => (if t622 < 0 then (some false) else (if t622 = t610 then (some true) else (some false)))) else (some false)) else (some false)))) = some true := H
         have A26 := Aside0.mk A260
         clear A260
         replace H := Option.bind_eq_some_iff.mp H
         obtain ⟨⟨t617, t620⟩, A270, H⟩ := H
         replace H : ((laws_eqInt64S.f k t617 t588).bind fun t621 => (if t621 = true then (if t620 = t591 then ((laws_heldInt64S.f k t611 1).bind fun t622 => (if t622 < 0 then (some false) else (if t622 = t610 then (some true) else (some false)))) else (some false)) else (some false))) = some true := H
         have A27 := Aside0.mk A270
         clear A270
         replace H := Option.bind_eq_some_iff.mp H
         obtain ⟨t621, A280, H⟩ := H
         replace H : (if t621 = true then (if t620 = t591 then ((laws_heldInt64S.f k t611 1).bind fun t622 => (if t622 < 0 then (some false) else (if t622 = t610 then (some true) else (some false)))) else (some false)) else (some false)) = some true := H
         have A28 := Aside0.mk A280
         clear A280
         by_cases c29 : t621 = true
         ·subst c29
          have H1 : (if t620 = t591 then ((laws_heldInt64S.f k t611 1).bind fun t622 => (if t622 < 0 then (some false) else (if t622 = t610 then (some true) else (some false)))) else (some false)) = some true := by rw [if_pos rfl] at H; exact H
          clear H
          have H := H1
          clear H1
          by_cases c30 : t620 = t591
          ·rw [if_pos c30] at H
           have c30b0 : (t620 == t591) = true := beq_iff_eq.mpr c30
           have c30b1 : (t620 != t591) = false := bne_eq_false_iff_eq.mpr c30
           clear c30
           replace H := Option.bind_eq_some_iff.mp H
           obtain ⟨t622, A310, H⟩ := H
           replace H : (if t622 < 0 then (some false) else (if t622 = t610 then (some true) else (some false))) = some true := H
           have A31 := Aside0.mk A310
           clear A310
           by_cases c32 : t622 < 0
           ·rw [if_pos c32] at H
            have c32b0 : decide (t622 < 0) = true := decide_eq_true c32
            clear c32
            exact absurd H (by simp)
           ·rw [if_neg c32] at H
            have c32b0 : decide (t622 < 0) = false := decide_eq_false c32
            clear c32
            by_cases c33 : t622 = t610
            ·rw [if_pos c33] at H
             have c33b0 : (t622 == t610) = true := beq_iff_eq.mpr c33
             have c33b1 : (t622 != t610) = false := bne_eq_false_iff_eq.mpr c33
             clear c33
             try clear H
             go_enter Try.func5, Try.ntmps5
             try go_wp2_with (first | ((with_reducible refine gate_dst (N := 2) rfl ?_); refine box_event ?hg (N := 2) ?hd (cs := #[.int .i64 a0_0, .slice A0_1 l0_1.length c0_1]) (t := 24) ?hr ?_; (case hd => rfl); (case hg => rfl); (case hr => first | (go_simp; done) | (go_simp; rfl)); intro gb582 hg w34 hbox hb; have n0_ := Aside0.mk (hb.size); have n1_ := Aside0.mk ((⟨Nat.le_of_eq hg.symm, blk_lt hbox⟩ : w.heap.size ≤ gb582 ∧ gb582 < w34.heap.size)); have n2_ := Aside0.mk (below_step (by repeat (first | (with_reducible first | exact HB.out | apply below_alloc | apply pw_below_drewN | apply below_drew1) | exact HB.out)) hb); have n3_ := Aside0.mk (hbox); have n4_ := Aside0.mk ((by rw [hg]; exact (below_size (by repeat (first | (with_reducible first | exact HB.out | apply below_alloc | apply pw_below_drewN | apply below_drew1) | exact HB.out))) : w.heap.size ≤ gb582)); have n5_ := Aside0.mk ((by rw [hg]; exact (below_size (by repeat (first | (with_reducible first | exact HB.out | apply below_alloc | apply pw_below_drewN | apply below_drew1) | exact HB.out))) : w.heap.size ≤ gb582)); clear HB; have Zw34 := n0_; have ZB582 := n1_; have HB := n2_; have BK582 := n3_; have GW582 := n4_; have GE582 := n5_; clear n0_ n1_ n2_ n3_ n4_ n5_; clear hb hbox hg; have hcz35_0 : w34.cell? ⟨gb582, 0, none⟩ = some (.int .i64 a0_0) := (blk_cell BK582.out 0).trans rfl; have hcz35_1 : w34.cell? ⟨gb582, 1, none⟩ = some (.slice A0_1 l0_1.length c0_1) := (blk_cell BK582.out 1).trans rfl; have hfz35_0 := blk_frozen BK582.out 0; have hfz35_1 := blk_frozen BK582.out 1) | ((with_reducible refine gate_callee (f := 10) rfl ?_); refine goesL_ (some 18) rfl rfl Try.func10 (by kernel_rfl) rfl #[.agg #[.int .i64 a0_0, .slice A0_1 l0_1.length c0_1], .int .i64 1048576] rfl (by (try simp only [List.map_toArray, List.map_cons, List.map_nil]); first | done | rfl) ?_; (with_reducible refine (laws_szGraph.calls k a0_0 _ _ l0_1 1048576 t583 _ ?side1 ?side2 A3.out).mono ?_); (case side1 => exact (Kd.C_below HR0_1.out HB.out)); (case side2 => exact HC0_1.out); rintro e w36 ⟨rfl, hb⟩; refine ⟨_, rfl, ?_⟩; have n0_ := Aside0.mk (blk_below (g := gb582) (o := .cells #[.int .i64 a0_0, .slice A0_1 l0_1.length c0_1] 24 (0, 0)) (by (with_reducible repeat (first | refine blk_drewN ?_ _ | refine blk_drew ?_ | refine blk_alloc ?_ _)); exact BK582.out) hb); have n1_ := Aside0.mk (below_step HB.out hb); have n2_ := Aside0.mk (hb.size); clear BK582; clear HB; have BK582 := n0_; have HB := n1_; have Zw36 := n2_; clear n0_ n1_ n2_; (try clear hb); (try clear hkp); (try clear hd_); have hcz37_0 : w36.cell? ⟨gb582, 0, none⟩ = some (.int .i64 a0_0) := (blk_cell BK582.out 0).trans rfl; have hcz37_1 : w36.cell? ⟨gb582, 1, none⟩ = some (.slice A0_1 l0_1.length c0_1) := (blk_cell BK582.out 1).trans rfl; have hfz37_0 := blk_frozen BK582.out 0; have hfz37_1 := blk_frozen BK582.out 1) | ((with_reducible refine gate_callee (f := 12) rfl ?_); refine goesL_ (some 23) rfl rfl Try.func12 (by kernel_rfl) rfl #[.agg #[.int .i64 a0_0, .slice A0_1 l0_1.length c0_1]] rfl (by (try simp only [List.map_toArray, List.map_cons, List.map_nil]); first | done | rfl) ?_; (with_reducible refine (laws_toGraph.calls k a0_0 _ _ l0_1 t584 t585 _ ?side1 ?side2 A8.out).mono ?_); (case side1 => exact (Kd.C_below HR0_1.out HB.out)); (case side2 => exact HC0_1.out); rintro e w38 ⟨v586, rfl, ho0, hb⟩; refine ⟨_, rfl, ?_⟩; have n0_ := Aside0.mk (blk_below (g := gb582) (o := .cells #[.int .i64 a0_0, .slice A0_1 l0_1.length c0_1] 24 (0, 0)) (by (with_reducible repeat (first | refine blk_drewN ?_ _ | refine blk_drew ?_ | refine blk_alloc ?_ _)); exact BK582.out) hb); have n1_ := Aside0.mk (Kd.S_lower (Kd.S_mono (Kd.S_bound ho0) (fun k_ hk_ => (⟨hk_.2.1, hk_.2.2.1⟩ : w36.heap.size ≤ k_ ∧ k_ < w38.heap.size))) HB.out.size); have n2_ := Aside0.mk (below_step HB.out hb); have n3_ := Aside0.mk (hb.size); clear BK582; clear HB; have BK582 := n0_; have HO587 := n1_; have HB := n2_; have Zw38 := n3_; clear n0_ n1_ n2_ n3_; (try clear hb); (try clear hkp); (try clear hd_); (try clear ho0); obtain ⟨Ao39, co39, eo39⟩ := Kd.S_slice HO587.out; subst eo39) | ((with_reducible refine gate_callee (f := 22) rfl ?_); refine goesL_ (some 25) rfl rfl Try.func22 (by kernel_rfl) rfl #[.agg #[.int .i64 t584, .slice Ao39 t585.length co39], .int .i64 a1] rfl (by (try simp only [List.map_toArray, List.map_cons, List.map_nil]); first | done | rfl) ?_; (with_reducible refine (spec_ZetaSeries.calls k t584 _ _ t585 a1 t588 t591 _ ?side1 ?side2 A9.out).mono ?_); (case side1 => exact (Kd.S_reads' HO587.out).2.2); (case side2 => (have e_ := Kd.S_reads' HO587.out; have e1_ := e_.1; have e2_ := e_.2.1; omega)); rintro e w40 ⟨v589, rfl, ho0, hb⟩; refine ⟨_, rfl, ?_⟩; have n0_ := Aside0.mk (blk_below (g := gb582) (o := .cells #[.int .i64 a0_0, .slice A0_1 l0_1.length c0_1] 24 (0, 0)) (by (with_reducible repeat (first | refine blk_drewN ?_ _ | refine blk_drew ?_ | refine blk_alloc ?_ _)); exact BK582.out) hb); have n1_ := Aside0.mk (Kd.S_below HO587.out hb); have n2_ := Aside0.mk (Kd.R_lower (Kd.R_mono (Kd.R_bound ho0) (fun k_ hk_ => (⟨hk_.2.1, hk_.2.2.1⟩ : w38.heap.size ≤ k_ ∧ k_ < w40.heap.size))) HB.out.size); have n3_ := Aside0.mk (below_step HB.out hb); have n4_ := Aside0.mk (hb.size); clear BK582; clear HO587; clear HB; have BK582 := n0_; have HO587 := n1_; have HO590 := n2_; have HB := n3_; have Zw40 := n4_; clear n0_ n1_ n2_ n3_ n4_; (try clear hb); (try clear hkp); (try clear hd_); (try clear ho0); obtain ⟨Ao41, co41, eo41⟩ := Kd.R_slice HO590.out; subst eo41; have hcz42_0 : w40.cell? ⟨gb582, 0, none⟩ = some (.int .i64 a0_0) := (blk_cell BK582.out 0).trans rfl; have hcz42_1 : w40.cell? ⟨gb582, 1, none⟩ = some (.slice A0_1 l0_1.length c0_1) := (blk_cell BK582.out 1).trans rfl; have hfz42_0 := blk_frozen BK582.out 0; have hfz42_1 := blk_frozen BK582.out 1) | ((with_reducible refine gate_callee (f := 12) rfl ?_); refine goesL_ (some 29) rfl rfl Try.func12 (by kernel_rfl) rfl #[.agg #[.int .i64 a0_0, .slice A0_1 l0_1.length c0_1]] rfl (by (try simp only [List.map_toArray, List.map_cons, List.map_nil]); first | done | rfl) ?_; (with_reducible refine (laws_toGraph.calls k a0_0 _ _ l0_1 t592 t593 _ ?side1 ?side2 A10.out).mono ?_); (case side1 => exact (Kd.C_below HR0_1.out HB.out)); (case side2 => exact HC0_1.out); rintro e w43 ⟨v594, rfl, ho0, hb⟩; refine ⟨_, rfl, ?_⟩; have n0_ := Aside0.mk (blk_below (g := gb582) (o := .cells #[.int .i64 a0_0, .slice A0_1 l0_1.length c0_1] 24 (0, 0)) (by (with_reducible repeat (first | refine blk_drewN ?_ _ | refine blk_drew ?_ | refine blk_alloc ?_ _)); exact BK582.out) hb); have n1_ := Aside0.mk (Kd.S_below HO587.out hb); have n2_ := Aside0.mk (Kd.R_below HO590.out hb); have n3_ := Aside0.mk (Kd.S_lower (Kd.S_mono (Kd.S_bound ho0) (fun k_ hk_ => (⟨hk_.2.1, hk_.2.2.1⟩ : w40.heap.size ≤ k_ ∧ k_ < w43.heap.size))) HB.out.size); have n4_ := Aside0.mk (below_step HB.out hb); have n5_ := Aside0.mk (hb.size); clear BK582; clear HO587; clear HO590; clear HB; have BK582 := n0_; have HO587 := n1_; have HO590 := n2_; have HO595 := n3_; have HB := n4_; have Zw43 := n5_; clear n0_ n1_ n2_ n3_ n4_ n5_; (try clear hb); (try clear hkp); (try clear hd_); (try clear ho0); obtain ⟨Ao44, co44, eo44⟩ := Kd.S_slice HO595.out; subst eo44) | ((with_reducible refine gate_dst (N := 8) rfl ?_); refine box_event ?hg (N := 8) ?hd (cs := #[.int .i64 0, .slice none 0 0]) (t := 29) ?hr ?_; (case hd => rfl); (case hg => rfl); (case hr => first | (go_simp; done) | (go_simp; rfl)); intro gb596 hg w45 hbox hb; have n0_ := Aside0.mk (Kd.S_below HO587.out hb); have n1_ := Aside0.mk (Kd.R_below HO590.out hb); have n2_ := Aside0.mk (Kd.S_below HO595.out hb); have n3_ := Aside0.mk (blk_below (g := gb582) (o := .cells #[.int .i64 a0_0, .slice A0_1 l0_1.length c0_1] 24 (0, 0)) (by (with_reducible repeat (first | refine blk_drewN ?_ _ | refine blk_drew ?_ | refine blk_alloc ?_ _)); exact BK582.out) hb); have n4_ := Aside0.mk (hb.size); have n5_ := Aside0.mk ((⟨Nat.le_of_eq hg.symm, blk_lt hbox⟩ : w43.heap.size ≤ gb596 ∧ gb596 < w45.heap.size)); have n6_ := Aside0.mk (below_step (by repeat (first | (with_reducible first | exact HB.out | apply below_alloc | apply pw_below_drewN | apply below_drew1 | refine below_set ?_ GE582.out) | exact HB.out)) hb); have n7_ := Aside0.mk (hbox); have n8_ := Aside0.mk ((by rw [hg]; exact (below_size (by repeat (first | (with_reducible first | exact HB.out | apply below_alloc | apply pw_below_drewN | apply below_drew1 | refine below_set ?_ GE582.out) | exact HB.out))) : w.heap.size ≤ gb596)); have n9_ := Aside0.mk ((by rw [hg]; exact (below_size (by repeat (first | (with_reducible first | exact HB.out | apply below_alloc | apply pw_below_drewN | apply below_drew1 | refine below_set ?_ GE582.out) | exact HB.out))) : w.heap.size ≤ gb596)); have n10_ := Aside0.mk ((by rw [hg]; exact Nat.ne_of_lt (blk_lt (g := gb582) (o := .cells #[.int .i64 a0_0, .slice A0_1 l0_1.length c0_1] 24 (0, 0)) (by (with_reducible repeat (first | refine blk_drewN ?_ _ | refine blk_drew ?_ | refine blk_alloc ?_ _)); exact BK582.out)) : gb582 ≠ gb596)); have n11_ := Aside0.mk ((by rw [hg]; exact Nat.ne_of_gt (blk_lt (g := gb582) (o := .cells #[.int .i64 a0_0, .slice A0_1 l0_1.length c0_1] 24 (0, 0)) (by (with_reducible repeat (first | refine blk_drewN ?_ _ | refine blk_drew ?_ | refine blk_alloc ?_ _)); exact BK582.out)) : gb596 ≠ gb582)); clear HO587; clear HO590; clear HO595; clear BK582; clear HB; have HO587 := n0_; have HO590 := n1_; have HO595 := n2_; have BK582 := n3_; have Zw45 := n4_; have ZB596 := n5_; have HB := n6_; have BK596 := n7_; have GW596 := n8_; have GE596 := n9_; have NB582_596 := n10_; have NB596_582 := n11_; clear n0_ n1_ n2_ n3_ n4_ n5_ n6_ n7_ n8_ n9_ n10_ n11_; clear hb hbox hg; have hnb46 := NB596_582.out; have hnc46 := NB582_596.out; have hcz47_0 : w45.cell? ⟨gb596, 0, none⟩ = some (.int .i64 0) := (blk_cell BK596.out 0).trans rfl; have hcz47_1 : w45.cell? ⟨gb596, 1, none⟩ = some (.slice none 0 0) := (blk_cell BK596.out 1).trans rfl; have hfz47_0 := blk_frozen BK596.out 0; have hfz47_1 := blk_frozen BK596.out 1) | ((with_reducible refine gate_callee (f := 23) rfl ?_); have n0_ := Aside0.mk (show ((w45.setCell ⟨gb596, 0, none⟩ (.int .i64 t592)).setCell ⟨gb596, 1, none⟩ (.slice Ao44 t593.length co44)).heap[gb582]? = some (.cells #[.int .i64 a0_0, .slice A0_1 l0_1.length c0_1] 24 (0, 0)) from (by (with_reducible repeat (first | refine blk_drewN ?_ _ | refine blk_drew ?_ | refine blk_alloc ?_ _)); refine blk_far ?_ NB582_596.out _; (with_reducible repeat (first | refine blk_drewN ?_ _ | refine blk_drew ?_ | refine blk_alloc ?_ _)); refine blk_far ?_ NB582_596.out _; (with_reducible repeat (first | refine blk_drewN ?_ _ | refine blk_drew ?_ | refine blk_alloc ?_ _)); exact BK582.out)); have n1_ := Aside0.mk (show Kd.S (Kd.slice 2 (Kd.int .i64)) 26 ((w45.setCell ⟨gb596, 0, none⟩ (.int .i64 t592)).setCell ⟨gb596, 1, none⟩ (.slice Ao44 t593.length co44)) w.heap.size (fun k_ => w36.heap.size ≤ k_ ∧ k_ < w38.heap.size) (.slice Ao39 t585.length co39) t585 from (Kd.S_far (Kd.S_far HO587.out (fun k_ ho_ => (show k_ ≠ gb596 from by have h1_ := ho_.1; have h2_ := ho_.2; have h3_ := ZB596.out.1; have h4_ := ZB596.out.2; have z0_ := Zw34.out; have z1_ := Zw36.out; have z2_ := Zw38.out; have z3_ := Zw40.out; have z4_ := Zw43.out; have z5_ := Zw45.out; omega)) _) (fun k_ ho_ => (show k_ ≠ gb596 from by have h1_ := ho_.1; have h2_ := ho_.2; have h3_ := ZB596.out.1; have h4_ := ZB596.out.2; have z0_ := Zw34.out; have z1_ := Zw36.out; have z2_ := Zw38.out; have z3_ := Zw40.out; have z4_ := Zw43.out; have z5_ := Zw45.out; omega)) _)); have n2_ := Aside0.mk (show Kd.R (Kd.int .i64) 2 ((w45.setCell ⟨gb596, 0, none⟩ (.int .i64 t592)).setCell ⟨gb596, 1, none⟩ (.slice Ao44 t593.length co44)) w.heap.size (fun k_ => w38.heap.size ≤ k_ ∧ k_ < w40.heap.size) (.slice Ao41 t588.length co41) t588 from (Kd.R_far (Kd.R_far HO590.out (fun k_ ho_ => (show k_ ≠ gb596 from by have h1_ := ho_.1; have h2_ := ho_.2; have h3_ := ZB596.out.1; have h4_ := ZB596.out.2; have z0_ := Zw34.out; have z1_ := Zw36.out; have z2_ := Zw38.out; have z3_ := Zw40.out; have z4_ := Zw43.out; have z5_ := Zw45.out; omega)) _) (fun k_ ho_ => (show k_ ≠ gb596 from by have h1_ := ho_.1; have h2_ := ho_.2; have h3_ := ZB596.out.1; have h4_ := ZB596.out.2; have z0_ := Zw34.out; have z1_ := Zw36.out; have z2_ := Zw38.out; have z3_ := Zw40.out; have z4_ := Zw43.out; have z5_ := Zw45.out; omega)) _)); have n3_ := Aside0.mk (show Kd.S (Kd.slice 2 (Kd.int .i64)) 26 ((w45.setCell ⟨gb596, 0, none⟩ (.int .i64 t592)).setCell ⟨gb596, 1, none⟩ (.slice Ao44 t593.length co44)) w.heap.size (fun k_ => w40.heap.size ≤ k_ ∧ k_ < w43.heap.size) (.slice Ao44 t593.length co44) t593 from (Kd.S_far (Kd.S_far HO595.out (fun k_ ho_ => (show k_ ≠ gb596 from by have h1_ := ho_.1; have h2_ := ho_.2; have h3_ := ZB596.out.1; have h4_ := ZB596.out.2; have z0_ := Zw34.out; have z1_ := Zw36.out; have z2_ := Zw38.out; have z3_ := Zw40.out; have z4_ := Zw43.out; have z5_ := Zw45.out; omega)) _) (fun k_ ho_ => (show k_ ≠ gb596 from by have h1_ := ho_.1; have h2_ := ho_.2; have h3_ := ZB596.out.1; have h4_ := ZB596.out.2; have z0_ := Zw34.out; have z1_ := Zw36.out; have z2_ := Zw38.out; have z3_ := Zw40.out; have z4_ := Zw43.out; have z5_ := Zw45.out; omega)) _)); have n4_ := Aside0.mk (show ((w45.setCell ⟨gb596, 0, none⟩ (.int .i64 t592)).setCell ⟨gb596, 1, none⟩ (.slice Ao44 t593.length co44)).heap[gb596]? = some (.cells #[.int .i64 t592, .slice Ao44 t593.length co44] 29 (0, 0)) from (by (with_reducible repeat (first | refine blk_drewN ?_ _ | refine blk_drew ?_ | refine blk_alloc ?_ _)); refine blk_put (cs := #[.int .i64 t592, .slice none 0 0]) ?_ 1 _ rfl; (with_reducible repeat (first | refine blk_drewN ?_ _ | refine blk_drew ?_ | refine blk_alloc ?_ _)); refine blk_put (cs := #[.int .i64 0, .slice none 0 0]) ?_ 0 _ rfl; (with_reducible repeat (first | refine blk_drewN ?_ _ | refine blk_drew ?_ | refine blk_alloc ?_ _)); exact BK596.out)); have n5_ := Aside0.mk (show Below w.heap.size w ((w45.setCell ⟨gb596, 0, none⟩ (.int .i64 t592)).setCell ⟨gb596, 1, none⟩ (.slice Ao44 t593.length co44)) from (below_set (below_set HB.out GE596.out) GE596.out)); have n6_ := Aside0.mk (show w45.heap.size ≤ ((w45.setCell ⟨gb596, 0, none⟩ (.int .i64 t592)).setCell ⟨gb596, 1, none⟩ (.slice Ao44 t593.length co44)).heap.size from (Kept.setCell (Kept.setCell (Kept.refl w45 (fun _ => True)) (.inl trivial) _) (.inl trivial) _).1); clear BK582; clear HO587; clear HO590; clear HO595; clear BK596; clear HB; generalize hW_ : ((w45.setCell ⟨gb596, 0, none⟩ (.int .i64 t592)).setCell ⟨gb596, 1, none⟩ (.slice Ao44 t593.length co44)) = w48 at n0_ n1_ n2_ n3_ n4_ n5_ n6_ ⊢; clear hW_; have BK582 := n0_; have HO587 := n1_; have HO590 := n2_; have HO595 := n3_; have BK596 := n4_; have HB := n5_; have Zw48 := n6_; clear n0_ n1_ n2_ n3_ n4_ n5_ n6_; refine goesL_ (some 33) rfl rfl Try.func23 (by kernel_rfl) rfl #[.agg #[.int .i64 t592, .slice Ao44 t593.length co44], .int .i64 a1] rfl (by (try simp only [List.map_toArray, List.map_cons, List.map_nil]); first | done | rfl) ?_; (with_reducible refine (impl_ZetaSeries.calls k t592 _ _ t593 a1 t597 t600 _ ?side1 ?side2 A11.out).mono ?_); (case side1 => exact (Kd.S_reads' HO595.out).2.2); (case side2 => (have e_ := Kd.S_reads' HO595.out; have e1_ := e_.1; have e2_ := e_.2.1; omega)); rintro e w49 ⟨v598, rfl, ho0, hb⟩; refine ⟨_, rfl, ?_⟩; have n0_ := Aside0.mk (blk_below (g := gb582) (o := .cells #[.int .i64 a0_0, .slice A0_1 l0_1.length c0_1] 24 (0, 0)) (by (with_reducible repeat (first | refine blk_drewN ?_ _ | refine blk_drew ?_ | refine blk_alloc ?_ _)); exact BK582.out) hb); have n1_ := Aside0.mk (Kd.S_below HO587.out hb); have n2_ := Aside0.mk (Kd.R_below HO590.out hb); have n3_ := Aside0.mk (Kd.S_below HO595.out hb); have n4_ := Aside0.mk (blk_below (g := gb596) (o := .cells #[.int .i64 t592, .slice Ao44 t593.length co44] 29 (0, 0)) (by (with_reducible repeat (first | refine blk_drewN ?_ _ | refine blk_drew ?_ | refine blk_alloc ?_ _)); exact BK596.out) hb); have n5_ := Aside0.mk (Kd.R_lower (Kd.R_mono (Kd.R_bound ho0) (fun k_ hk_ => (⟨hk_.2.1, hk_.2.2.1⟩ : w48.heap.size ≤ k_ ∧ k_ < w49.heap.size))) HB.out.size); have n6_ := Aside0.mk (below_step HB.out hb); have n7_ := Aside0.mk (hb.size); clear BK582; clear HO587; clear HO590; clear HO595; clear BK596; clear HB; have BK582 := n0_; have HO587 := n1_; have HO590 := n2_; have HO595 := n3_; have BK596 := n4_; have HO599 := n5_; have HB := n6_; have Zw49 := n7_; clear n0_ n1_ n2_ n3_ n4_ n5_ n6_ n7_; (try clear hb); (try clear hkp); (try clear hd_); (try clear ho0); obtain ⟨Ao50, co50, eo50⟩ := Kd.R_slice HO599.out; subst eo50) | ((with_reducible refine gate_callee (f := 14) rfl ?_); refine goesL_ (some 38) rfl rfl Try.func14 (by kernel_rfl) rfl #[.slice Ao50 t597.length co50, .slice Ao41 t588.length co41] rfl (by (try simp only [List.map_toArray, List.map_cons, List.map_nil]); first | done | rfl) ?_; (with_reducible refine (laws_eqInt64S.calls k _ _ t597 _ _ t588 true _ ?side1 ?side2 ?side3 ?side4 A12.out).mono ?_); (case side1 => exact (Kd.R_reads' HO599.out).2.2); (case side2 => (have e_ := Kd.R_reads' HO599.out; have e1_ := e_.1; have e2_ := e_.2.1; omega)); (case side3 => exact (Kd.R_reads' HO590.out).2.2); (case side4 => (have e_ := Kd.R_reads' HO590.out; have e1_ := e_.1; have e2_ := e_.2.1; omega)); rintro e w51 ⟨rfl, hd_⟩; refine ⟨_, rfl, ?_⟩; have hb := hd_.below; have n0_ := Aside0.mk (blk_below (g := gb582) (o := .cells #[.int .i64 a0_0, .slice A0_1 l0_1.length c0_1] 24 (0, 0)) (by (with_reducible repeat (first | refine blk_drewN ?_ _ | refine blk_drew ?_ | refine blk_alloc ?_ _)); exact BK582.out) hb); have n1_ := Aside0.mk (Kd.S_below HO587.out hb); have n2_ := Aside0.mk (Kd.R_below HO590.out hb); have n3_ := Aside0.mk (Kd.S_below HO595.out hb); have n4_ := Aside0.mk (blk_below (g := gb596) (o := .cells #[.int .i64 t592, .slice Ao44 t593.length co44] 29 (0, 0)) (by (with_reducible repeat (first | refine blk_drewN ?_ _ | refine blk_drew ?_ | refine blk_alloc ?_ _)); exact BK596.out) hb); have n5_ := Aside0.mk (Kd.R_below HO599.out hb); have n6_ := Aside0.mk (below_step HB.out hb); have n7_ := Aside0.mk (hb.size); clear BK582; clear HO587; clear HO590; clear HO595; clear BK596; clear HO599; clear HB; have BK582 := n0_; have HO587 := n1_; have HO590 := n2_; have HO595 := n3_; have BK596 := n4_; have HO599 := n5_; have HB := n6_; have Zw51 := n7_; clear n0_ n1_ n2_ n3_ n4_ n5_ n6_ n7_; (try clear hb); (try clear hkp); (try clear hd_)))
             have n0_ := Aside0.mk ((show w51.heap.size ≤ w51.drew.heap.size from Nat.le_refl _))
             have n1_ := Aside0.mk (Kd.S_drew HO587.out)
             have n2_ := Aside0.mk (Kd.R_drew HO590.out)
             have n3_ := Aside0.mk (Kd.S_drew HO595.out)
             have n4_ := Aside0.mk (Kd.R_drew HO599.out)
             have n5_ := Aside0.mk (blk_drew BK582.out)
             have n6_ := Aside0.mk (blk_drew BK596.out)
             have n7_ := Aside0.mk (below_drew1 HB.out)
             clear HO587
             clear HO590
             clear HO595
             clear HO599
             clear BK582
             clear BK596
             clear HB
             have Zw52 := n0_
             have HO587 := n1_
             have HO590 := n2_
             have HO595 := n3_
             have HO599 := n4_
             have BK582 := n5_
             have BK596 := n6_
             have HB := n7_
             clear n0_ n1_ n2_ n3_ n4_ n5_ n6_ n7_
             refine start_ (n := 5) (S := fun w' => w'.cell? ⟨gb596, 0, none⟩ = some (.int .i64 t592) ∧ w'.cell? ⟨gb596, 1, none⟩ = some (.slice Ao44 t593.length co44) ∧ w'.cell? ⟨gb582, 0, none⟩ = some (.int .i64 a0_0) ∧ w'.cell? ⟨gb582, 1, none⟩ = some (.slice A0_1 l0_1.length c0_1)) (ds := []) #[false, false, false, false, false] (by kernel_rfl) rfl rfl ⟨(blk_cell BK596.out 0).trans rfl, (blk_cell BK596.out 1).trans rfl, (blk_cell BK582.out 0).trans rfl, (blk_cell BK582.out 1).trans rfl⟩ (fun hHeld => ?_)
             generalize w51.drew = w52 at HO587 HO590 HO595 HO599 BK582 BK596 HB Zw52 hHeld ⊢
             refine take_ (i := 0) (N := some 45) (v := ?_) (a' := ?_) #[true, false, false, false, false] rfl rfl (by kernel_rfl) (fun _ _ _ h => h) (Or.inl ⟨by rfl, ?_⟩) hHeld ?_ ?_
             rotate_left
             ·rintro w' ⟨s0, s1, s2, s3⟩
              go_simp
              with_reducible rfl
             rotate_left
             ·simp only [Act.put, List.setIfInBounds_toArray, List.set_cons_zero, List.set_cons_succ, i64_w, i32_w]
              rfl
             refine take_ (i := 1) (N := some 46) (v := ?_) (a' := ?_) #[true, true, false, false, false] rfl rfl (by kernel_rfl) (fun _ _ _ h => h) (Or.inl ⟨by rfl, ?_⟩) hHeld ?_ ?_
             rotate_left
             ·rintro w' ⟨s0, s1, s2, s3⟩
              go_simp
              with_reducible rfl
             rotate_left
             ·simp only [Act.put, List.setIfInBounds_toArray, List.set_cons_zero, List.set_cons_succ, i64_w, i32_w]
              rfl
             refine one_ (i := 2) (N := some 47) #[true, true, true, false, false] rfl rfl (by kernel_rfl) (by decide) (fun K hK => ?_)
             refine goes_ Try.func12 (by kernel_rfl) rfl #[.agg #[.int .i64 a0_0, .slice A0_1 l0_1.length c0_1]] (by rfl) rfl rfl (by (try simp only [List.map_toArray, List.map_cons, List.map_nil]); first | done | rfl | (simp only [List.length_drop, List.length_take]; rfl)) ?_
             with_reducible refine (laws_toGraph.calls k a0_0 _ _ l0_1 t602 t603 _ ?side1 ?side2 A15.out).mono ?_
             (case side1 => exact (Kd.C_below HR0_1.out HB.out))
             (case side2 => exact HC0_1.out)
             rintro e w53 ⟨v604, rfl, ho0, hb⟩
             refine ⟨_, rfl, ?_⟩
             have n0_ := Aside0.mk (blk_below (g := gb582) (o := .cells #[.int .i64 a0_0, .slice A0_1 l0_1.length c0_1] 24 (0, 0)) (by (with_reducible repeat (first | refine blk_drewN ?_ _ | refine blk_drew ?_ | refine blk_alloc ?_ _)); exact BK582.out) hb)
             have n1_ := Aside0.mk (Kd.S_below HO587.out hb)
             have n2_ := Aside0.mk (Kd.R_below HO590.out hb)
             have n3_ := Aside0.mk (Kd.S_below HO595.out hb)
             have n4_ := Aside0.mk (blk_below (g := gb596) (o := .cells #[.int .i64 t592, .slice Ao44 t593.length co44] 29 (0, 0)) (by (with_reducible repeat (first | refine blk_drewN ?_ _ | refine blk_drew ?_ | refine blk_alloc ?_ _)); exact BK596.out) hb)
             have n5_ := Aside0.mk (Kd.R_below HO599.out hb)
             have n6_ := Aside0.mk (Kd.S_lower (Kd.S_mono (Kd.S_bound ho0) (fun k_ hk_ => (⟨hk_.2.1, hk_.2.2.1⟩ : w52.heap.size ≤ k_ ∧ k_ < w53.heap.size))) HB.out.size)
             have n7_ := Aside0.mk (below_step HB.out hb)
             have n8_ := Aside0.mk (hb.size)
             clear BK582
             clear HO587
             clear HO590
             clear HO595
             clear BK596
             clear HO599
             clear HB
             have BK582 := n0_
             have HO587 := n1_
             have HO590 := n2_
             have HO595 := n3_
             have BK596 := n4_
             have HO599 := n5_
             have HO605 := n6_
             have HB := n7_
             have Zw53 := n8_
             clear n0_ n1_ n2_ n3_ n4_ n5_ n6_ n7_ n8_
             (try clear hb)
             (try clear hkp)
             (try clear hd_)
             (try clear ho0)
             obtain ⟨Ao54, co54, eo54⟩ := Kd.S_slice HO605.out
             subst eo54
             refine hK.out _ _ ⟨(blk_cell BK596.out 0).trans rfl, (blk_cell BK596.out 1).trans rfl, (blk_cell BK582.out 0).trans rfl, (blk_cell BK582.out 1).trans rfl⟩ (fun hHeld => ?_)
             clear hK K
             refine norm_ (a' := ?_) ?_ ?_
             rotate_left
             ·show Act.put _ (some 47) _ = _
              simp only [Act.put, List.setIfInBounds_toArray, List.set_cons_zero, List.set_cons_succ, i64_w, i32_w]
              rfl
             refine one_ (i := 3) (N := some 48) #[true, true, true, true, false] rfl rfl (by kernel_rfl) (by decide) (fun K hK => ?_)
             refine goes_ Try.func15 (by kernel_rfl) rfl #[.agg #[.int .i64 t592, .slice Ao44 t593.length co44], .agg #[.int .i64 t602, .slice Ao54 t603.length co54]] (by rfl) rfl rfl (by (try simp only [List.map_toArray, List.map_cons, List.map_nil]); first | done | rfl | (simp only [List.length_drop, List.length_take]; rfl)) ?_
             with_reducible refine (laws_eqGraph.calls k t592 _ _ t593 t602 _ _ t603 true _ ?side1 ?side2 ?side3 ?side4 A16.out).mono ?_
             (case side1 => exact (Kd.S_reads' HO595.out).2.2)
             (case side2 => (have e_ := Kd.S_reads' HO595.out; have e1_ := e_.1; have e2_ := e_.2.1; omega))
             (case side3 => exact (Kd.S_reads' HO605.out).2.2)
             (case side4 => (have e_ := Kd.S_reads' HO605.out; have e1_ := e_.1; have e2_ := e_.2.1; omega))
             rintro e w55 ⟨rfl, hb⟩
             refine ⟨_, rfl, ?_⟩
             have n0_ := Aside0.mk (blk_below (g := gb582) (o := .cells #[.int .i64 a0_0, .slice A0_1 l0_1.length c0_1] 24 (0, 0)) (by (with_reducible repeat (first | refine blk_drewN ?_ _ | refine blk_drew ?_ | refine blk_alloc ?_ _)); exact BK582.out) hb)
             have n1_ := Aside0.mk (Kd.S_below HO587.out hb)
             have n2_ := Aside0.mk (Kd.R_below HO590.out hb)
             have n3_ := Aside0.mk (Kd.S_below HO595.out hb)
             have n4_ := Aside0.mk (blk_below (g := gb596) (o := .cells #[.int .i64 t592, .slice Ao44 t593.length co44] 29 (0, 0)) (by (with_reducible repeat (first | refine blk_drewN ?_ _ | refine blk_drew ?_ | refine blk_alloc ?_ _)); exact BK596.out) hb)
             have n5_ := Aside0.mk (Kd.R_below HO599.out hb)
             have n6_ := Aside0.mk (Kd.S_below HO605.out hb)
             have n7_ := Aside0.mk (below_step HB.out hb)
             have n8_ := Aside0.mk (hb.size)
             clear BK582
             clear HO587
             clear HO590
             clear HO595
             clear BK596
             clear HO599
             clear HO605
             clear HB
             have BK582 := n0_
             have HO587 := n1_
             have HO590 := n2_
             have HO595 := n3_
             have BK596 := n4_
             have HO599 := n5_
             have HO605 := n6_
             have HB := n7_
             have Zw55 := n8_
             clear n0_ n1_ n2_ n3_ n4_ n5_ n6_ n7_ n8_
             (try clear hb)
             (try clear hkp)
             (try clear hd_)
             refine hK.out _ _ ⟨(blk_cell BK596.out 0).trans rfl, (blk_cell BK596.out 1).trans rfl, (blk_cell BK582.out 0).trans rfl, (blk_cell BK582.out 1).trans rfl⟩ (fun hHeld => ?_)
             clear hK K
             refine norm_ (a' := ?_) ?_ ?_
             rotate_left
             ·show Act.put _ (some 48) _ = _
              simp only [Act.put, List.setIfInBounds_toArray, List.set_cons_zero, List.set_cons_succ, i64_w, i32_w]
              rfl
             refine pure_ (i := 4) (N := some 49) (v := ?_) (a' := ?_) #[true, true, true, true, true] rfl rfl (by kernel_rfl) (fun _ _ _ h => h) (Or.inl ⟨by rfl, ?_⟩) ?_ ?_
             rotate_left
             ·intro w'
              go_simp
              with_reducible rfl
             rotate_left
             ·simp only [Act.put, List.setIfInBounds_toArray, List.set_cons_zero, List.set_cons_succ, i64_w, i32_w]
              rfl
             refine done_ (by kernel_rfl) ?_
             have hcz56_0 : w55.cell? ⟨gb596, 0, none⟩ = some (.int .i64 t592) := (blk_cell BK596.out 0).trans rfl
             have hcz56_1 : w55.cell? ⟨gb596, 1, none⟩ = some (.slice Ao44 t593.length co44) := (blk_cell BK596.out 1).trans rfl
             have hfz56_0 := blk_frozen BK596.out 0
             have hfz56_1 := blk_frozen BK596.out 1
             try go_wp2_with (first | ((with_reducible refine gate_callee (f := 16) rfl ?_); refine goesL_ (some 52) rfl rfl Try.func16 (by kernel_rfl) rfl #[.agg #[.int .i64 t592, .slice Ao44 t593.length co44], .int .i64 1] rfl (by (try simp only [List.map_toArray, List.map_cons, List.map_nil]); first | done | rfl) ?_; (with_reducible refine (laws_markGraph.calls k t592 (fun k_ => w40.heap.size ≤ k_ ∧ k_ < w43.heap.size) (.slice Ao44 t593.length co44) t593 1 t607 t608 w _ ?side1 ?side2 A18.out).mono ?_); (case side1 => exact HB.out); (case side2 => exact HO595.out); rintro e w57 ⟨rfl, hy0, hb, hkp⟩; refine ⟨_, rfl, ?_⟩; have n0_ := Aside0.mk (blk_kept (by (with_reducible repeat (first | refine blk_drewN ?_ _ | refine blk_drew ?_ | refine blk_alloc ?_ _)); exact BK582.out) hkp (fun hs_ => by have h1_ := ZB582.out.1; have h2_ := ZB582.out.2; have z0_ := Zw34.out; have z1_ := Zw36.out; have z2_ := Zw38.out; have z3_ := Zw40.out; have z4_ := Zw43.out; have z5_ := Zw45.out; have z6_ := Zw48.out; have z7_ := Zw49.out; have z8_ := Zw51.out; have z9_ := Zw52.out; have z10_ := Zw53.out; have z11_ := Zw55.out; have h3_ := hs_.1; have h4_ := hs_.2; omega)); have n1_ := Aside0.mk (Kd.S_step HO587.out (fun k_ ho_ hl_ => hkp.2 k_ hl_ (fun hs_ => by have h1_ := ho_.1; have h2_ := ho_.2; have z0_ := Zw34.out; have z1_ := Zw36.out; have z2_ := Zw38.out; have z3_ := Zw40.out; have z4_ := Zw43.out; have z5_ := Zw45.out; have z6_ := Zw48.out; have z7_ := Zw49.out; have z8_ := Zw51.out; have z9_ := Zw52.out; have z10_ := Zw53.out; have z11_ := Zw55.out; have h3_ := hs_.1; have h4_ := hs_.2; omega))); have n2_ := Aside0.mk (Kd.R_step HO590.out (fun k_ ho_ hl_ => hkp.2 k_ hl_ (fun hs_ => by have h1_ := ho_.1; have h2_ := ho_.2; have z0_ := Zw34.out; have z1_ := Zw36.out; have z2_ := Zw38.out; have z3_ := Zw40.out; have z4_ := Zw43.out; have z5_ := Zw45.out; have z6_ := Zw48.out; have z7_ := Zw49.out; have z8_ := Zw51.out; have z9_ := Zw52.out; have z10_ := Zw53.out; have z11_ := Zw55.out; have h3_ := hs_.1; have h4_ := hs_.2; omega))); have n3_ := Aside0.mk (hy0); have n4_ := Aside0.mk (blk_kept (by (with_reducible repeat (first | refine blk_drewN ?_ _ | refine blk_drew ?_ | refine blk_alloc ?_ _)); exact BK596.out) hkp (fun hs_ => by have h1_ := ZB596.out.1; have h2_ := ZB596.out.2; have z0_ := Zw34.out; have z1_ := Zw36.out; have z2_ := Zw38.out; have z3_ := Zw40.out; have z4_ := Zw43.out; have z5_ := Zw45.out; have z6_ := Zw48.out; have z7_ := Zw49.out; have z8_ := Zw51.out; have z9_ := Zw52.out; have z10_ := Zw53.out; have z11_ := Zw55.out; have h3_ := hs_.1; have h4_ := hs_.2; omega)); have n5_ := Aside0.mk (Kd.R_step HO599.out (fun k_ ho_ hl_ => hkp.2 k_ hl_ (fun hs_ => by have h1_ := ho_.1; have h2_ := ho_.2; have z0_ := Zw34.out; have z1_ := Zw36.out; have z2_ := Zw38.out; have z3_ := Zw40.out; have z4_ := Zw43.out; have z5_ := Zw45.out; have z6_ := Zw48.out; have z7_ := Zw49.out; have z8_ := Zw51.out; have z9_ := Zw52.out; have z10_ := Zw53.out; have z11_ := Zw55.out; have h3_ := hs_.1; have h4_ := hs_.2; omega))); have n6_ := Aside0.mk (Kd.S_step HO605.out (fun k_ ho_ hl_ => hkp.2 k_ hl_ (fun hs_ => by have h1_ := ho_.1; have h2_ := ho_.2; have z0_ := Zw34.out; have z1_ := Zw36.out; have z2_ := Zw38.out; have z3_ := Zw40.out; have z4_ := Zw43.out; have z5_ := Zw45.out; have z6_ := Zw48.out; have z7_ := Zw49.out; have z8_ := Zw51.out; have z9_ := Zw52.out; have z10_ := Zw53.out; have z11_ := Zw55.out; have h3_ := hs_.1; have h4_ := hs_.2; omega))); have n7_ := Aside0.mk (hb); have n8_ := Aside0.mk (hkp.1); clear BK582; clear HO587; clear HO590; clear HO595; clear BK596; clear HO599; clear HO605; clear HB; have BK582 := n0_; have HO587 := n1_; have HO590 := n2_; have HO595 := n3_; have BK596 := n4_; have HO599 := n5_; have HO605 := n6_; have HB := n7_; have Zw57 := n8_; clear n0_ n1_ n2_ n3_ n4_ n5_ n6_ n7_ n8_; (try clear hb); (try clear hkp); (try clear hd_); (try clear hy0)) | (go_at_call 14; (with_reducible refine (laws_eqInt64S.calls k _ _ t597 _ _ t588 true _ ?side1 ?side2 ?side3 ?side4 A20.out).mono ?_); (case side1 => exact (Kd.R_reads' HO599.out).2.2); (case side2 => (have e_ := Kd.R_reads' HO599.out; have e1_ := e_.1; have e2_ := e_.2.1; omega)); (case side3 => exact (Kd.R_reads' HO590.out).2.2); (case side4 => (have e_ := Kd.R_reads' HO590.out; have e1_ := e_.1; have e2_ := e_.2.1; omega)); rintro e w58 ⟨rfl, hd_⟩; have hb := hd_.below; have n0_ := Aside0.mk (blk_below (g := gb582) (o := .cells #[.int .i64 a0_0, .slice A0_1 l0_1.length c0_1] 24 (0, 0)) (by (with_reducible repeat (first | refine blk_drewN ?_ _ | refine blk_drew ?_ | refine blk_alloc ?_ _)); exact BK582.out) hb); have n1_ := Aside0.mk (Kd.S_below HO587.out hb); have n2_ := Aside0.mk (Kd.R_below HO590.out hb); have n3_ := Aside0.mk (Kd.S_below HO595.out hb); have n4_ := Aside0.mk (blk_below (g := gb596) (o := .cells #[.int .i64 t592, .slice Ao44 t593.length co44] 29 (0, 0)) (by (with_reducible repeat (first | refine blk_drewN ?_ _ | refine blk_drew ?_ | refine blk_alloc ?_ _)); exact BK596.out) hb); have n5_ := Aside0.mk (Kd.R_below HO599.out hb); have n6_ := Aside0.mk (Kd.S_below HO605.out hb); have n7_ := Aside0.mk (below_step HB.out hb); have n8_ := Aside0.mk (hb.size); clear BK582; clear HO587; clear HO590; clear HO595; clear BK596; clear HO599; clear HO605; clear HB; have BK582 := n0_; have HO587 := n1_; have HO590 := n2_; have HO595 := n3_; have BK596 := n4_; have HO599 := n5_; have HO605 := n6_; have HB := n7_; have Zw58 := n8_; clear n0_ n1_ n2_ n3_ n4_ n5_ n6_ n7_ n8_; (try clear hb); (try clear hkp); (try clear hd_)) | ((with_reducible refine gate_callee (f := 17) rfl ?_); refine goesL_ (some 68) rfl rfl Try.func17 (by kernel_rfl) rfl #[.slice Ao50 t597.length co50, .int .i64 1] rfl (by (try simp only [List.map_toArray, List.map_cons, List.map_nil]); first | done | rfl) ?_; (with_reducible refine (laws_markInt64S.calls k (fun k_ => w48.heap.size ≤ k_ ∧ k_ < w49.heap.size) (.slice Ao50 t597.length co50) t597 1 t610 t611 w _ ?side1 ?side2 A22.out).mono ?_); (case side1 => exact HB.out); (case side2 => exact HO599.out); rintro e w59 ⟨rfl, hy0, hb, hkp⟩; refine ⟨_, rfl, ?_⟩; have n0_ := Aside0.mk (blk_kept (by (with_reducible repeat (first | refine blk_drewN ?_ _ | refine blk_drew ?_ | refine blk_alloc ?_ _)); exact BK582.out) hkp (fun hs_ => by have h1_ := ZB582.out.1; have h2_ := ZB582.out.2; have z0_ := Zw34.out; have z1_ := Zw36.out; have z2_ := Zw38.out; have z3_ := Zw40.out; have z4_ := Zw43.out; have z5_ := Zw45.out; have z6_ := Zw48.out; have z7_ := Zw49.out; have z8_ := Zw51.out; have z9_ := Zw52.out; have z10_ := Zw53.out; have z11_ := Zw55.out; have z12_ := Zw57.out; have z13_ := Zw58.out; have h3_ := hs_.1; have h4_ := hs_.2; omega)); have n1_ := Aside0.mk (Kd.S_step HO587.out (fun k_ ho_ hl_ => hkp.2 k_ hl_ (fun hs_ => by have h1_ := ho_.1; have h2_ := ho_.2; have z0_ := Zw34.out; have z1_ := Zw36.out; have z2_ := Zw38.out; have z3_ := Zw40.out; have z4_ := Zw43.out; have z5_ := Zw45.out; have z6_ := Zw48.out; have z7_ := Zw49.out; have z8_ := Zw51.out; have z9_ := Zw52.out; have z10_ := Zw53.out; have z11_ := Zw55.out; have z12_ := Zw57.out; have z13_ := Zw58.out; have h3_ := hs_.1; have h4_ := hs_.2; omega))); have n2_ := Aside0.mk (Kd.R_step HO590.out (fun k_ ho_ hl_ => hkp.2 k_ hl_ (fun hs_ => by have h1_ := ho_.1; have h2_ := ho_.2; have z0_ := Zw34.out; have z1_ := Zw36.out; have z2_ := Zw38.out; have z3_ := Zw40.out; have z4_ := Zw43.out; have z5_ := Zw45.out; have z6_ := Zw48.out; have z7_ := Zw49.out; have z8_ := Zw51.out; have z9_ := Zw52.out; have z10_ := Zw53.out; have z11_ := Zw55.out; have z12_ := Zw57.out; have z13_ := Zw58.out; have h3_ := hs_.1; have h4_ := hs_.2; omega))); have n3_ := Aside0.mk (Kd.S_step HO595.out (fun k_ ho_ hl_ => hkp.2 k_ hl_ (fun hs_ => by have h1_ := ho_.1; have h2_ := ho_.2; have z0_ := Zw34.out; have z1_ := Zw36.out; have z2_ := Zw38.out; have z3_ := Zw40.out; have z4_ := Zw43.out; have z5_ := Zw45.out; have z6_ := Zw48.out; have z7_ := Zw49.out; have z8_ := Zw51.out; have z9_ := Zw52.out; have z10_ := Zw53.out; have z11_ := Zw55.out; have z12_ := Zw57.out; have z13_ := Zw58.out; have h3_ := hs_.1; have h4_ := hs_.2; omega))); have n4_ := Aside0.mk (blk_kept (by (with_reducible repeat (first | refine blk_drewN ?_ _ | refine blk_drew ?_ | refine blk_alloc ?_ _)); exact BK596.out) hkp (fun hs_ => by have h1_ := ZB596.out.1; have h2_ := ZB596.out.2; have z0_ := Zw34.out; have z1_ := Zw36.out; have z2_ := Zw38.out; have z3_ := Zw40.out; have z4_ := Zw43.out; have z5_ := Zw45.out; have z6_ := Zw48.out; have z7_ := Zw49.out; have z8_ := Zw51.out; have z9_ := Zw52.out; have z10_ := Zw53.out; have z11_ := Zw55.out; have z12_ := Zw57.out; have z13_ := Zw58.out; have h3_ := hs_.1; have h4_ := hs_.2; omega)); have n5_ := Aside0.mk (Kd.R_reok rfl hy0 (fun k_ e_ => HO599.out.1 k_ e_)); have n6_ := Aside0.mk (Kd.S_step HO605.out (fun k_ ho_ hl_ => hkp.2 k_ hl_ (fun hs_ => by have h1_ := ho_.1; have h2_ := ho_.2; have z0_ := Zw34.out; have z1_ := Zw36.out; have z2_ := Zw38.out; have z3_ := Zw40.out; have z4_ := Zw43.out; have z5_ := Zw45.out; have z6_ := Zw48.out; have z7_ := Zw49.out; have z8_ := Zw51.out; have z9_ := Zw52.out; have z10_ := Zw53.out; have z11_ := Zw55.out; have z12_ := Zw57.out; have z13_ := Zw58.out; have h3_ := hs_.1; have h4_ := hs_.2; omega))); have n7_ := Aside0.mk (hb); have n8_ := Aside0.mk (hkp.1); clear BK582; clear HO587; clear HO590; clear HO595; clear BK596; clear HO599; clear HO605; clear HB; have BK582 := n0_; have HO587 := n1_; have HO590 := n2_; have HO595 := n3_; have BK596 := n4_; have HO599 := n5_; have HO605 := n6_; have HB := n7_; have Zw59 := n8_; clear n0_ n1_ n2_ n3_ n4_ n5_ n6_ n7_ n8_; (try clear hb); (try clear hkp); (try clear hd_); (try clear hy0)) | ((with_reducible refine gate_callee (f := 18) rfl ?_); refine goesL_ (some 71) rfl rfl Try.func18 (by kernel_rfl) rfl #[.slice Ao50 t597.length co50, .int .i64 1] rfl (by (try simp only [List.map_toArray, List.map_cons, List.map_nil]); first | done | rfl) ?_; refine calls_of_args (args' := #[.slice Ao50 t611.length co50, .int .i64 1]) (by first | rfl | (rw [show t597.length = t611.length from (Kd.R_reads' HO599.out).1] <;> rfl) | (simp only [show t597.length = t611.length from (Kd.R_reads' HO599.out).1])) ?_; (with_reducible refine (laws_heldInt64S.calls k _ _ t611 1 t612 _ ?side1 ?side2 A23.out).mono ?_); (case side1 => exact (Kd.R_reads' HO599.out).2.2); (case side2 => (have e_ := Kd.R_reads' HO599.out; have e1_ := e_.1; have e2_ := e_.2.1; omega)); rintro e w60 ⟨rfl, hd_⟩; refine ⟨_, rfl, ?_⟩; have hb := hd_.below; have n0_ := Aside0.mk (blk_below (g := gb582) (o := .cells #[.int .i64 a0_0, .slice A0_1 l0_1.length c0_1] 24 (0, 0)) (by (with_reducible repeat (first | refine blk_drewN ?_ _ | refine blk_drew ?_ | refine blk_alloc ?_ _)); exact BK582.out) hb); have n1_ := Aside0.mk (Kd.S_below HO587.out hb); have n2_ := Aside0.mk (Kd.R_below HO590.out hb); have n3_ := Aside0.mk (Kd.S_below HO595.out hb); have n4_ := Aside0.mk (blk_below (g := gb596) (o := .cells #[.int .i64 t592, .slice Ao44 t593.length co44] 29 (0, 0)) (by (with_reducible repeat (first | refine blk_drewN ?_ _ | refine blk_drew ?_ | refine blk_alloc ?_ _)); exact BK596.out) hb); have n5_ := Aside0.mk (Kd.R_below HO599.out hb); have n6_ := Aside0.mk (Kd.S_below HO605.out hb); have n7_ := Aside0.mk (below_step HB.out hb); have n8_ := Aside0.mk (hb.size); clear BK582; clear HO587; clear HO590; clear HO595; clear BK596; clear HO599; clear HO605; clear HB; have BK582 := n0_; have HO587 := n1_; have HO590 := n2_; have HO595 := n3_; have BK596 := n4_; have HO599 := n5_; have HO605 := n6_; have HB := n7_; have Zw60 := n8_; clear n0_ n1_ n2_ n3_ n4_ n5_ n6_ n7_ n8_; (try clear hb); (try clear hkp); (try clear hd_); have hcz61_0 : w60.cell? ⟨gb582, 0, none⟩ = some (.int .i64 a0_0) := (blk_cell BK582.out 0).trans rfl; have hcz61_1 : w60.cell? ⟨gb582, 1, none⟩ = some (.slice A0_1 l0_1.length c0_1) := (blk_cell BK582.out 1).trans rfl; have hfz61_0 := blk_frozen BK582.out 0; have hfz61_1 := blk_frozen BK582.out 1) | ((with_reducible refine gate_callee (f := 12) rfl ?_); refine goesL_ (some 79) rfl rfl Try.func12 (by kernel_rfl) rfl #[.agg #[.int .i64 a0_0, .slice A0_1 l0_1.length c0_1]] rfl (by (try simp only [List.map_toArray, List.map_cons, List.map_nil]); first | done | rfl) ?_; (with_reducible refine (laws_toGraph.calls k a0_0 _ _ l0_1 t613 t614 _ ?side1 ?side2 A26.out).mono ?_); (case side1 => exact (Kd.C_below HR0_1.out HB.out)); (case side2 => exact HC0_1.out); rintro e w62 ⟨v615, rfl, ho0, hb⟩; refine ⟨_, rfl, ?_⟩; have n0_ := Aside0.mk (blk_below (g := gb582) (o := .cells #[.int .i64 a0_0, .slice A0_1 l0_1.length c0_1] 24 (0, 0)) (by (with_reducible repeat (first | refine blk_drewN ?_ _ | refine blk_drew ?_ | refine blk_alloc ?_ _)); exact BK582.out) hb); have n1_ := Aside0.mk (Kd.S_below HO587.out hb); have n2_ := Aside0.mk (Kd.R_below HO590.out hb); have n3_ := Aside0.mk (Kd.S_below HO595.out hb); have n4_ := Aside0.mk (blk_below (g := gb596) (o := .cells #[.int .i64 t592, .slice Ao44 t593.length co44] 29 (0, 0)) (by (with_reducible repeat (first | refine blk_drewN ?_ _ | refine blk_drew ?_ | refine blk_alloc ?_ _)); exact BK596.out) hb); have n5_ := Aside0.mk (Kd.R_below HO599.out hb); have n6_ := Aside0.mk (Kd.S_below HO605.out hb); have n7_ := Aside0.mk (Kd.S_lower (Kd.S_mono (Kd.S_bound ho0) (fun k_ hk_ => (⟨hk_.2.1, hk_.2.2.1⟩ : w60.heap.size ≤ k_ ∧ k_ < w62.heap.size))) HB.out.size); have n8_ := Aside0.mk (below_step HB.out hb); have n9_ := Aside0.mk (hb.size); clear BK582; clear HO587; clear HO590; clear HO595; clear BK596; clear HO599; clear HO605; clear HB; have BK582 := n0_; have HO587 := n1_; have HO590 := n2_; have HO595 := n3_; have BK596 := n4_; have HO599 := n5_; have HO605 := n6_; have HO616 := n7_; have HB := n8_; have Zw62 := n9_; clear n0_ n1_ n2_ n3_ n4_ n5_ n6_ n7_ n8_ n9_; (try clear hb); (try clear hkp); (try clear hd_); (try clear ho0); obtain ⟨Ao63, co63, eo63⟩ := Kd.S_slice HO616.out; subst eo63) | ((with_reducible refine gate_callee (f := 23) rfl ?_); refine goesL_ (some 81) rfl rfl Try.func23 (by kernel_rfl) rfl #[.agg #[.int .i64 t613, .slice Ao63 t614.length co63], .int .i64 a1] rfl (by (try simp only [List.map_toArray, List.map_cons, List.map_nil]); first | done | rfl) ?_; (with_reducible refine (impl_ZetaSeries.calls k t613 _ _ t614 a1 t617 t620 _ ?side1 ?side2 A27.out).mono ?_); (case side1 => exact (Kd.S_reads' HO616.out).2.2); (case side2 => (have e_ := Kd.S_reads' HO616.out; have e1_ := e_.1; have e2_ := e_.2.1; omega)); rintro e w64 ⟨v618, rfl, ho0, hb⟩; refine ⟨_, rfl, ?_⟩; have n0_ := Aside0.mk (blk_below (g := gb582) (o := .cells #[.int .i64 a0_0, .slice A0_1 l0_1.length c0_1] 24 (0, 0)) (by (with_reducible repeat (first | refine blk_drewN ?_ _ | refine blk_drew ?_ | refine blk_alloc ?_ _)); exact BK582.out) hb); have n1_ := Aside0.mk (Kd.S_below HO587.out hb); have n2_ := Aside0.mk (Kd.R_below HO590.out hb); have n3_ := Aside0.mk (Kd.S_below HO595.out hb); have n4_ := Aside0.mk (blk_below (g := gb596) (o := .cells #[.int .i64 t592, .slice Ao44 t593.length co44] 29 (0, 0)) (by (with_reducible repeat (first | refine blk_drewN ?_ _ | refine blk_drew ?_ | refine blk_alloc ?_ _)); exact BK596.out) hb); have n5_ := Aside0.mk (Kd.R_below HO599.out hb); have n6_ := Aside0.mk (Kd.S_below HO605.out hb); have n7_ := Aside0.mk (Kd.S_below HO616.out hb); have n8_ := Aside0.mk (Kd.R_lower (Kd.R_mono (Kd.R_bound ho0) (fun k_ hk_ => (⟨hk_.2.1, hk_.2.2.1⟩ : w62.heap.size ≤ k_ ∧ k_ < w64.heap.size))) HB.out.size); have n9_ := Aside0.mk (below_step HB.out hb); have n10_ := Aside0.mk (hb.size); clear BK582; clear HO587; clear HO590; clear HO595; clear BK596; clear HO599; clear HO605; clear HO616; clear HB; have BK582 := n0_; have HO587 := n1_; have HO590 := n2_; have HO595 := n3_; have BK596 := n4_; have HO599 := n5_; have HO605 := n6_; have HO616 := n7_; have HO619 := n8_; have HB := n9_; have Zw64 := n10_; clear n0_ n1_ n2_ n3_ n4_ n5_ n6_ n7_ n8_ n9_ n10_; (try clear hb); (try clear hkp); (try clear hd_); (try clear ho0); obtain ⟨Ao65, co65, eo65⟩ := Kd.R_slice HO619.out; subst eo65) | ((with_reducible refine gate_callee (f := 14) rfl ?_); refine goesL_ (some 86) rfl rfl Try.func14 (by kernel_rfl) rfl #[.slice Ao65 t617.length co65, .slice Ao41 t588.length co41] rfl (by (try simp only [List.map_toArray, List.map_cons, List.map_nil]); first | done | rfl) ?_; (with_reducible refine (laws_eqInt64S.calls k _ _ t617 _ _ t588 true _ ?side1 ?side2 ?side3 ?side4 A28.out).mono ?_); (case side1 => exact (Kd.R_reads' HO619.out).2.2); (case side2 => (have e_ := Kd.R_reads' HO619.out; have e1_ := e_.1; have e2_ := e_.2.1; omega)); (case side3 => exact (Kd.R_reads' HO590.out).2.2); (case side4 => (have e_ := Kd.R_reads' HO590.out; have e1_ := e_.1; have e2_ := e_.2.1; omega)); rintro e w66 ⟨rfl, hd_⟩; refine ⟨_, rfl, ?_⟩; have hb := hd_.below; have n0_ := Aside0.mk (blk_below (g := gb582) (o := .cells #[.int .i64 a0_0, .slice A0_1 l0_1.length c0_1] 24 (0, 0)) (by (with_reducible repeat (first | refine blk_drewN ?_ _ | refine blk_drew ?_ | refine blk_alloc ?_ _)); exact BK582.out) hb); have n1_ := Aside0.mk (Kd.S_below HO587.out hb); have n2_ := Aside0.mk (Kd.R_below HO590.out hb); have n3_ := Aside0.mk (Kd.S_below HO595.out hb); have n4_ := Aside0.mk (blk_below (g := gb596) (o := .cells #[.int .i64 t592, .slice Ao44 t593.length co44] 29 (0, 0)) (by (with_reducible repeat (first | refine blk_drewN ?_ _ | refine blk_drew ?_ | refine blk_alloc ?_ _)); exact BK596.out) hb); have n5_ := Aside0.mk (Kd.R_below HO599.out hb); have n6_ := Aside0.mk (Kd.S_below HO605.out hb); have n7_ := Aside0.mk (Kd.S_below HO616.out hb); have n8_ := Aside0.mk (Kd.R_below HO619.out hb); have n9_ := Aside0.mk (below_step HB.out hb); have n10_ := Aside0.mk (hb.size); clear BK582; clear HO587; clear HO590; clear HO595; clear BK596; clear HO599; clear HO605; clear HO616; clear HO619; clear HB; have BK582 := n0_; have HO587 := n1_; have HO590 := n2_; have HO595 := n3_; have BK596 := n4_; have HO599 := n5_; have HO605 := n6_; have HO616 := n7_; have HO619 := n8_; have HB := n9_; have Zw66 := n10_; clear n0_ n1_ n2_ n3_ n4_ n5_ n6_ n7_ n8_ n9_ n10_; (try clear hb); (try clear hkp); (try clear hd_)) | ((with_reducible refine gate_callee (f := 18) rfl ?_); refine goesL_ (some 95) rfl rfl Try.func18 (by kernel_rfl) rfl #[.slice Ao50 t597.length co50, .int .i64 1] rfl (by (try simp only [List.map_toArray, List.map_cons, List.map_nil]); first | done | rfl) ?_; refine calls_of_args (args' := #[.slice Ao50 t611.length co50, .int .i64 1]) (by first | rfl | (rw [show t597.length = t611.length from (Kd.R_reads' HO599.out).1] <;> rfl) | (simp only [show t597.length = t611.length from (Kd.R_reads' HO599.out).1])) ?_; (with_reducible refine (laws_heldInt64S.calls k _ _ t611 1 t622 _ ?side1 ?side2 A31.out).mono ?_); (case side1 => exact (Kd.R_reads' HO599.out).2.2); (case side2 => (have e_ := Kd.R_reads' HO599.out; have e1_ := e_.1; have e2_ := e_.2.1; omega)); rintro e w67 ⟨rfl, hd_⟩; refine ⟨_, rfl, ?_⟩; have hb := hd_.below; have n0_ := Aside0.mk (blk_below (g := gb582) (o := .cells #[.int .i64 a0_0, .slice A0_1 l0_1.length c0_1] 24 (0, 0)) (by (with_reducible repeat (first | refine blk_drewN ?_ _ | refine blk_drew ?_ | refine blk_alloc ?_ _)); exact BK582.out) hb); have n1_ := Aside0.mk (Kd.S_below HO587.out hb); have n2_ := Aside0.mk (Kd.R_below HO590.out hb); have n3_ := Aside0.mk (Kd.S_below HO595.out hb); have n4_ := Aside0.mk (blk_below (g := gb596) (o := .cells #[.int .i64 t592, .slice Ao44 t593.length co44] 29 (0, 0)) (by (with_reducible repeat (first | refine blk_drewN ?_ _ | refine blk_drew ?_ | refine blk_alloc ?_ _)); exact BK596.out) hb); have n5_ := Aside0.mk (Kd.R_below HO599.out hb); have n6_ := Aside0.mk (Kd.S_below HO605.out hb); have n7_ := Aside0.mk (Kd.S_below HO616.out hb); have n8_ := Aside0.mk (Kd.R_below HO619.out hb); have n9_ := Aside0.mk (below_step HB.out hb); have n10_ := Aside0.mk (hb.size); clear BK582; clear HO587; clear HO590; clear HO595; clear BK596; clear HO599; clear HO605; clear HO616; clear HO619; clear HB; have BK582 := n0_; have HO587 := n1_; have HO590 := n2_; have HO595 := n3_; have BK596 := n4_; have HO599 := n5_; have HO605 := n6_; have HO616 := n7_; have HO619 := n8_; have HB := n9_; have Zw67 := n10_; clear n0_ n1_ n2_ n3_ n4_ n5_ n6_ n7_ n8_ n9_ n10_; (try clear hb); (try clear hkp); (try clear hd_)))
             go_ret
             exact ⟨by first | rfl | (simp [errW_none, errW_some] <;> rfl) | (simp [*, errW_none, errW_some] <;> rfl), by repeat (first | (with_reducible first | exact HB.out | apply below_alloc | apply pw_below_drewN | apply below_drew1 | refine below_set ?_ GE582.out | refine below_set ?_ GE596.out) | exact HB.out)⟩
            ·rw [if_neg c33] at H
             have c33b0 : (t622 == t610) = false := beq_eq_false_iff_ne.mpr c33
             have c33b1 : (t622 != t610) = true := bne_iff_ne.mpr c33
             exact absurd H (by simp)
          ·rw [if_neg c30] at H
           have c30b0 : (t620 == t591) = false := beq_eq_false_iff_ne.mpr c30
           have c30b1 : (t620 != t591) = true := bne_iff_ne.mpr c30
           exact absurd H (by simp)
         ·replace c29 := Bool.eq_false_iff.mpr c29
          subst c29
          have H1 : (some false) = some true := by rw [if_neg (show ¬ (false = true) by decide)] at H; exact H
          clear H
          have H := H1
          clear H1
          exact absurd H (by simp)
        ·rw [if_neg c25] at H
         have c25b0 : (t612 == t610) = false := beq_eq_false_iff_ne.mpr c25
         have c25b1 : (t612 != t610) = true := bne_iff_ne.mpr c25
         exact absurd H (by simp)
      ·replace c21 := Bool.eq_false_iff.mpr c21
       subst c21
       have H1 : (some false) = some true := by rw [if_neg (show ¬ (false = true) by decide)] at H; exact H
       clear H
       have H := H1
       clear H1
       exact absurd H (by simp)
    ·replace c17 := Bool.eq_false_iff.mpr c17
     subst c17
     have H1 : (some false) = some true := by rw [if_neg (show ¬ (false = true) by decide)] at H; exact H
     clear H
     have H := H1
     clear H1
     exact absurd H (by simp)
   ·rw [if_neg c14] at H
    have c14b0 : (t600 == t591) = false := beq_eq_false_iff_ne.mpr c14
    have c14b1 : (t600 != t591) = true := bne_iff_ne.mpr c14
    exact absurd H (by simp)
  ·replace c13 := Bool.eq_false_iff.mpr c13
   subst c13
   have H1 : (some false) = some true := by rw [if_neg (show ¬ (false = true) by decide)] at H; exact H
   clear H
   have H := H1
   clear H1
   exact absurd H (by simp)

/-- THE ONE PURE STATEMENT of laws_FnExactZetaSeries: yours. -/
def laws_FnExactZetaSeries.Pure : Prop := ∀ (a0_0 : Int) (l0_1 : List (List Int)) (a1 : Int), (Lit.int .i64 a0_0).wf = true → l0_1.length ≤ maxLen → (∀ r ∈ l0_1, r.length ≤ maxLen ∧ ∀ y ∈ r, (Lit.int .i64 y).wf = true) → (Lit.int .i64 a1).wf = true → ∃ k, laws_FnExactZetaSeries.f k a0_0 l0_1 a1 = some true
theorem laws_FnExactZetaSeries.walk (P : laws_FnExactZetaSeries.Pure) (a0_0 : Int) (A0_1 : Option Addr) (c0_1 : Nat) (l0_1 : List (List Int)) (a1 : Int) (w : World) (hw0_0 : (Lit.int .i64 a0_0).wf = true) (hm0_1 : l0_1.length ≤ maxLen) (hw0_1 : (∀ r ∈ l0_1, r.length ≤ maxLen ∧ ∀ y ∈ r, (Lit.int .i64 y).wf = true)) (hr0_1 : Kd.C (Kd.slice 2 (Kd.int .i64)) w A0_1 l0_1.length l0_1) (hc0_1 : l0_1.length ≤ c0_1) (hw1 : (Lit.int .i64 a1).wf = true) :
  Calls Try.prog 5 #[.agg #[.int .i64 a0_0, .slice A0_1 l0_1.length c0_1], .int .i64 a1] w fun e w' => e = .returned (.bool true) ∧ Below w.heap.size w w' := by
 obtain ⟨k, h⟩ := P a0_0 l0_1 a1 hw0_0 hm0_1 hw0_1 hw1
 refine (laws_FnExactZetaSeries.calls k a0_0 _ _ l0_1 a1 w hr0_1 hc0_1 h).mono ?_
 rintro e w' ⟨rfl, hd⟩
 exact ⟨rfl, hd⟩

/-! ### impl_Graph_follows: function 107 -/
def impl_Graph_follows.f (a0_0 : Int) (l0_1 : List (List Int)) (a1 : Int) (a2 : Int) : Option (Bool) := (impl_Graph_ends.f a0_0 l0_1 a1).bind fun bt733 => ((impl_Graph_ends.f a0_0 l0_1 a2).bind fun bt735 => (if bt735.1 = bt733.2 then (some (a2 != (Go.bits .xor .i64 a1 1))) else (some false)))
set_option maxHeartbeats 8000000 in
set_option maxRecDepth 100000 in
theorem impl_Graph_follows.calls (a0_0 : Int) (A0_1 : Option Addr) (c0_1 : Nat) (l0_1 : List (List Int)) (a1 : Int) (a2 : Int) (r : Bool) (w : World) (hr0_1 : Kd.C (Kd.slice 2 (Kd.int .i64)) w A0_1 l0_1.length l0_1) (hc0_1 : l0_1.length ≤ c0_1) (h : impl_Graph_follows.f a0_0 l0_1 a1 a2 = some r) :
  Calls Try.prog 107 #[.agg #[.int .i64 a0_0, .slice A0_1 l0_1.length c0_1], .int .i64 a1, .int .i64 a2] w fun e w' => e = .returned (.bool r) ∧ Below w.heap.size w w' := by
 have hu29 := Try.underlying29
 have HR0_1 := Aside0.mk hr0_1
 have HC0_1 := Aside0.mk hc0_1
 clear hr0_1 hc0_1
 have HB := Aside0.mk (Below.refl w.heap.size w)
 have H : ((impl_Graph_ends.f a0_0 l0_1 a1).bind fun bt733 => ((impl_Graph_ends.f a0_0 l0_1 a2).bind fun bt735 => (if bt735.1 = bt733.2 then (some (a2 != (Go.bits .xor .i64 a1 1))) else (some false)))) = some r := h
 clear h
 replace H := Option.bind_eq_some_iff.mp H
 obtain ⟨⟨t733, t734⟩, A40, H⟩ := H
 replace H : ((impl_Graph_ends.f a0_0 l0_1 a2).bind fun bt735 => (if bt735.1 = t734 then (some (a2 != (Go.bits .xor .i64 a1 1))) else (some false))) = some r := H
 have A4 := Aside0.mk A40
 clear A40
 replace H := Option.bind_eq_some_iff.mp H
 obtain ⟨⟨t735, t736⟩, A50, H⟩ := H
 replace H : (if t735 = t734 then (some (a2 != (Go.bits .xor .i64 a1 1))) else (some false)) = some r := H
 have A5 := Aside0.mk A50
 clear A50
 by_cases c6 : t735 = t734
 ·rw [if_pos c6] at H
  have c6b0 : (t735 == t734) = true := beq_iff_eq.mpr c6
  have c6b1 : (t735 != t734) = false := bne_eq_false_iff_eq.mpr c6
  clear c6
  obtain rfl := Option.some.inj H
  go_enter Try.func107, Try.ntmps107
  go_wp2_with (first | ((with_reducible refine gate_dst (N := 3) rfl ?_); refine box_event ?hg (N := 3) ?hd (cs := #[.int .i64 a0_0, .slice A0_1 l0_1.length c0_1]) (t := 29) ?hr ?_; (case hd => rfl); (case hg => rfl); (case hr => first | (go_simp; done) | (go_simp; rfl)); intro gb732 hg w7 hbox hb; have n0_ := Aside0.mk (below_step (by repeat (first | (with_reducible first | exact HB.out | apply below_alloc | apply pw_below_drewN | apply below_drew1) | exact HB.out)) hb); have n1_ := Aside0.mk (hbox); have n2_ := Aside0.mk ((by rw [hg]; exact (below_size (by repeat (first | (with_reducible first | exact HB.out | apply below_alloc | apply pw_below_drewN | apply below_drew1) | exact HB.out))) : w.heap.size ≤ gb732)); have n3_ := Aside0.mk ((by rw [hg]; exact (below_size (by repeat (first | (with_reducible first | exact HB.out | apply below_alloc | apply pw_below_drewN | apply below_drew1) | exact HB.out))) : w.heap.size ≤ gb732)); clear HB; have HB := n0_; have BK732 := n1_; have GW732 := n2_; have GE732 := n3_; clear n0_ n1_ n2_ n3_; clear hb hbox hg; have hcz8_0 : w7.cell? ⟨gb732, 0, none⟩ = some (.int .i64 a0_0) := (blk_cell BK732.out 0).trans rfl; have hcz8_1 : w7.cell? ⟨gb732, 1, none⟩ = some (.slice A0_1 l0_1.length c0_1) := (blk_cell BK732.out 1).trans rfl; have hfz8_0 := blk_frozen BK732.out 0; have hfz8_1 := blk_frozen BK732.out 1) | ((with_reducible refine gate_callee (f := 71) rfl ?_); refine goesL_ (some 14) rfl rfl Try.func71 (by kernel_rfl) rfl #[.agg #[.int .i64 a0_0, .slice A0_1 l0_1.length c0_1], .int .i64 a1] rfl (by (try simp only [List.map_toArray, List.map_cons, List.map_nil]); first | done | rfl | (simp only [List.length_drop, List.length_take]; rfl)) ?_; (with_reducible refine (impl_Graph_ends.calls a0_0 _ _ l0_1 a1 t733 t734 _ ?side1 ?side2 A4.out).mono ?_); (case side1 => repeat (first | exact (Kd.C_below HR0_1.out HB.out) | (with_reducible refine Kd.C_alloc ?_ _) | (with_reducible refine Kd.C_drewN ?_ _) | (with_reducible refine Kd.C_drew ?_))); (case side2 => exact HC0_1.out); rintro e w9 ⟨rfl, hb⟩; refine ⟨_, rfl, ?_⟩; have n0_ := Aside0.mk (blk_below (g := gb732) (o := .cells #[.int .i64 a0_0, .slice A0_1 l0_1.length c0_1] 29 (0, 0)) (by (with_reducible repeat (first | refine blk_drewN ?_ _ | refine blk_drew ?_ | refine blk_alloc ?_ _)); exact BK732.out) hb); have n1_ := Aside0.mk (below_step (by repeat (first | (with_reducible first | exact HB.out | apply below_alloc | apply pw_below_drewN | apply below_drew1 | refine below_set ?_ GE732.out) | exact HB.out)) hb); clear BK732; clear HB; have BK732 := n0_; have HB := n1_; clear n0_ n1_; (try clear hb); (try clear hb2); (try clear hk); (try clear hi); have hcz10_0 : w9.cell? ⟨gb732, 0, none⟩ = some (.int .i64 a0_0) := (blk_cell BK732.out 0).trans rfl; have hcz10_1 : w9.cell? ⟨gb732, 1, none⟩ = some (.slice A0_1 l0_1.length c0_1) := (blk_cell BK732.out 1).trans rfl; have hfz10_0 := blk_frozen BK732.out 0; have hfz10_1 := blk_frozen BK732.out 1) | ((with_reducible refine gate_callee (f := 71) rfl ?_); refine goesL_ (some 20) rfl rfl Try.func71 (by kernel_rfl) rfl #[.agg #[.int .i64 a0_0, .slice A0_1 l0_1.length c0_1], .int .i64 a2] rfl (by (try simp only [List.map_toArray, List.map_cons, List.map_nil]); first | done | rfl | (simp only [List.length_drop, List.length_take]; rfl)) ?_; (with_reducible refine (impl_Graph_ends.calls a0_0 _ _ l0_1 a2 t735 t736 _ ?side1 ?side2 A5.out).mono ?_); (case side1 => repeat (first | exact (Kd.C_below HR0_1.out HB.out) | (with_reducible refine Kd.C_alloc ?_ _) | (with_reducible refine Kd.C_drewN ?_ _) | (with_reducible refine Kd.C_drew ?_))); (case side2 => exact HC0_1.out); rintro e w11 ⟨rfl, hb⟩; refine ⟨_, rfl, ?_⟩; have n0_ := Aside0.mk (blk_below (g := gb732) (o := .cells #[.int .i64 a0_0, .slice A0_1 l0_1.length c0_1] 29 (0, 0)) (by (with_reducible repeat (first | refine blk_drewN ?_ _ | refine blk_drew ?_ | refine blk_alloc ?_ _)); exact BK732.out) hb); have n1_ := Aside0.mk (below_step (by repeat (first | (with_reducible first | exact HB.out | apply below_alloc | apply pw_below_drewN | apply below_drew1 | refine below_set ?_ GE732.out) | exact HB.out)) hb); clear BK732; clear HB; have BK732 := n0_; have HB := n1_; clear n0_ n1_; (try clear hb); (try clear hb2); (try clear hk); (try clear hi)))
  go_ret
  exact ⟨by first | rfl | (simp [errW_none, errW_some] <;> rfl) | (simp [*, errW_none, errW_some] <;> rfl), by repeat (first | (with_reducible first | exact HB.out | apply below_alloc | apply pw_below_drewN | apply below_drew1 | refine below_set ?_ GE732.out) | exact HB.out)⟩
 ·rw [if_neg c6] at H
  have c6b0 : (t735 == t734) = false := beq_eq_false_iff_ne.mpr c6
  have c6b1 : (t735 != t734) = true := bne_iff_ne.mpr c6
  obtain rfl := Option.some.inj H
  go_enter Try.func107, Try.ntmps107
  go_wp2_with (first | ((with_reducible refine gate_dst (N := 3) rfl ?_); refine box_event ?hg (N := 3) ?hd (cs := #[.int .i64 a0_0, .slice A0_1 l0_1.length c0_1]) (t := 29) ?hr ?_; (case hd => rfl); (case hg => rfl); (case hr => first | (go_simp; done) | (go_simp; rfl)); intro gb732 hg w12 hbox hb; have n0_ := Aside0.mk (below_step (by repeat (first | (with_reducible first | exact HB.out | apply below_alloc | apply pw_below_drewN | apply below_drew1) | exact HB.out)) hb); have n1_ := Aside0.mk (hbox); have n2_ := Aside0.mk ((by rw [hg]; exact (below_size (by repeat (first | (with_reducible first | exact HB.out | apply below_alloc | apply pw_below_drewN | apply below_drew1) | exact HB.out))) : w.heap.size ≤ gb732)); have n3_ := Aside0.mk ((by rw [hg]; exact (below_size (by repeat (first | (with_reducible first | exact HB.out | apply below_alloc | apply pw_below_drewN | apply below_drew1) | exact HB.out))) : w.heap.size ≤ gb732)); clear HB; have HB := n0_; have BK732 := n1_; have GW732 := n2_; have GE732 := n3_; clear n0_ n1_ n2_ n3_; clear hb hbox hg; have hcz13_0 : w12.cell? ⟨gb732, 0, none⟩ = some (.int .i64 a0_0) := (blk_cell BK732.out 0).trans rfl; have hcz13_1 : w12.cell? ⟨gb732, 1, none⟩ = some (.slice A0_1 l0_1.length c0_1) := (blk_cell BK732.out 1).trans rfl; have hfz13_0 := blk_frozen BK732.out 0; have hfz13_1 := blk_frozen BK732.out 1) | ((with_reducible refine gate_callee (f := 71) rfl ?_); refine goesL_ (some 14) rfl rfl Try.func71 (by kernel_rfl) rfl #[.agg #[.int .i64 a0_0, .slice A0_1 l0_1.length c0_1], .int .i64 a1] rfl (by (try simp only [List.map_toArray, List.map_cons, List.map_nil]); first | done | rfl | (simp only [List.length_drop, List.length_take]; rfl)) ?_; (with_reducible refine (impl_Graph_ends.calls a0_0 _ _ l0_1 a1 t733 t734 _ ?side1 ?side2 A4.out).mono ?_); (case side1 => repeat (first | exact (Kd.C_below HR0_1.out HB.out) | (with_reducible refine Kd.C_alloc ?_ _) | (with_reducible refine Kd.C_drewN ?_ _) | (with_reducible refine Kd.C_drew ?_))); (case side2 => exact HC0_1.out); rintro e w14 ⟨rfl, hb⟩; refine ⟨_, rfl, ?_⟩; have n0_ := Aside0.mk (blk_below (g := gb732) (o := .cells #[.int .i64 a0_0, .slice A0_1 l0_1.length c0_1] 29 (0, 0)) (by (with_reducible repeat (first | refine blk_drewN ?_ _ | refine blk_drew ?_ | refine blk_alloc ?_ _)); exact BK732.out) hb); have n1_ := Aside0.mk (below_step (by repeat (first | (with_reducible first | exact HB.out | apply below_alloc | apply pw_below_drewN | apply below_drew1 | refine below_set ?_ GE732.out) | exact HB.out)) hb); clear BK732; clear HB; have BK732 := n0_; have HB := n1_; clear n0_ n1_; (try clear hb); (try clear hb2); (try clear hk); (try clear hi); have hcz15_0 : w14.cell? ⟨gb732, 0, none⟩ = some (.int .i64 a0_0) := (blk_cell BK732.out 0).trans rfl; have hcz15_1 : w14.cell? ⟨gb732, 1, none⟩ = some (.slice A0_1 l0_1.length c0_1) := (blk_cell BK732.out 1).trans rfl; have hfz15_0 := blk_frozen BK732.out 0; have hfz15_1 := blk_frozen BK732.out 1) | ((with_reducible refine gate_callee (f := 71) rfl ?_); refine goesL_ (some 20) rfl rfl Try.func71 (by kernel_rfl) rfl #[.agg #[.int .i64 a0_0, .slice A0_1 l0_1.length c0_1], .int .i64 a2] rfl (by (try simp only [List.map_toArray, List.map_cons, List.map_nil]); first | done | rfl | (simp only [List.length_drop, List.length_take]; rfl)) ?_; (with_reducible refine (impl_Graph_ends.calls a0_0 _ _ l0_1 a2 t735 t736 _ ?side1 ?side2 A5.out).mono ?_); (case side1 => repeat (first | exact (Kd.C_below HR0_1.out HB.out) | (with_reducible refine Kd.C_alloc ?_ _) | (with_reducible refine Kd.C_drewN ?_ _) | (with_reducible refine Kd.C_drew ?_))); (case side2 => exact HC0_1.out); rintro e w16 ⟨rfl, hb⟩; refine ⟨_, rfl, ?_⟩; have n0_ := Aside0.mk (blk_below (g := gb732) (o := .cells #[.int .i64 a0_0, .slice A0_1 l0_1.length c0_1] 29 (0, 0)) (by (with_reducible repeat (first | refine blk_drewN ?_ _ | refine blk_drew ?_ | refine blk_alloc ?_ _)); exact BK732.out) hb); have n1_ := Aside0.mk (below_step (by repeat (first | (with_reducible first | exact HB.out | apply below_alloc | apply pw_below_drewN | apply below_drew1 | refine below_set ?_ GE732.out) | exact HB.out)) hb); clear BK732; clear HB; have BK732 := n0_; have HB := n1_; clear n0_ n1_; (try clear hb); (try clear hb2); (try clear hk); (try clear hi)))
  go_ret
  exact ⟨by first | rfl | (simp [errW_none, errW_some] <;> rfl) | (simp [*, errW_none, errW_some] <;> rfl), by repeat (first | (with_reducible first | exact HB.out | apply below_alloc | apply pw_below_drewN | apply below_drew1 | refine below_set ?_ GE732.out) | exact HB.out)⟩

-- NOT PRINTED: function 105 (impl_Graph_walks_1)

-- NOT PRINTED: function 69 (impl_Graph_walks)

-- NOT PRINTED: function 70 (impl_WalksFrom_2)

end Go.Proofs.Ytipigagbgpoecaa.G
