/- The printed functions that this law reaches, and their contracts: part 2. -/
-- printed by this repo's wip/printer out of the kit's print with its own changes
import Derived.Test.YtedhnaljedonfaaC1
namespace Go.Proofs.Ytedhnaljedonfaa.G
open Go.RowKit Go.Proofs.YtedhnaljedonfaaW.PrintWords Go.Proofs.YtedhnaljedonfaaW.PrintLast Go.Proofs.YtedhnaljedonfaaW.PrintMore
attribute [local go_sem] max2_int min2_int max_two min_two max_three min_three max_four min_four   -- for this text's walks alone
set_option linter.unusedVariables false
set_option linter.unusedSimpArgs false

/-! ### impl_Graph_edgeMatrix: function 69 -/
mutual
def impl_Graph_edgeMatrix.l0 : Nat → List (List Int) → Int → Int → Int → List (List Int) → Option ((List (List Int)))
  | 0, _, _, _, _, _ => none
  | k + 1, x3, x16, x17, x424000, x424001 => if x17 < x16 then ((impl_Graph_ends.f x424000 x424001 x17).bind fun bt429 => ((impl_Graph_size.f x424000 x424001).bind fun t431 => (impl_Graph_edgeMatrix.l1 k x3 x17 bt429.2 x16 x17 (wrap64 (2 * t431)) 0 x424000 x424001))) else (some x3)
def impl_Graph_edgeMatrix.l1 : Nat → List (List Int) → Int → Int → Int → Int → Int → Int → Int → List (List Int) → Option ((List (List Int)))
  | 0, _, _, _, _, _, _, _, _, _ => none
  | k + 1, x3, x4, x6, x16, x17, x28, x29, x424000, x424001 => if x29 < x28 then ((impl_Graph_ends.f x424000 x424001 x29).bind fun bt432 => (if bt432.1 = x6 then (if x29 = (Go.bits .xor .i64 x4 1) then (impl_Graph_edgeMatrix.l1 k x3 x4 x6 x16 x17 x28 (wrap64 (x29 + 1)) x424000 x424001) else (if 0 ≤ x4 then (if x4 < (x3.length : Int) then (if 0 ≤ x29 then (if x29 < ((rd_L1 x3 x4).length : Int) then (impl_Graph_edgeMatrix.l1 k (x3.set (x4 : Int).toNat ((rd_L1 x3 x4).set (x29 : Int).toNat 1)) x4 x6 x16 x17 x28 (wrap64 (x29 + 1)) x424000 x424001) else (none)) else (none)) else (none)) else (none))) else (impl_Graph_edgeMatrix.l1 k x3 x4 x6 x16 x17 x28 (wrap64 (x29 + 1)) x424000 x424001))) else (impl_Graph_edgeMatrix.l0 k x3 x16 (wrap64 (x17 + 1)) x424000 x424001)
end
def impl_Graph_edgeMatrix.f (k : Nat) (a0_0 : Int) (l0_1 : List (List Int)) : Option ((List (List Int))) := (impl_Graph_size.f a0_0 l0_1).bind fun t424 => ((impl_square.f k (wrap64 (2 * t424))).bind fun t425 => ((impl_Graph_size.f a0_0 l0_1).bind fun t428 => (impl_Graph_edgeMatrix.l0 k t425 (wrap64 (2 * t428)) 0 a0_0 l0_1)))
theorem impl_Graph_edgeMatrix.mono_l : ∀ k, (∀ y0 y1 y2 y3 y4, LeO (impl_Graph_edgeMatrix.l0 k y0 y1 y2 y3 y4) (impl_Graph_edgeMatrix.l0 (k + 1) y0 y1 y2 y3 y4)) ∧ (∀ y0 y1 y2 y3 y4 y5 y6 y7 y8, LeO (impl_Graph_edgeMatrix.l1 k y0 y1 y2 y3 y4 y5 y6 y7 y8) (impl_Graph_edgeMatrix.l1 (k + 1) y0 y1 y2 y3 y4 y5 y6 y7 y8))
  | 0 => ⟨fun _ _ _ _ _ r h => by simp [impl_Graph_edgeMatrix.l0] at h, fun _ _ _ _ _ _ _ _ _ r h => by simp [impl_Graph_edgeMatrix.l1] at h⟩
  | k + 1 => by
    obtain ⟨ih0, ih1⟩ := impl_Graph_edgeMatrix.mono_l k
    refine ⟨?_, ?_⟩
    · intro y0 y1 y2 y3 y4
      unfold impl_Graph_edgeMatrix.l0
      repeat' first
      | (with_reducible exact ih0 _ _ _ _ _)
      | (with_reducible exact ih1 _ _ _ _ _ _ _ _ _)
      | (with_reducible exact impl_square.mono _ _)
      | (with_reducible exact LeO.refl _)
      | (with_reducible exact LeO.none _)
      | (with_reducible refine LeO.ite ?_ ?_)
      | (with_reducible refine LeO.bind ?_ (fun _ => ?_))
      | exact ih0 _ _ _ _ _
      | exact ih1 _ _ _ _ _ _ _ _ _
      | exact impl_square.mono _ _
      | exact LeO.none _
      | refine LeO.ite ?_ ?_
      | refine LeO.bind ?_ (fun _ => ?_)
    · intro y0 y1 y2 y3 y4 y5 y6 y7 y8
      unfold impl_Graph_edgeMatrix.l1
      repeat' first
      | (with_reducible exact ih0 _ _ _ _ _)
      | (with_reducible exact ih1 _ _ _ _ _ _ _ _ _)
      | (with_reducible exact impl_square.mono _ _)
      | (with_reducible exact LeO.refl _)
      | (with_reducible exact LeO.none _)
      | (with_reducible refine LeO.ite ?_ ?_)
      | (with_reducible refine LeO.bind ?_ (fun _ => ?_))
      | exact ih0 _ _ _ _ _
      | exact ih1 _ _ _ _ _ _ _ _ _
      | exact impl_square.mono _ _
      | exact LeO.none _
      | refine LeO.ite ?_ ?_
      | refine LeO.bind ?_ (fun _ => ?_)
theorem impl_Graph_edgeMatrix.mono : ∀ a0 a1 k, LeO (impl_Graph_edgeMatrix.f k a0 a1) (impl_Graph_edgeMatrix.f (k + 1) a0 a1) := by
  intro a0 a1 k
  obtain ⟨ih0, ih1⟩ := impl_Graph_edgeMatrix.mono_l k
  unfold impl_Graph_edgeMatrix.f
  repeat' first
      | (with_reducible exact ih0 _ _ _ _ _)
      | (with_reducible exact ih1 _ _ _ _ _ _ _ _ _)
      | (with_reducible exact impl_square.mono _ _)
      | (with_reducible exact LeO.refl _)
      | (with_reducible exact LeO.none _)
      | (with_reducible refine LeO.ite ?_ ?_)
      | (with_reducible refine LeO.bind ?_ (fun _ => ?_))
      | exact ih0 _ _ _ _ _
      | exact ih1 _ _ _ _ _ _ _ _ _
      | exact impl_square.mono _ _
      | exact LeO.none _
      | refine LeO.ite ?_ ?_
      | refine LeO.bind ?_ (fun _ => ?_)
set_option maxHeartbeats 8000000 in
set_option maxRecDepth 100000 in
theorem impl_Graph_edgeMatrix.calls (k : Nat) (a0_0 : Int) (A0_1 : Option Addr) (c0_1 : Nat) (l0_1 : List (List Int)) (r : List (List Int)) (w : World) (hr0_1 : Kd.C (Kd.slice 2 (Kd.int .i64)) w A0_1 l0_1.length l0_1) (hc0_1 : l0_1.length ≤ c0_1) (h : impl_Graph_edgeMatrix.f k a0_0 l0_1 = some r) :
    Calls Try.prog 69 #[.agg #[.int .i64 a0_0, .slice A0_1 l0_1.length c0_1]] w fun e w' => ∃ v0_ : Value, e = .returned (v0_) ∧ Kd.S (Kd.slice 2 (Kd.int .i64)) 25 w' w.heap.size (fun _ => True) v0_ r ∧ Below w.heap.size w w' := by
  have hu29 := Try.underlying29
  have HR0_1 := Aside0.mk hr0_1
  have HC0_1 := Aside0.mk hc0_1
  clear hr0_1 hc0_1
  have HB := Aside0.mk (Below.refl w.heap.size w)
  have H : ((impl_Graph_size.f a0_0 l0_1).bind fun t424 => ((impl_square.f k (wrap64 (2 * t424))).bind fun t425 => ((impl_Graph_size.f a0_0 l0_1).bind fun t428 => (impl_Graph_edgeMatrix.l0 k t425 (wrap64 (2 * t428)) 0 a0_0 l0_1)))) = some r := h
  clear h
  replace H := Option.bind_eq_some_iff.mp H
  obtain ⟨t424, A20, H⟩ := H
  replace H : ((impl_square.f k (wrap64 (2 * t424))).bind fun t425 => ((impl_Graph_size.f a0_0 l0_1).bind fun t428 => (impl_Graph_edgeMatrix.l0 k t425 (wrap64 (2 * t428)) 0 a0_0 l0_1))) = some r := H
  have A2 := Aside0.mk A20
  clear A20
  replace H := Option.bind_eq_some_iff.mp H
  obtain ⟨t425, A30, H⟩ := H
  replace H : ((impl_Graph_size.f a0_0 l0_1).bind fun t428 => (impl_Graph_edgeMatrix.l0 k t425 (wrap64 (2 * t428)) 0 a0_0 l0_1)) = some r := H
  have A3 := Aside0.mk A30
  clear A30
  replace H := Option.bind_eq_some_iff.mp H
  obtain ⟨t428, A40, H⟩ := H
  replace H : (impl_Graph_edgeMatrix.l0 k t425 (wrap64 (2 * t428)) 0 a0_0 l0_1) = some r := H
  have A4 := Aside0.mk A40
  clear A40
  have H' := Aside0.mk H
  clear H
  go_enter Try.func69, Try.ntmps69
  go_wp2_with (first | ((with_reducible refine gate_dst (N := 1) rfl ?_); refine box_event ?hg (N := 1) ?hd (cs := #[.int .i64 a0_0, .slice A0_1 l0_1.length c0_1]) (t := 29) ?hr ?_; (case hd => rfl); (case hg => rfl); (case hr => first | (go_simp; done) | (go_simp; rfl)); intro gb423 hg w5 hbox hb; have n0_ := Aside0.mk (below_step (by repeat (first | (with_reducible first | exact HB.out | apply below_alloc | apply pw_below_drewN | apply below_drew1) | exact HB.out)) hb); have n1_ := Aside0.mk (hbox); have n2_ := Aside0.mk ((by rw [hg]; exact (below_size (by repeat (first | (with_reducible first | exact HB.out | apply below_alloc | apply pw_below_drewN | apply below_drew1) | exact HB.out))) : w.heap.size ≤ gb423)); have n3_ := Aside0.mk ((by rw [hg]; exact (below_size (by repeat (first | (with_reducible first | exact HB.out | apply below_alloc | apply pw_below_drewN | apply below_drew1) | exact HB.out))) : w.heap.size ≤ gb423)); clear HB; have HB := n0_; have BK423 := n1_; have GW423 := n2_; have GE423 := n3_; clear n0_ n1_ n2_ n3_; clear hb hbox hg; have hcz6_0 : w5.cell? ⟨gb423, 0, none⟩ = some (.int .i64 a0_0) := (blk_cell BK423.out 0).trans rfl; have hcz6_1 : w5.cell? ⟨gb423, 1, none⟩ = some (.slice A0_1 l0_1.length c0_1) := (blk_cell BK423.out 1).trans rfl; have hfz6_0 := blk_frozen BK423.out 0; have hfz6_1 := blk_frozen BK423.out 1) | ((with_reducible refine gate_callee (f := 72) rfl ?_); refine goesL_ (some 11) rfl rfl Try.func72 (by kernel_rfl) rfl #[.agg #[.int .i64 a0_0, .slice A0_1 l0_1.length c0_1]] rfl (by (try simp only [List.map_toArray, List.map_cons, List.map_nil]); first | done | rfl | (simp only [List.length_drop, List.length_take]; rfl)) ?_; (with_reducible refine (impl_Graph_size.calls a0_0 _ _ l0_1 t424 _ ?side1 ?side2 A2.out).mono ?_); (case side1 => repeat (first | exact (Kd.C_below HR0_1.out HB.out) | (with_reducible refine Kd.C_alloc ?_ _) | (with_reducible refine Kd.C_drewN ?_ _) | (with_reducible refine Kd.C_drew ?_))); (case side2 => exact HC0_1.out); rintro e w7 ⟨rfl, hb⟩; refine ⟨_, rfl, ?_⟩; have n0_ := Aside0.mk (blk_below (g := gb423) (o := .cells #[.int .i64 a0_0, .slice A0_1 l0_1.length c0_1] 29 (0, 0)) (by (with_reducible repeat (first | refine blk_drewN ?_ _ | refine blk_drew ?_ | refine blk_alloc ?_ _)); exact BK423.out) hb); have n1_ := Aside0.mk (below_step (by repeat (first | (with_reducible first | exact HB.out | apply below_alloc | apply pw_below_drewN | apply below_drew1 | refine below_set ?_ GE423.out) | exact HB.out)) hb); clear BK423; clear HB; have BK423 := n0_; have HB := n1_; clear n0_ n1_; (try clear hb); (try clear hb2); (try clear hk); (try clear hi)) | ((with_reducible refine gate_callee (f := 95) rfl ?_); refine goesL_ (some 13) rfl rfl Try.func95 (by kernel_rfl) rfl #[.int .i64 (wrap64 (2 * t424))] rfl (by (try simp only [List.map_toArray, List.map_cons, List.map_nil]); first | done | rfl | (simp only [List.length_drop, List.length_take]; rfl)) ?_; (with_reducible refine (impl_square.calls k (wrap64 (2 * t424)) t425 _ A3.out).mono ?_); rintro e w8 ⟨v426, rfl, ho0, hb⟩; refine ⟨_, rfl, ?_⟩; have n0_ := Aside0.mk (Kd.S_lower ho0 (below_size (by repeat (first | (with_reducible first | exact HB.out | apply below_alloc | apply pw_below_drewN | apply below_drew1 | refine below_set ?_ GE423.out) | exact HB.out)))); have n1_ := Aside0.mk (blk_below (g := gb423) (o := .cells #[.int .i64 a0_0, .slice A0_1 l0_1.length c0_1] 29 (0, 0)) (by (with_reducible repeat (first | refine blk_drewN ?_ _ | refine blk_drew ?_ | refine blk_alloc ?_ _)); exact BK423.out) hb); have n2_ := Aside0.mk (below_step (by repeat (first | (with_reducible first | exact HB.out | apply below_alloc | apply pw_below_drewN | apply below_drew1 | refine below_set ?_ GE423.out) | exact HB.out)) hb); clear BK423; clear HB; have HO427 := n0_; have BK423 := n1_; have HB := n2_; clear n0_ n1_ n2_; (try clear hb); (try clear hb2); (try clear hk); (try clear hi); (try clear ho0); have hcz9_0 : w8.cell? ⟨gb423, 0, none⟩ = some (.int .i64 a0_0) := (blk_cell BK423.out 0).trans rfl; have hcz9_1 : w8.cell? ⟨gb423, 1, none⟩ = some (.slice A0_1 l0_1.length c0_1) := (blk_cell BK423.out 1).trans rfl; have hfz9_0 := blk_frozen BK423.out 0; have hfz9_1 := blk_frozen BK423.out 1) | ((with_reducible refine gate_callee (f := 72) rfl ?_); refine goesL_ (some 15) rfl rfl Try.func72 (by kernel_rfl) rfl #[.agg #[.int .i64 a0_0, .slice A0_1 l0_1.length c0_1]] rfl (by (try simp only [List.map_toArray, List.map_cons, List.map_nil]); first | done | rfl | (simp only [List.length_drop, List.length_take]; rfl)) ?_; (with_reducible refine (impl_Graph_size.calls a0_0 _ _ l0_1 t428 _ ?side1 ?side2 A4.out).mono ?_); (case side1 => repeat (first | exact (Kd.C_below HR0_1.out HB.out) | (with_reducible refine Kd.C_alloc ?_ _) | (with_reducible refine Kd.C_drewN ?_ _) | (with_reducible refine Kd.C_drew ?_))); (case side2 => exact HC0_1.out); rintro e w10 ⟨rfl, hb⟩; refine ⟨_, rfl, ?_⟩; have n0_ := Aside0.mk (Kd.S_below (by (with_reducible repeat (first | apply Kd.S_alloc | apply Kd.S_drewN | apply Kd.S_drew)); exact HO427.out) hb); have n1_ := Aside0.mk (blk_below (g := gb423) (o := .cells #[.int .i64 a0_0, .slice A0_1 l0_1.length c0_1] 29 (0, 0)) (by (with_reducible repeat (first | refine blk_drewN ?_ _ | refine blk_drew ?_ | refine blk_alloc ?_ _)); exact BK423.out) hb); have n2_ := Aside0.mk (below_step (by repeat (first | (with_reducible first | exact HB.out | apply below_alloc | apply pw_below_drewN | apply below_drew1 | refine below_set ?_ GE423.out) | exact HB.out)) hb); clear HO427; clear BK423; clear HB; have HO427 := n0_; have BK423 := n1_; have HB := n2_; clear n0_ n1_ n2_; (try clear hb); (try clear hb2); (try clear hk); (try clear hi)))
  go_loopg [17] k (fun kq v17 w' => ∃ (x3_1 : List (List Int)) (x17_1 : Int), v17 = .int .i64 x17_1 ∧ Aside0 (impl_Graph_edgeMatrix.l0 kq x3_1 (wrap64 (2 * t428)) x17_1 a0_0 l0_1 = some r) ∧ Aside0 (kq ≤ k) ∧ Aside0 (Kd.S (Kd.slice 2 (Kd.int .i64)) 25 w' w.heap.size (fun _ => True) v426 x3_1) ∧ Aside0 (w'.heap[gb423]? = some (.cells #[.int .i64 a0_0, (.slice A0_1 l0_1.length c0_1)] 29 (0, 0))) ∧ Aside0 (Below w.heap.size w w'))
  case atStart => exact ⟨(t425), (0), (by first | rfl | (simp; done) | (simp [*]; done)), H', ⟨Nat.le_refl _⟩, ⟨by (with_reducible repeat (first | apply Kd.S_alloc | apply Kd.S_drewN | apply Kd.S_drew)); exact HO427.out⟩, ⟨by (with_reducible repeat (first | refine blk_drewN ?_ _ | refine blk_drew ?_ | refine blk_alloc ?_ _)); exact BK423.out⟩, ⟨by repeat (first | (with_reducible first | exact HB.out | apply below_alloc | apply pw_below_drewN | apply below_drew1 | refine below_set ?_ GE423.out) | exact HB.out)⟩⟩
  case round =>
    clear H'
    try clear p2
    try clear c6
    try clear p6
    try clear c7
    try clear c9
    try clear hcz6_0
    try clear hcz6_1
    try clear hcz9_0
    try clear hcz9_1
    try clear hfz6_0
    try clear hfz6_1
    try clear hfz9_0
    try clear hfz9_1
    obtain ⟨x3_1, x17_1, rfl, HA, HK1, HO_3, BK423, HB⟩ := hrel
    cases gk with
    | zero => exact absurd HA.out (by simp [impl_Graph_edgeMatrix.l0])
    | succ k1 =>
      have H := HA.out
      clear HA
      simp only [impl_Graph_edgeMatrix.l0] at H
      by_cases c11 : x17_1 < (wrap64 (2 * t428))
      · rw [if_pos c11] at H
        have c11b0 : decide (x17_1 < (wrap64 (2 * t428))) = true := decide_eq_true c11
        clear c11
        replace H := Option.bind_eq_some_iff.mp H
        obtain ⟨⟨t429, t430⟩, A120, H⟩ := H
        replace H : ((impl_Graph_size.f a0_0 l0_1).bind fun t431 => (impl_Graph_edgeMatrix.l1 k1 x3_1 x17_1 t430 (wrap64 (2 * t428)) x17_1 (wrap64 (2 * t431)) 0 a0_0 l0_1)) = some r := H
        have A12 := Aside0.mk A120
        clear A120
        replace H := Option.bind_eq_some_iff.mp H
        obtain ⟨t431, A130, H⟩ := H
        replace H : (impl_Graph_edgeMatrix.l1 k1 x3_1 x17_1 t430 (wrap64 (2 * t428)) x17_1 (wrap64 (2 * t431)) 0 a0_0 l0_1) = some r := H
        have A13 := Aside0.mk A130
        clear A130
        have H' := Aside0.mk H
        clear H
        have hcz14_0 : wr.cell? ⟨gb423, 0, none⟩ = some (.int .i64 a0_0) := (blk_cell BK423.out 0).trans rfl
        have hcz14_1 : wr.cell? ⟨gb423, 1, none⟩ = some (.slice A0_1 l0_1.length c0_1) := (blk_cell BK423.out 1).trans rfl
        have hfz14_0 := blk_frozen BK423.out 0
        have hfz14_1 := blk_frozen BK423.out 1
        go_wp2_with (first | ((with_reducible refine gate_callee (f := 87) rfl ?_); refine goesL_ (some 23) rfl rfl Try.func87 (by kernel_rfl) rfl #[.agg #[.int .i64 a0_0, .slice A0_1 l0_1.length c0_1], .int .i64 x17_1] rfl (by (try simp only [List.map_toArray, List.map_cons, List.map_nil]); first | done | rfl | (simp only [List.length_drop, List.length_take]; rfl)) ?_; (with_reducible refine (impl_Graph_ends.calls a0_0 _ _ l0_1 x17_1 t429 t430 _ ?side1 ?side2 A12.out).mono ?_); (case side1 => repeat (first | exact (Kd.C_below HR0_1.out HB.out) | (with_reducible refine Kd.C_alloc ?_ _) | (with_reducible refine Kd.C_drewN ?_ _) | (with_reducible refine Kd.C_drew ?_))); (case side2 => exact HC0_1.out); rintro e w15 ⟨rfl, hb⟩; refine ⟨_, rfl, ?_⟩; have n0_ := Aside0.mk (Kd.S_below (by (with_reducible repeat (first | apply Kd.S_alloc | apply Kd.S_drewN | apply Kd.S_drew)); exact HO_3.out) hb); have n1_ := Aside0.mk (blk_below (g := gb423) (o := .cells #[.int .i64 a0_0, .slice A0_1 l0_1.length c0_1] 29 (0, 0)) (by (with_reducible repeat (first | refine blk_drewN ?_ _ | refine blk_drew ?_ | refine blk_alloc ?_ _)); exact BK423.out) hb); have n2_ := Aside0.mk (below_step (by repeat (first | (with_reducible first | exact HB.out | apply below_alloc | apply pw_below_drewN | apply below_drew1 | refine below_set ?_ GE423.out) | exact HB.out)) hb); clear HO_3; clear BK423; clear HB; have HO_3 := n0_; have BK423 := n1_; have HB := n2_; clear n0_ n1_ n2_; (try clear hb); (try clear hb2); (try clear hk); (try clear hi); have hcz16_0 : w15.cell? ⟨gb423, 0, none⟩ = some (.int .i64 a0_0) := (blk_cell BK423.out 0).trans rfl; have hcz16_1 : w15.cell? ⟨gb423, 1, none⟩ = some (.slice A0_1 l0_1.length c0_1) := (blk_cell BK423.out 1).trans rfl; have hfz16_0 := blk_frozen BK423.out 0; have hfz16_1 := blk_frozen BK423.out 1) | ((with_reducible refine gate_callee (f := 72) rfl ?_); refine goesL_ (some 27) rfl rfl Try.func72 (by kernel_rfl) rfl #[.agg #[.int .i64 a0_0, .slice A0_1 l0_1.length c0_1]] rfl (by (try simp only [List.map_toArray, List.map_cons, List.map_nil]); first | done | rfl | (simp only [List.length_drop, List.length_take]; rfl)) ?_; (with_reducible refine (impl_Graph_size.calls a0_0 _ _ l0_1 t431 _ ?side1 ?side2 A13.out).mono ?_); (case side1 => repeat (first | exact (Kd.C_below HR0_1.out HB.out) | (with_reducible refine Kd.C_alloc ?_ _) | (with_reducible refine Kd.C_drewN ?_ _) | (with_reducible refine Kd.C_drew ?_))); (case side2 => exact HC0_1.out); rintro e w17 ⟨rfl, hb⟩; refine ⟨_, rfl, ?_⟩; have n0_ := Aside0.mk (Kd.S_below (by (with_reducible repeat (first | apply Kd.S_alloc | apply Kd.S_drewN | apply Kd.S_drew)); exact HO_3.out) hb); have n1_ := Aside0.mk (blk_below (g := gb423) (o := .cells #[.int .i64 a0_0, .slice A0_1 l0_1.length c0_1] 29 (0, 0)) (by (with_reducible repeat (first | refine blk_drewN ?_ _ | refine blk_drew ?_ | refine blk_alloc ?_ _)); exact BK423.out) hb); have n2_ := Aside0.mk (below_step (by repeat (first | (with_reducible first | exact HB.out | apply below_alloc | apply pw_below_drewN | apply below_drew1 | refine below_set ?_ GE423.out) | exact HB.out)) hb); clear HO_3; clear BK423; clear HB; have HO_3 := n0_; have BK423 := n1_; have HB := n2_; clear n0_ n1_ n2_; (try clear hb); (try clear hb2); (try clear hk); (try clear hi)))
        go_loopg [29] k1 (fun kq v29 w' => ∃ (x3_2 : List (List Int)) (x29_2 : Int), v29 = .int .i64 x29_2 ∧ Aside0 (impl_Graph_edgeMatrix.l1 kq x3_2 x17_1 t430 (wrap64 (2 * t428)) x17_1 (wrap64 (2 * t431)) x29_2 a0_0 l0_1 = some r) ∧ Aside0 (kq ≤ k1) ∧ Aside0 (Kd.S (Kd.slice 2 (Kd.int .i64)) 25 w' w.heap.size (fun _ => True) v426 x3_2) ∧ Aside0 (w'.heap[gb423]? = some (.cells #[.int .i64 a0_0, (.slice A0_1 l0_1.length c0_1)] 29 (0, 0))) ∧ Aside0 (Below w.heap.size w w'))
        case atStart => exact ⟨(x3_1), (0), (by first | rfl | (simp; done) | (simp [*]; done)), H', ⟨Nat.le_refl _⟩, ⟨by (with_reducible repeat (first | apply Kd.S_alloc | apply Kd.S_drewN | apply Kd.S_drew)); exact HO_3.out⟩, ⟨by (with_reducible repeat (first | refine blk_drewN ?_ _ | refine blk_drew ?_ | refine blk_alloc ?_ _)); exact BK423.out⟩, ⟨by repeat (first | (with_reducible first | exact HB.out | apply below_alloc | apply pw_below_drewN | apply below_drew1 | refine below_set ?_ GE423.out) | exact HB.out)⟩⟩
        case round =>
          clear H'
          try clear c1
          try clear p2
          try clear c6
          try clear p6
          try clear c7
          try clear c8
          try clear c9
          try clear c11
          try clear c11b0
          try clear hcz14_0
          try clear hcz14_1
          try clear hcz16_0
          try clear hcz16_1
          try clear hcz6_0
          try clear hcz6_1
          try clear hcz9_0
          try clear hcz9_1
          try clear hfz14_0
          try clear hfz14_1
          try clear hfz16_0
          try clear hfz16_1
          try clear hfz6_0
          try clear hfz6_1
          try clear hfz9_0
          try clear hfz9_1
          try clear p2
          try clear p6
          obtain ⟨x3_2, x29_2, rfl, HA, HK2, HO_3, BK423, HB⟩ := hrel
          cases gk with
          | zero => exact absurd HA.out (by simp [impl_Graph_edgeMatrix.l1])
          | succ k2 =>
            have H := HA.out
            clear HA
            simp only [impl_Graph_edgeMatrix.l1] at H
            by_cases c18 : x29_2 < (wrap64 (2 * t431))
            · rw [if_pos c18] at H
              have c18b0 : decide (x29_2 < (wrap64 (2 * t431))) = true := decide_eq_true c18
              clear c18
              replace H := Option.bind_eq_some_iff.mp H
              obtain ⟨⟨t432, t433⟩, A190, H⟩ := H
              replace H : (if t432 = t430 then (if x29_2 = (Go.bits .xor .i64 x17_1 1) then (impl_Graph_edgeMatrix.l1 k2 x3_2 x17_1 t430 (wrap64 (2 * t428)) x17_1 (wrap64 (2 * t431)) (wrap64 (x29_2 + 1)) a0_0 l0_1) else (if 0 ≤ x17_1 then (if x17_1 < (x3_2.length : Int) then (if 0 ≤ x29_2 then (if x29_2 < ((rd_L1 x3_2 x17_1).length : Int) then (impl_Graph_edgeMatrix.l1 k2 (x3_2.set (x17_1 : Int).toNat ((rd_L1 x3_2 x17_1).set (x29_2 : Int).toNat 1)) x17_1 t430 (wrap64 (2 * t428)) x17_1 (wrap64 (2 * t431)) (wrap64 (x29_2 + 1)) a0_0 l0_1) else (none)) else (none)) else (none)) else (none))) else (impl_Graph_edgeMatrix.l1 k2 x3_2 x17_1 t430 (wrap64 (2 * t428)) x17_1 (wrap64 (2 * t431)) (wrap64 (x29_2 + 1)) a0_0 l0_1)) = some r := H
              have A19 := Aside0.mk A190
              clear A190
              by_cases c20 : t432 = t430
              · rw [if_pos c20] at H
                have c20b0 : (t432 == t430) = true := beq_iff_eq.mpr c20
                have c20b1 : (t432 != t430) = false := bne_eq_false_iff_eq.mpr c20
                clear c20
                by_cases c21 : x29_2 = (Go.bits .xor .i64 x17_1 1)
                · rw [if_pos c21] at H
                  have c21b0 : (x29_2 == (Go.bits .xor .i64 x17_1 1)) = true := beq_iff_eq.mpr c21
                  have c21b1 : (x29_2 != (Go.bits .xor .i64 x17_1 1)) = false := bne_eq_false_iff_eq.mpr c21
                  clear c21
                  have H' := Aside0.mk H
                  clear H
                  have hcz22_0 : wr.cell? ⟨gb423, 0, none⟩ = some (.int .i64 a0_0) := (blk_cell BK423.out 0).trans rfl
                  have hcz22_1 : wr.cell? ⟨gb423, 1, none⟩ = some (.slice A0_1 l0_1.length c0_1) := (blk_cell BK423.out 1).trans rfl
                  have hfz22_0 := blk_frozen BK423.out 0
                  have hfz22_1 := blk_frozen BK423.out 1
                  go_wp2_with (first | ((with_reducible refine gate_callee (f := 87) rfl ?_); refine goesL_ (some 35) rfl rfl Try.func87 (by kernel_rfl) rfl #[.agg #[.int .i64 a0_0, .slice A0_1 l0_1.length c0_1], .int .i64 x29_2] rfl (by (try simp only [List.map_toArray, List.map_cons, List.map_nil]); first | done | rfl | (simp only [List.length_drop, List.length_take]; rfl)) ?_; (with_reducible refine (impl_Graph_ends.calls a0_0 _ _ l0_1 x29_2 t432 t433 _ ?side1 ?side2 A19.out).mono ?_); (case side1 => repeat (first | exact (Kd.C_below HR0_1.out HB.out) | (with_reducible refine Kd.C_alloc ?_ _) | (with_reducible refine Kd.C_drewN ?_ _) | (with_reducible refine Kd.C_drew ?_))); (case side2 => exact HC0_1.out); rintro e w23 ⟨rfl, hb⟩; refine ⟨_, rfl, ?_⟩; have n0_ := Aside0.mk (Kd.S_below (by (with_reducible repeat (first | apply Kd.S_alloc | apply Kd.S_drewN | apply Kd.S_drew)); exact HO_3.out) hb); have n1_ := Aside0.mk (blk_below (g := gb423) (o := .cells #[.int .i64 a0_0, .slice A0_1 l0_1.length c0_1] 29 (0, 0)) (by (with_reducible repeat (first | refine blk_drewN ?_ _ | refine blk_drew ?_ | refine blk_alloc ?_ _)); exact BK423.out) hb); have n2_ := Aside0.mk (below_step (by repeat (first | (with_reducible first | exact HB.out | apply below_alloc | apply pw_below_drewN | apply below_drew1 | refine below_set ?_ GE423.out) | exact HB.out)) hb); clear HO_3; clear BK423; clear HB; have HO_3 := n0_; have BK423 := n1_; have HB := n2_; clear n0_ n1_ n2_; (try clear hb); (try clear hb2); (try clear hk); (try clear hi)))
                  first | go_roundg k2 | (refine Handed.intro k2 ?measure ?_; rotate_left; go_step; (try simp only [add_plain]); (repeat apply Exists.intro); refine ⟨?rel, rfl⟩)
                  case measure => have := HK1.out; have := HK2.out; omega
                  case rel => exact ⟨(x3_2), (wrap64 (x29_2 + 1)), (by first | rfl | (simp; done) | (simp [*]; done)), H', ⟨by have := HK1.out; have := HK2.out; omega⟩, ⟨by (with_reducible repeat (first | apply Kd.S_alloc | apply Kd.S_drewN | apply Kd.S_drew)); exact HO_3.out⟩, ⟨by (with_reducible repeat (first | refine blk_drewN ?_ _ | refine blk_drew ?_ | refine blk_alloc ?_ _)); exact BK423.out⟩, ⟨by repeat (first | (with_reducible first | exact HB.out | apply below_alloc | apply pw_below_drewN | apply below_drew1 | refine below_set ?_ GE423.out) | exact HB.out)⟩⟩
                · rw [if_neg c21] at H
                  have c21b0 : (x29_2 == (Go.bits .xor .i64 x17_1 1)) = false := beq_eq_false_iff_ne.mpr c21
                  have c21b1 : (x29_2 != (Go.bits .xor .i64 x17_1 1)) = true := bne_iff_ne.mpr c21
                  by_cases c24 : 0 ≤ x17_1
                  · rw [if_pos c24] at H
                    have c24b0 : decide (0 ≤ x17_1) = true := decide_eq_true c24
                    clear c24
                    by_cases c25 : x17_1 < (x3_2.length : Int)
                    · rw [if_pos c25] at H
                      have c25b0 : decide (x17_1 < (x3_2.length : Int)) = true := decide_eq_true c25
                      clear c25
                      by_cases c26 : 0 ≤ x29_2
                      · rw [if_pos c26] at H
                        have c26b0 : decide (0 ≤ x29_2) = true := decide_eq_true c26
                        clear c26
                        by_cases c27 : x29_2 < ((rd_L1 x3_2 x17_1).length : Int)
                        · rw [if_pos c27] at H
                          have c27b0 : decide (x29_2 < ((rd_L1 x3_2 x17_1).length : Int)) = true := decide_eq_true c27
                          clear c27
                          obtain ⟨y435, hy435⟩ : ∃ y_ : List Int, y_ = ((rd_L1 x3_2 x17_1).set (x29_2 : Int).toNat 1) := ⟨_, rfl⟩
                          replace H : (impl_Graph_edgeMatrix.l1 k2 (x3_2.set (x17_1 : Int).toNat y435) x17_1 t430 (wrap64 (2 * t428)) x17_1 (wrap64 (2 * t431)) (wrap64 (x29_2 + 1)) a0_0 l0_1) = some r := by first | (rw [hy435]; with_reducible exact H) | (have H2_ := (Option.bind_some _ _).symm.trans H; rw [hy435]; with_reducible exact H2_) | (have H2_ := (Option.bind_some _ _).symm.trans H; with_reducible exact H2_) | with_reducible exact H | (rw [hy435]; exact H) | exact H
                          have Ny435 := Aside0.mk hy435
                          clear hy435
                          obtain ⟨y437, hy437⟩ : ∃ y_ : List (List Int), y_ = (x3_2.set (x17_1 : Int).toNat y435) := ⟨_, rfl⟩
                          replace H : (impl_Graph_edgeMatrix.l1 k2 y437 x17_1 t430 (wrap64 (2 * t428)) x17_1 (wrap64 (2 * t431)) (wrap64 (x29_2 + 1)) a0_0 l0_1) = some r := by first | (rw [hy437]; with_reducible exact H) | (have H2_ := (Option.bind_some _ _).symm.trans H; rw [hy437]; with_reducible exact H2_) | (have H2_ := (Option.bind_some _ _).symm.trans H; with_reducible exact H2_) | with_reducible exact H | (rw [hy437]; exact H) | exact H
                          have Ny437 := Aside0.mk hy437
                          clear hy437
                          have H' := Aside0.mk H
                          clear H
                          have hcz29_0 : wr.cell? ⟨gb423, 0, none⟩ = some (.int .i64 a0_0) := (blk_cell BK423.out 0).trans rfl
                          have hcz29_1 : wr.cell? ⟨gb423, 1, none⟩ = some (.slice A0_1 l0_1.length c0_1) := (blk_cell BK423.out 1).trans rfl
                          have hfz29_0 := blk_frozen BK423.out 0
                          have hfz29_1 := blk_frozen BK423.out 1
                          go_wp2_with (first | ((with_reducible refine gate_callee (f := 87) rfl ?_); refine goesL_ (some 35) rfl rfl Try.func87 (by kernel_rfl) rfl #[.agg #[.int .i64 a0_0, .slice A0_1 l0_1.length c0_1], .int .i64 x29_2] rfl (by (try simp only [List.map_toArray, List.map_cons, List.map_nil]); first | done | rfl | (simp only [List.length_drop, List.length_take]; rfl)) ?_; (with_reducible refine (impl_Graph_ends.calls a0_0 _ _ l0_1 x29_2 t432 t433 _ ?side1 ?side2 A19.out).mono ?_); (case side1 => repeat (first | exact (Kd.C_below HR0_1.out HB.out) | (with_reducible refine Kd.C_alloc ?_ _) | (with_reducible refine Kd.C_drewN ?_ _) | (with_reducible refine Kd.C_drew ?_))); (case side2 => exact HC0_1.out); rintro e w30 ⟨rfl, hb⟩; refine ⟨_, rfl, ?_⟩; have n0_ := Aside0.mk (Kd.S_below (by (with_reducible repeat (first | apply Kd.S_alloc | apply Kd.S_drewN | apply Kd.S_drew)); exact HO_3.out) hb); have n1_ := Aside0.mk (blk_below (g := gb423) (o := .cells #[.int .i64 a0_0, .slice A0_1 l0_1.length c0_1] 29 (0, 0)) (by (with_reducible repeat (first | refine blk_drewN ?_ _ | refine blk_drew ?_ | refine blk_alloc ?_ _)); exact BK423.out) hb); have n2_ := Aside0.mk (below_step (by repeat (first | (with_reducible first | exact HB.out | apply below_alloc | apply pw_below_drewN | apply below_drew1 | refine below_set ?_ GE423.out) | exact HB.out)) hb); clear HO_3; clear BK423; clear HB; have HO_3 := n0_; have BK423 := n1_; have HB := n2_; clear n0_ n1_ n2_; (try clear hb); (try clear hb2); (try clear hk); (try clear hi); obtain ⟨Ao31, co31, eo31⟩ := Kd.S_slice HO_3.out; subst eo31; have p434 : 0 ≤ (x17_1 : Int) := of_decide_eq_true (by first | (with_reducible assumption) | assumption); have q434 : x17_1 < (x3_2.length : Int) := of_decide_eq_true (by first | (with_reducible assumption) | assumption); obtain ⟨ad434, A434_0, c434_0, e434, hx434_0, hl434_0, hi434_0⟩ := at_L1 (Kd.S_reads' HO_3.out).2.2 x17_1 p434 q434; cases e434; obtain ⟨ce434, hce434, hMe434, hcc434⟩ := Kd.S_get HO_3.out [] x17_1 p434 (by first | exact q434 | exact of_decide_eq_true (by first | (with_reducible assumption) | assumption) | (have e_ := (Kd.S_reads' HO_3.out).1; omega)); obtain ⟨ve434_0, rfl, ge434_0⟩ := hMe434; have hv434_0 := hcc434 0 _ rfl; rw [Nat.add_zero, show ((Kd.slice 2 (Kd.int .i64))).sz = 1 from rfl, Nat.mul_one] at hv434_0; replace hv434_0 := Option.some.inj (hv434_0.symm.trans hx434_0); rw [hv434_0] at ge434_0; have HL434_0 := Aside0.mk (show Kd.R (Kd.int .i64) 2 _ _ _ _ (rd_L1 x3_2 x17_1) from ge434_0); clear hv434_0 ge434_0; have HX434_0 := Aside0.mk hx434_0; clear hcc434 hce434; have HR434_0 := Aside0.mk hi434_0; have HC434_0 := Aside0.mk hl434_0; clear hi434_0 hl434_0; replace p434 := eq_true p434; replace q434 := eq_true q434; have p28 : 0 ≤ (x29_2 : Int) := of_decide_eq_true (by first | (with_reducible assumption) | assumption); have q28 : (x29_2 : Int) < (((rd_L1 x3_2 x17_1).length : Int) : Int) := of_decide_eq_true (by first | (with_reducible assumption) | assumption); obtain ⟨go28, co28, eo28, gb28, gl28, cl28, HG28⟩ := Kd.R_form HL434_0.out (by omega); (first | cases eo28 | (injection eo28 with ea_ en_ ec_; (first | subst ea_ | (injection ea_ with ea_; subst ea_)); subst ec_; clear en_)); have GB28 := Aside0.mk gb28; have GG28 := Aside0.mk HG28; clear gb28 gl28 HG28; obtain ⟨hx28_0, hf28_0⟩ := Kd.R_celln 0 HL434_0.out (x29_2 : Int) p28 q28; replace p28 := eq_true p28; replace q28 := eq_true q28; have hq32 : (x17_1 : Int) < (x3_2.length : Int) := (by have h_ : (x17_1 : Int) < ((x3_2.length : Int) : Int) := of_decide_eq_true (by first | (with_reducible assumption) | assumption); first | exact h_ | (have e_ := (Kd.S_reads' HO_3.out).1; omega) | simpa only [List.length_set, List.length_set] using h_); obtain ⟨oki32, ce32, hcl32, hM32, hcc32, hok32, hbk32⟩ := Kd.S_borrow HO_3.out [] (x17_1 : Int) (of_decide_eq_true (by first | (with_reducible assumption) | assumption)) (by first | exact hq32 | (have e_ := (Kd.S_reads' HO_3.out).1; have h_ := hq32; omega)); obtain ⟨ve32_0, rfl, ge32_0⟩ := hM32; have hv32 := hcc32 0 _ rfl; rw [Nat.add_zero, show ((Kd.slice 2 (Kd.int .i64))).sz = 1 from rfl, Nat.mul_one] at hv32; replace hv32 := Option.some.inj (hv32.symm.trans HX434_0.out); subst hv32; clear hcc32 hcl32; replace ge32_0 := (show Kd.R (Kd.int .i64) 2 _ _ _ _ (rd_L1 x3_2 x17_1) from ge32_0); have HP32 := Kd.R_putg ge32_0 (x29_2 : Int) 1) | ((with_reducible refine gate_store (t := 2) (p := 52) rfl ?_); refine store_event (t := 2) (p := 52) (v := ?vo_w33) (w1 := (w30.setCell ⟨go28, (x29_2 : Int).toNat, none⟩ (.int .i64 1))) ?hg ?ho ?hn ?hr ?_; (case ho => rfl); (case hg => rfl); (case hn => rfl); (case hr => first | (go_simp; done) | (go_simp; rfl)); intro w33 hw; have hg : w30.grownBy w33 (some go28) := (by rw [hw]; exact HP32.2); have hz_ : Kd.R (Kd.int .i64) 2 w33 w.heap.size oki32 (.slice (some ⟨go28, 0, none⟩) (rd_L1 x3_2 x17_1).length c434_0) y435 := (by rw [hw, Ny435.out]; exact HP32.1); have hp_ : Kd.S (Kd.slice 2 (Kd.int .i64)) 25 w33 w.heap.size (fun _ => True) (.slice (some ad434) x3_2.length co31) y437 := (by rw [Ny437.out]; exact hbk32 hg (fun k_ e_ => by injection e_ with e_; subst e_; exact ge32_0.1 _ rfl) (Kd.M_row hz_)); have hm_ := Kd.R_mono hz_ hok32; clear HP32 hbk32; have n0_ := Aside0.mk (hp_); have n1_ := Aside0.mk (blk_grown (g := gb423) (o := .cells #[.int .i64 a0_0, .slice A0_1 l0_1.length c0_1] 29 (0, 0)) (by (with_reducible repeat (first | refine blk_drewN ?_ _ | refine blk_drew ?_ | refine blk_alloc ?_ _)); exact BK423.out) hg (Kd.R_ne HL434_0.out BK423.out (by decide))); have n2_ := Aside0.mk ((by rw [hw]; exact below_set (HB.out) GB28.out : Below w.heap.size w w33)); have n3_ := Aside0.mk (hm_); have n4_ := Aside0.mk ((Kd.R_reads' hm_).2.1); clear HO_3; clear BK423; clear HB; clear HL434_0; have HO_3 := n0_; have BK423 := n1_; have HB := n2_; have HL438 := n3_; have HC436 := n4_; clear n0_ n1_ n2_ n3_ n4_; clear hg hw hp_ hz_ hm_ hok32))
                          first | go_roundg k2 | (refine Handed.intro k2 ?measure ?_; rotate_left; go_step; (try simp only [add_plain]); (repeat apply Exists.intro); refine ⟨?rel, rfl⟩)
                          case measure => have := HK1.out; have := HK2.out; omega
                          case rel => exact ⟨(y437), (wrap64 (x29_2 + 1)), (by first | rfl | (simp; done) | (simp [*]; done)), H', ⟨by have := HK1.out; have := HK2.out; omega⟩, ⟨by (with_reducible repeat (first | apply Kd.S_alloc | apply Kd.S_drewN | apply Kd.S_drew)); exact HO_3.out⟩, ⟨by (with_reducible repeat (first | refine blk_drewN ?_ _ | refine blk_drew ?_ | refine blk_alloc ?_ _)); exact BK423.out⟩, ⟨by repeat (first | (with_reducible first | exact HB.out | apply below_alloc | apply pw_below_drewN | apply below_drew1 | refine below_set ?_ GE423.out) | exact HB.out)⟩⟩
                        · rw [if_neg c27] at H
                          exact absurd H (by simp)
                      · rw [if_neg c26] at H
                        exact absurd H (by simp)
                    · rw [if_neg c25] at H
                      exact absurd H (by simp)
                  · rw [if_neg c24] at H
                    exact absurd H (by simp)
              · rw [if_neg c20] at H
                have c20b0 : (t432 == t430) = false := beq_eq_false_iff_ne.mpr c20
                have c20b1 : (t432 != t430) = true := bne_iff_ne.mpr c20
                have H' := Aside0.mk H
                clear H
                have hcz34_0 : wr.cell? ⟨gb423, 0, none⟩ = some (.int .i64 a0_0) := (blk_cell BK423.out 0).trans rfl
                have hcz34_1 : wr.cell? ⟨gb423, 1, none⟩ = some (.slice A0_1 l0_1.length c0_1) := (blk_cell BK423.out 1).trans rfl
                have hfz34_0 := blk_frozen BK423.out 0
                have hfz34_1 := blk_frozen BK423.out 1
                go_wp2_with (first | ((with_reducible refine gate_callee (f := 87) rfl ?_); refine goesL_ (some 35) rfl rfl Try.func87 (by kernel_rfl) rfl #[.agg #[.int .i64 a0_0, .slice A0_1 l0_1.length c0_1], .int .i64 x29_2] rfl (by (try simp only [List.map_toArray, List.map_cons, List.map_nil]); first | done | rfl | (simp only [List.length_drop, List.length_take]; rfl)) ?_; (with_reducible refine (impl_Graph_ends.calls a0_0 _ _ l0_1 x29_2 t432 t433 _ ?side1 ?side2 A19.out).mono ?_); (case side1 => repeat (first | exact (Kd.C_below HR0_1.out HB.out) | (with_reducible refine Kd.C_alloc ?_ _) | (with_reducible refine Kd.C_drewN ?_ _) | (with_reducible refine Kd.C_drew ?_))); (case side2 => exact HC0_1.out); rintro e w35 ⟨rfl, hb⟩; refine ⟨_, rfl, ?_⟩; have n0_ := Aside0.mk (Kd.S_below (by (with_reducible repeat (first | apply Kd.S_alloc | apply Kd.S_drewN | apply Kd.S_drew)); exact HO_3.out) hb); have n1_ := Aside0.mk (blk_below (g := gb423) (o := .cells #[.int .i64 a0_0, .slice A0_1 l0_1.length c0_1] 29 (0, 0)) (by (with_reducible repeat (first | refine blk_drewN ?_ _ | refine blk_drew ?_ | refine blk_alloc ?_ _)); exact BK423.out) hb); have n2_ := Aside0.mk (below_step (by repeat (first | (with_reducible first | exact HB.out | apply below_alloc | apply pw_below_drewN | apply below_drew1 | refine below_set ?_ GE423.out) | exact HB.out)) hb); clear HO_3; clear BK423; clear HB; have HO_3 := n0_; have BK423 := n1_; have HB := n2_; clear n0_ n1_ n2_; (try clear hb); (try clear hb2); (try clear hk); (try clear hi)))
                first | go_roundg k2 | (refine Handed.intro k2 ?measure ?_; rotate_left; go_step; (try simp only [add_plain]); (repeat apply Exists.intro); refine ⟨?rel, rfl⟩)
                case measure => have := HK1.out; have := HK2.out; omega
                case rel => exact ⟨(x3_2), (wrap64 (x29_2 + 1)), (by first | rfl | (simp; done) | (simp [*]; done)), H', ⟨by have := HK1.out; have := HK2.out; omega⟩, ⟨by (with_reducible repeat (first | apply Kd.S_alloc | apply Kd.S_drewN | apply Kd.S_drew)); exact HO_3.out⟩, ⟨by (with_reducible repeat (first | refine blk_drewN ?_ _ | refine blk_drew ?_ | refine blk_alloc ?_ _)); exact BK423.out⟩, ⟨by repeat (first | (with_reducible first | exact HB.out | apply below_alloc | apply pw_below_drewN | apply below_drew1 | refine below_set ?_ GE423.out) | exact HB.out)⟩⟩
            · rw [if_neg c18] at H
              have c18b0 : decide (x29_2 < (wrap64 (2 * t431))) = false := decide_eq_false c18
              clear c18
              have H' := Aside0.mk H
              clear H
              go_wp2
              first | go_roundg k2 | (refine Handed.intro k2 ?measure ?_; rotate_left; go_step; (try simp only [add_plain]); (repeat apply Exists.intro); refine ⟨?rel, rfl⟩)
              case measure => have := HK1.out; have := HK2.out; omega
              case rel => exact ⟨(x3_2), (wrap64 (x17_1 + 1)), (by first | rfl | (simp; done) | (simp [*]; done)), H', ⟨by have := HK1.out; have := HK2.out; omega⟩, ⟨by (with_reducible repeat (first | apply Kd.S_alloc | apply Kd.S_drewN | apply Kd.S_drew)); exact HO_3.out⟩, ⟨by (with_reducible repeat (first | refine blk_drewN ?_ _ | refine blk_drew ?_ | refine blk_alloc ?_ _)); exact BK423.out⟩, ⟨by repeat (first | (with_reducible first | exact HB.out | apply below_alloc | apply pw_below_drewN | apply below_drew1 | refine below_set ?_ GE423.out) | exact HB.out)⟩⟩
      · rw [if_neg c11] at H
        have c11b0 : decide (x17_1 < (wrap64 (2 * t428))) = false := decide_eq_false c11
        clear c11
        obtain rfl := Option.some.inj H
        go_wp2
        go_ret
        exact ⟨_, by first | rfl | (simp [errW_none, errW_some] <;> rfl) | (simp [*, errW_none, errW_some] <;> rfl), by (with_reducible repeat (first | apply Kd.S_alloc | apply Kd.S_drewN | apply Kd.S_drew)); exact HO_3.out, by repeat (first | (with_reducible first | exact HB.out | apply below_alloc | apply pw_below_drewN | apply below_drew1 | refine below_set ?_ GE423.out) | exact HB.out)⟩

/-! ### impl_EdgeMatrix: function 31 -/
def impl_EdgeMatrix.f (k : Nat) (a0_0 : Int) (l0_1 : List (List Int)) : Option ((List (List Int)) × Int) := (impl_IsGraph.f k a0_0 l0_1).bind fun t440 => (if t440 = true then ((impl_Graph_edgeMatrix.f k a0_0 l0_1).bind fun t441 => (some (t441, 0))) else (some (([] : List (List Int)), 1)))
theorem impl_EdgeMatrix.mono : ∀ a0 a1 k, LeO (impl_EdgeMatrix.f k a0 a1) (impl_EdgeMatrix.f (k + 1) a0 a1) := by
  intro a0 a1 k
  unfold impl_EdgeMatrix.f
  repeat' first
      | (with_reducible exact impl_Graph_edgeMatrix.mono _ _ _)
      | (with_reducible exact impl_IsGraph.mono _ _ _)
      | (with_reducible exact LeO.refl _)
      | (with_reducible exact LeO.none _)
      | (with_reducible refine LeO.ite ?_ ?_)
      | (with_reducible refine LeO.bind ?_ (fun _ => ?_))
      | exact impl_Graph_edgeMatrix.mono _ _ _
      | exact impl_IsGraph.mono _ _ _
      | exact LeO.none _
      | refine LeO.ite ?_ ?_
      | refine LeO.bind ?_ (fun _ => ?_)
set_option maxHeartbeats 8000000 in
set_option maxRecDepth 100000 in
theorem impl_EdgeMatrix.calls (k : Nat) (a0_0 : Int) (A0_1 : Option Addr) (c0_1 : Nat) (l0_1 : List (List Int)) (r1 : List (List Int)) (r2 : Int) (w : World) (hr0_1 : Kd.C (Kd.slice 2 (Kd.int .i64)) w A0_1 l0_1.length l0_1) (hc0_1 : l0_1.length ≤ c0_1) (h : impl_EdgeMatrix.f k a0_0 l0_1 = some (r1, r2)) :
    Calls Try.prog 31 #[.agg #[.int .i64 a0_0, .slice A0_1 l0_1.length c0_1]] w fun e w' => ∃ v0_ : Value, e = .returned (.tuple #[v0_, .int .i64 r2]) ∧ Kd.S (Kd.slice 2 (Kd.int .i64)) 25 w' w.heap.size (fun _ => True) v0_ r1 ∧ Below w.heap.size w w' := by
  have hu29 := Try.underlying29
  have HR0_1 := Aside0.mk hr0_1
  have HC0_1 := Aside0.mk hc0_1
  clear hr0_1 hc0_1
  have HB := Aside0.mk (Below.refl w.heap.size w)
  have H : ((impl_IsGraph.f k a0_0 l0_1).bind fun t440 => (if t440 = true then ((impl_Graph_edgeMatrix.f k a0_0 l0_1).bind fun t441 => (some (t441, 0))) else (some (([] : List (List Int)), 1)))) = some (r1, r2) := h
  clear h
  replace H := Option.bind_eq_some_iff.mp H
  obtain ⟨t440, A20, H⟩ := H
  replace H : (if t440 = true then ((impl_Graph_edgeMatrix.f k a0_0 l0_1).bind fun t441 => (some (t441, 0))) else (some (([] : List (List Int)), 1))) = some (r1, r2) := H
  have A2 := Aside0.mk A20
  clear A20
  by_cases c3 : t440 = true
  · subst c3
    have H1 : ((impl_Graph_edgeMatrix.f k a0_0 l0_1).bind fun t441 => (some (t441, 0))) = some (r1, r2) := by rw [if_pos rfl] at H; exact H
    clear H
    have H := H1
    clear H1
    replace H := Option.bind_eq_some_iff.mp H
    obtain ⟨t441, A40, H⟩ := H
    replace H : (some (t441, 0)) = some (r1, r2) := H
    have A4 := Aside0.mk A40
    clear A40
    simp only [Option.some.injEq, Prod.mk.injEq] at H
    obtain ⟨rfl, rfl⟩ := H
    go_enter Try.func31, Try.ntmps31
    go_wp2_with (first | ((with_reducible refine gate_dst (N := 1) rfl ?_); refine box_event ?hg (N := 1) ?hd (cs := #[.int .i64 a0_0, .slice A0_1 l0_1.length c0_1]) (t := 29) ?hr ?_; (case hd => rfl); (case hg => rfl); (case hr => first | (go_simp; done) | (go_simp; rfl)); intro gb439 hg w5 hbox hb; have n0_ := Aside0.mk (below_step (by repeat (first | (with_reducible first | exact HB.out | apply below_alloc | apply pw_below_drewN | apply below_drew1) | exact HB.out)) hb); have n1_ := Aside0.mk (hbox); have n2_ := Aside0.mk ((by rw [hg]; exact (below_size (by repeat (first | (with_reducible first | exact HB.out | apply below_alloc | apply pw_below_drewN | apply below_drew1) | exact HB.out))) : w.heap.size ≤ gb439)); have n3_ := Aside0.mk ((by rw [hg]; exact (below_size (by repeat (first | (with_reducible first | exact HB.out | apply below_alloc | apply pw_below_drewN | apply below_drew1) | exact HB.out))) : w.heap.size ≤ gb439)); clear HB; have HB := n0_; have BK439 := n1_; have GW439 := n2_; have GE439 := n3_; clear n0_ n1_ n2_ n3_; clear hb hbox hg; have hcz6_0 : w5.cell? ⟨gb439, 0, none⟩ = some (.int .i64 a0_0) := (blk_cell BK439.out 0).trans rfl; have hcz6_1 : w5.cell? ⟨gb439, 1, none⟩ = some (.slice A0_1 l0_1.length c0_1) := (blk_cell BK439.out 1).trans rfl; have hfz6_0 := blk_frozen BK439.out 0; have hfz6_1 := blk_frozen BK439.out 1) | ((with_reducible refine gate_callee (f := 58) rfl ?_); refine goesL_ (some 5) rfl rfl Try.func58 (by kernel_rfl) rfl #[.agg #[.int .i64 a0_0, .slice A0_1 l0_1.length c0_1]] rfl (by (try simp only [List.map_toArray, List.map_cons, List.map_nil]); first | done | rfl | (simp only [List.length_drop, List.length_take]; rfl)) ?_; (with_reducible refine (impl_IsGraph.calls k a0_0 _ _ l0_1 true _ ?side1 ?side2 A2.out).mono ?_); (case side1 => repeat (first | exact (Kd.C_below HR0_1.out HB.out) | (with_reducible refine Kd.C_alloc ?_ _) | (with_reducible refine Kd.C_drewN ?_ _) | (with_reducible refine Kd.C_drew ?_))); (case side2 => exact HC0_1.out); rintro e w7 ⟨rfl, hb⟩; refine ⟨_, rfl, ?_⟩; have n0_ := Aside0.mk (blk_below (g := gb439) (o := .cells #[.int .i64 a0_0, .slice A0_1 l0_1.length c0_1] 29 (0, 0)) (by (with_reducible repeat (first | refine blk_drewN ?_ _ | refine blk_drew ?_ | refine blk_alloc ?_ _)); exact BK439.out) hb); have n1_ := Aside0.mk (below_step (by repeat (first | (with_reducible first | exact HB.out | apply below_alloc | apply pw_below_drewN | apply below_drew1 | refine below_set ?_ GE439.out) | exact HB.out)) hb); clear BK439; clear HB; have BK439 := n0_; have HB := n1_; clear n0_ n1_; (try clear hb); (try clear hb2); (try clear hk); (try clear hi); have hcz8_0 : w7.cell? ⟨gb439, 0, none⟩ = some (.int .i64 a0_0) := (blk_cell BK439.out 0).trans rfl; have hcz8_1 : w7.cell? ⟨gb439, 1, none⟩ = some (.slice A0_1 l0_1.length c0_1) := (blk_cell BK439.out 1).trans rfl; have hfz8_0 := blk_frozen BK439.out 0; have hfz8_1 := blk_frozen BK439.out 1) | ((with_reducible refine gate_callee (f := 69) rfl ?_); refine goesL_ (some 8) rfl rfl Try.func69 (by kernel_rfl) rfl #[.agg #[.int .i64 a0_0, .slice A0_1 l0_1.length c0_1]] rfl (by (try simp only [List.map_toArray, List.map_cons, List.map_nil]); first | done | rfl | (simp only [List.length_drop, List.length_take]; rfl)) ?_; (with_reducible refine (impl_Graph_edgeMatrix.calls k a0_0 _ _ l0_1 t441 _ ?side1 ?side2 A4.out).mono ?_); (case side1 => repeat (first | exact (Kd.C_below HR0_1.out HB.out) | (with_reducible refine Kd.C_alloc ?_ _) | (with_reducible refine Kd.C_drewN ?_ _) | (with_reducible refine Kd.C_drew ?_))); (case side2 => exact HC0_1.out); rintro e w9 ⟨v442, rfl, ho0, hb⟩; refine ⟨_, rfl, ?_⟩; have n0_ := Aside0.mk (Kd.S_lower ho0 (below_size (by repeat (first | (with_reducible first | exact HB.out | apply below_alloc | apply pw_below_drewN | apply below_drew1 | refine below_set ?_ GE439.out) | exact HB.out)))); have n1_ := Aside0.mk (blk_below (g := gb439) (o := .cells #[.int .i64 a0_0, .slice A0_1 l0_1.length c0_1] 29 (0, 0)) (by (with_reducible repeat (first | refine blk_drewN ?_ _ | refine blk_drew ?_ | refine blk_alloc ?_ _)); exact BK439.out) hb); have n2_ := Aside0.mk (below_step (by repeat (first | (with_reducible first | exact HB.out | apply below_alloc | apply pw_below_drewN | apply below_drew1 | refine below_set ?_ GE439.out) | exact HB.out)) hb); clear BK439; clear HB; have HO443 := n0_; have BK439 := n1_; have HB := n2_; clear n0_ n1_ n2_; (try clear hb); (try clear hb2); (try clear hk); (try clear hi); (try clear ho0)))
    go_ret2
    exact ⟨_, by first | rfl | (simp [errW_none, errW_some] <;> rfl) | (simp [*, errW_none, errW_some] <;> rfl), by (with_reducible repeat (first | apply Kd.S_alloc | apply Kd.S_drewN | apply Kd.S_drew)); exact HO443.out, by repeat (first | (with_reducible first | exact HB.out | apply below_alloc | apply pw_below_drewN | apply below_drew1 | refine below_set ?_ GE439.out) | exact HB.out)⟩
  · replace c3 := Bool.eq_false_iff.mpr c3
    subst c3
    have H1 : (some (([] : List (List Int)), 1)) = some (r1, r2) := by rw [if_neg (show ¬ (false = true) by decide)] at H; exact H
    clear H
    have H := H1
    clear H1
    simp only [Option.some.injEq, Prod.mk.injEq] at H
    obtain ⟨rfl, rfl⟩ := H
    go_enter Try.func31, Try.ntmps31
    go_wp2_with (first | ((with_reducible refine gate_dst (N := 1) rfl ?_); refine box_event ?hg (N := 1) ?hd (cs := #[.int .i64 a0_0, .slice A0_1 l0_1.length c0_1]) (t := 29) ?hr ?_; (case hd => rfl); (case hg => rfl); (case hr => first | (go_simp; done) | (go_simp; rfl)); intro gb439 hg w10 hbox hb; have n0_ := Aside0.mk (below_step (by repeat (first | (with_reducible first | exact HB.out | apply below_alloc | apply pw_below_drewN | apply below_drew1) | exact HB.out)) hb); have n1_ := Aside0.mk (hbox); have n2_ := Aside0.mk ((by rw [hg]; exact (below_size (by repeat (first | (with_reducible first | exact HB.out | apply below_alloc | apply pw_below_drewN | apply below_drew1) | exact HB.out))) : w.heap.size ≤ gb439)); have n3_ := Aside0.mk ((by rw [hg]; exact (below_size (by repeat (first | (with_reducible first | exact HB.out | apply below_alloc | apply pw_below_drewN | apply below_drew1) | exact HB.out))) : w.heap.size ≤ gb439)); clear HB; have HB := n0_; have BK439 := n1_; have GW439 := n2_; have GE439 := n3_; clear n0_ n1_ n2_ n3_; clear hb hbox hg; have hcz11_0 : w10.cell? ⟨gb439, 0, none⟩ = some (.int .i64 a0_0) := (blk_cell BK439.out 0).trans rfl; have hcz11_1 : w10.cell? ⟨gb439, 1, none⟩ = some (.slice A0_1 l0_1.length c0_1) := (blk_cell BK439.out 1).trans rfl; have hfz11_0 := blk_frozen BK439.out 0; have hfz11_1 := blk_frozen BK439.out 1) | ((with_reducible refine gate_callee (f := 58) rfl ?_); refine goesL_ (some 5) rfl rfl Try.func58 (by kernel_rfl) rfl #[.agg #[.int .i64 a0_0, .slice A0_1 l0_1.length c0_1]] rfl (by (try simp only [List.map_toArray, List.map_cons, List.map_nil]); first | done | rfl | (simp only [List.length_drop, List.length_take]; rfl)) ?_; (with_reducible refine (impl_IsGraph.calls k a0_0 _ _ l0_1 false _ ?side1 ?side2 A2.out).mono ?_); (case side1 => repeat (first | exact (Kd.C_below HR0_1.out HB.out) | (with_reducible refine Kd.C_alloc ?_ _) | (with_reducible refine Kd.C_drewN ?_ _) | (with_reducible refine Kd.C_drew ?_))); (case side2 => exact HC0_1.out); rintro e w12 ⟨rfl, hb⟩; refine ⟨_, rfl, ?_⟩; have n0_ := Aside0.mk (blk_below (g := gb439) (o := .cells #[.int .i64 a0_0, .slice A0_1 l0_1.length c0_1] 29 (0, 0)) (by (with_reducible repeat (first | refine blk_drewN ?_ _ | refine blk_drew ?_ | refine blk_alloc ?_ _)); exact BK439.out) hb); have n1_ := Aside0.mk (below_step (by repeat (first | (with_reducible first | exact HB.out | apply below_alloc | apply pw_below_drewN | apply below_drew1 | refine below_set ?_ GE439.out) | exact HB.out)) hb); clear BK439; clear HB; have BK439 := n0_; have HB := n1_; clear n0_ n1_; (try clear hb); (try clear hb2); (try clear hk); (try clear hi)))
    go_ret2
    exact ⟨_, by first | rfl | (simp [errW_none, errW_some] <;> rfl) | (simp [*, errW_none, errW_some] <;> rfl), by first | exact Kd.S_nil _ _ _ _ _ | exact Kd.N_nil _ _ _ _ _ | exact Kd.V_nil _ _ _ _ _ | exact Kd.Q_nil _ _ _ _ _ | exact Kd.R_nil _ _ _ _ _, by repeat (first | (with_reducible first | exact HB.out | apply below_alloc | apply pw_below_drewN | apply below_drew1 | refine below_set ?_ GE439.out) | exact HB.out)⟩

/-! ### laws_FnExactEdgeMatrix: function 6 -/
def laws_FnExactEdgeMatrix.f (k : Nat) (a0_0 : Int) (l0_1 : List (List Int)) : Option (Bool) := (laws_szGraph.f k a0_0 l0_1 1048576).bind fun t445 => (if t445 < 0 then (some true) else ((laws_toGraph.f k a0_0 l0_1).bind fun bt446 => ((spec_EdgeMatrix.f k bt446.1 bt446.2).bind fun bt450 => ((laws_toGraph.f k a0_0 l0_1).bind fun bt454 => ((impl_EdgeMatrix.f k bt454.1 bt454.2).bind fun bt459 => ((laws_eqInt64SS.f k bt459.1 bt450.1).bind fun t463 => (if t463 = true then (if bt459.2 = bt450.2 then ((laws_toGraph.f k a0_0 l0_1).bind fun bt464 => ((laws_eqGraph.f k bt454.1 bt454.2 bt464.1 bt464.2).bind fun t468 => (if t468 = true then ((laws_markGraph.f k bt454.1 bt454.2 1).bind fun bt469 => (if bt469.1 < 0 then (some false) else ((laws_eqInt64SS.f k bt459.1 bt450.1).bind fun t471 => (if t471 = true then ((laws_markInt64SS.f k bt459.1 1).bind fun bt472 => ((laws_heldInt64SS.f k bt472.2 1).bind fun t474 => (if t474 < 0 then (some false) else (if t474 = bt472.1 then ((laws_toGraph.f k a0_0 l0_1).bind fun bt475 => ((impl_EdgeMatrix.f k bt475.1 bt475.2).bind fun bt479 => ((laws_eqInt64SS.f k bt479.1 bt450.1).bind fun t483 => (if t483 = true then (if bt479.2 = bt450.2 then ((laws_heldInt64SS.f k bt472.2 1).bind fun t484 => (if t484 < 0 then (some false) else (if t484 = bt472.1 then (some true) else (some false)))) else (some false)) else (some false))))) else (some false))))) else (some false))))) else (some false)))) else (some false)) else (some false))))))))
theorem laws_FnExactEdgeMatrix.mono : ∀ a0 a1 k, LeO (laws_FnExactEdgeMatrix.f k a0 a1) (laws_FnExactEdgeMatrix.f (k + 1) a0 a1) := by
  intro a0 a1 k
  unfold laws_FnExactEdgeMatrix.f
  repeat' first
      | (with_reducible exact impl_EdgeMatrix.mono _ _ _)
      | (with_reducible exact laws_eqGraph.mono _ _ _ _ _)
      | (with_reducible exact laws_eqInt64SS.mono _ _ _)
      | (with_reducible exact laws_heldInt64SS.mono _ _ _)
      | (with_reducible exact laws_markGraph.mono _ _ _ _)
      | (with_reducible exact laws_markInt64SS.mono _ _ _)
      | (with_reducible exact laws_szGraph.mono _ _ _ _)
      | (with_reducible exact laws_toGraph.mono _ _ _)
      | (with_reducible exact spec_EdgeMatrix.mono _ _ _)
      | (with_reducible exact LeO.refl _)
      | (with_reducible exact LeO.none _)
      | (with_reducible refine LeO.ite ?_ ?_)
      | (with_reducible refine LeO.bind ?_ (fun _ => ?_))
      | exact impl_EdgeMatrix.mono _ _ _
      | exact laws_eqGraph.mono _ _ _ _ _
      | exact laws_eqInt64SS.mono _ _ _
      | exact laws_heldInt64SS.mono _ _ _
      | exact laws_markGraph.mono _ _ _ _
      | exact laws_markInt64SS.mono _ _ _
      | exact laws_szGraph.mono _ _ _ _
      | exact laws_toGraph.mono _ _ _
      | exact spec_EdgeMatrix.mono _ _ _
      | exact LeO.none _
      | refine LeO.ite ?_ ?_
      | refine LeO.bind ?_ (fun _ => ?_)
set_option maxHeartbeats 8000000 in
set_option maxRecDepth 100000 in
theorem laws_FnExactEdgeMatrix.calls (k : Nat) (a0_0 : Int) (A0_1 : Option Addr) (c0_1 : Nat) (l0_1 : List (List Int)) (w : World) (hr0_1 : Kd.C (Kd.slice 2 (Kd.int .i64)) w A0_1 l0_1.length l0_1) (hc0_1 : l0_1.length ≤ c0_1) (h : laws_FnExactEdgeMatrix.f k a0_0 l0_1 = some true) :
    Calls Try.prog 6 #[.agg #[.int .i64 a0_0, .slice A0_1 l0_1.length c0_1]] w fun e w' => e = .returned (.bool true) ∧ Below w.heap.size w w' := by
  have hu24 := Try.underlying24
  have hu29 := Try.underlying29
  have HR0_1 := Aside0.mk hr0_1
  have HC0_1 := Aside0.mk hc0_1
  clear hr0_1 hc0_1
  have HB := Aside0.mk (Below.refl w.heap.size w)
  have H : ((laws_szGraph.f k a0_0 l0_1 1048576).bind fun t445 => (if t445 < 0 then (some true) else ((laws_toGraph.f k a0_0 l0_1).bind fun bt446 => ((spec_EdgeMatrix.f k bt446.1 bt446.2).bind fun bt450 => ((laws_toGraph.f k a0_0 l0_1).bind fun bt454 => ((impl_EdgeMatrix.f k bt454.1 bt454.2).bind fun bt459 => ((laws_eqInt64SS.f k bt459.1 bt450.1).bind fun t463 => (if t463 = true then (if bt459.2 = bt450.2 then ((laws_toGraph.f k a0_0 l0_1).bind fun bt464 => ((laws_eqGraph.f k bt454.1 bt454.2 bt464.1 bt464.2).bind fun t468 => (if t468 = true then ((laws_markGraph.f k bt454.1 bt454.2 1).bind fun bt469 => (if bt469.1 < 0 then (some false) else ((laws_eqInt64SS.f k bt459.1 bt450.1).bind fun t471 => (if t471 = true then ((laws_markInt64SS.f k bt459.1 1).bind fun bt472 => ((laws_heldInt64SS.f k bt472.2 1).bind fun t474 => (if t474 < 0 then (some false) else (if t474 = bt472.1 then ((laws_toGraph.f k a0_0 l0_1).bind fun bt475 => ((impl_EdgeMatrix.f k bt475.1 bt475.2).bind fun bt479 => ((laws_eqInt64SS.f k bt479.1 bt450.1).bind fun t483 => (if t483 = true then (if bt479.2 = bt450.2 then ((laws_heldInt64SS.f k bt472.2 1).bind fun t484 => (if t484 < 0 then (some false) else (if t484 = bt472.1 then (some true) else (some false)))) else (some false)) else (some false))))) else (some false))))) else (some false))))) else (some false)))) else (some false)) else (some false))))))))) = some true := h
  clear h
  replace H := Option.bind_eq_some_iff.mp H
  obtain ⟨t445, A20, H⟩ := H
  replace H : (if t445 < 0 then (some true) else ((laws_toGraph.f k a0_0 l0_1).bind fun bt446 => ((spec_EdgeMatrix.f k bt446.1 bt446.2).bind fun bt450 => ((laws_toGraph.f k a0_0 l0_1).bind fun bt454 => ((impl_EdgeMatrix.f k bt454.1 bt454.2).bind fun bt459 => ((laws_eqInt64SS.f k bt459.1 bt450.1).bind fun t463 => (if t463 = true then (if bt459.2 = bt450.2 then ((laws_toGraph.f k a0_0 l0_1).bind fun bt464 => ((laws_eqGraph.f k bt454.1 bt454.2 bt464.1 bt464.2).bind fun t468 => (if t468 = true then ((laws_markGraph.f k bt454.1 bt454.2 1).bind fun bt469 => (if bt469.1 < 0 then (some false) else ((laws_eqInt64SS.f k bt459.1 bt450.1).bind fun t471 => (if t471 = true then ((laws_markInt64SS.f k bt459.1 1).bind fun bt472 => ((laws_heldInt64SS.f k bt472.2 1).bind fun t474 => (if t474 < 0 then (some false) else (if t474 = bt472.1 then ((laws_toGraph.f k a0_0 l0_1).bind fun bt475 => ((impl_EdgeMatrix.f k bt475.1 bt475.2).bind fun bt479 => ((laws_eqInt64SS.f k bt479.1 bt450.1).bind fun t483 => (if t483 = true then (if bt479.2 = bt450.2 then ((laws_heldInt64SS.f k bt472.2 1).bind fun t484 => (if t484 < 0 then (some false) else (if t484 = bt472.1 then (some true) else (some false)))) else (some false)) else (some false))))) else (some false))))) else (some false))))) else (some false)))) else (some false)) else (some false)))))))) = some true := H
  have A2 := Aside0.mk A20
  clear A20
  by_cases c3 : t445 < 0
  · rw [if_pos c3] at H
    have c3b0 : decide (t445 < 0) = true := decide_eq_true c3
    clear c3
    try clear H
    go_enter Try.func6, Try.ntmps6
    go_wp2_with (first | ((with_reducible refine gate_dst (N := 1) rfl ?_); refine box_event ?hg (N := 1) ?hd (cs := #[.int .i64 a0_0, .slice A0_1 l0_1.length c0_1]) (t := 24) ?hr ?_; (case hd => rfl); (case hg => rfl); (case hr => first | (go_simp; done) | (go_simp; rfl)); intro gb444 hg w4 hbox hb; have n0_ := Aside0.mk (hb.size); have n1_ := Aside0.mk ((⟨Nat.le_of_eq hg.symm, blk_lt hbox⟩ : w.heap.size ≤ gb444 ∧ gb444 < w4.heap.size)); have n2_ := Aside0.mk (below_step (by repeat (first | (with_reducible first | exact HB.out | apply below_alloc | apply pw_below_drewN | apply below_drew1) | exact HB.out)) hb); have n3_ := Aside0.mk (hbox); have n4_ := Aside0.mk ((by rw [hg]; exact (below_size (by repeat (first | (with_reducible first | exact HB.out | apply below_alloc | apply pw_below_drewN | apply below_drew1) | exact HB.out))) : w.heap.size ≤ gb444)); have n5_ := Aside0.mk ((by rw [hg]; exact (below_size (by repeat (first | (with_reducible first | exact HB.out | apply below_alloc | apply pw_below_drewN | apply below_drew1) | exact HB.out))) : w.heap.size ≤ gb444)); clear HB; have Zw4 := n0_; have ZB444 := n1_; have HB := n2_; have BK444 := n3_; have GW444 := n4_; have GE444 := n5_; clear n0_ n1_ n2_ n3_ n4_ n5_; clear hb hbox hg; have hcz5_0 : w4.cell? ⟨gb444, 0, none⟩ = some (.int .i64 a0_0) := (blk_cell BK444.out 0).trans rfl; have hcz5_1 : w4.cell? ⟨gb444, 1, none⟩ = some (.slice A0_1 l0_1.length c0_1) := (blk_cell BK444.out 1).trans rfl; have hfz5_0 := blk_frozen BK444.out 0; have hfz5_1 := blk_frozen BK444.out 1) | ((with_reducible refine gate_callee (f := 15) rfl ?_); refine goesL_ (some 16) rfl rfl Try.func15 (by kernel_rfl) rfl #[.agg #[.int .i64 a0_0, .slice A0_1 l0_1.length c0_1], .int .i64 1048576] rfl (by (try simp only [List.map_toArray, List.map_cons, List.map_nil]); first | done | rfl) ?_; (with_reducible refine (laws_szGraph.calls k a0_0 _ _ l0_1 1048576 t445 _ ?side1 ?side2 A2.out).mono ?_); (case side1 => exact (Kd.C_below HR0_1.out HB.out)); (case side2 => exact HC0_1.out); rintro e w6 ⟨rfl, hb⟩; refine ⟨_, rfl, ?_⟩; have n0_ := Aside0.mk (blk_below (g := gb444) (o := .cells #[.int .i64 a0_0, .slice A0_1 l0_1.length c0_1] 24 (0, 0)) (by (with_reducible repeat (first | refine blk_drewN ?_ _ | refine blk_drew ?_ | refine blk_alloc ?_ _)); exact BK444.out) hb); have n1_ := Aside0.mk (below_step HB.out hb); have n2_ := Aside0.mk (hb.size); clear BK444; clear HB; have BK444 := n0_; have HB := n1_; have Zw6 := n2_; clear n0_ n1_ n2_; (try clear hb); (try clear hkp); (try clear hd_)))
    go_ret
    exact ⟨by first | rfl | (simp [errW_none, errW_some] <;> rfl) | (simp [*, errW_none, errW_some] <;> rfl), by repeat (first | (with_reducible first | exact HB.out | apply below_alloc | apply pw_below_drewN | apply below_drew1 | refine below_set ?_ GE444.out) | exact HB.out)⟩
  · rw [if_neg c3] at H
    have c3b0 : decide (t445 < 0) = false := decide_eq_false c3
    clear c3
    replace H := Option.bind_eq_some_iff.mp H
    obtain ⟨⟨t446, t447⟩, A70, H⟩ := H
    replace H : ((spec_EdgeMatrix.f k t446 t447).bind fun bt450 => ((laws_toGraph.f k a0_0 l0_1).bind fun bt454 => ((impl_EdgeMatrix.f k bt454.1 bt454.2).bind fun bt459 => ((laws_eqInt64SS.f k bt459.1 bt450.1).bind fun t463 => (if t463 = true then (if bt459.2 = bt450.2 then ((laws_toGraph.f k a0_0 l0_1).bind fun bt464 => ((laws_eqGraph.f k bt454.1 bt454.2 bt464.1 bt464.2).bind fun t468 => (if t468 = true then ((laws_markGraph.f k bt454.1 bt454.2 1).bind fun bt469 => (if bt469.1 < 0 then (some false) else ((laws_eqInt64SS.f k bt459.1 bt450.1).bind fun t471 => (if t471 = true then ((laws_markInt64SS.f k bt459.1 1).bind fun bt472 => ((laws_heldInt64SS.f k bt472.2 1).bind fun t474 => (if t474 < 0 then (some false) else (if t474 = bt472.1 then ((laws_toGraph.f k a0_0 l0_1).bind fun bt475 => ((impl_EdgeMatrix.f k bt475.1 bt475.2).bind fun bt479 => ((laws_eqInt64SS.f k bt479.1 bt450.1).bind fun t483 => (if t483 = true then (if bt479.2 = bt450.2 then ((laws_heldInt64SS.f k bt472.2 1).bind fun t484 => (if t484 < 0 then (some false) else (if t484 = bt472.1 then (some true) else (some false)))) else (some false)) else (some false))))) else (some false))))) else (some false))))) else (some false)))) else (some false)) else (some false)))))) = some true := H
    have A7 := Aside0.mk A70
    clear A70
    replace H := Option.bind_eq_some_iff.mp H
    obtain ⟨⟨t450, t453⟩, A80, H⟩ := H
    replace H : ((laws_toGraph.f k a0_0 l0_1).bind fun bt454 => ((impl_EdgeMatrix.f k bt454.1 bt454.2).bind fun bt459 => ((laws_eqInt64SS.f k bt459.1 t450).bind fun t463 => (if t463 = true then (if bt459.2 = t453 then ((laws_toGraph.f k a0_0 l0_1).bind fun bt464 => ((laws_eqGraph.f k bt454.1 bt454.2 bt464.1 bt464.2).bind fun t468 => (if t468 = true then ((laws_markGraph.f k bt454.1 bt454.2 1).bind fun bt469 => (if bt469.1 < 0 then (some false) else ((laws_eqInt64SS.f k bt459.1 t450).bind fun t471 => (if t471 = true then ((laws_markInt64SS.f k bt459.1 1).bind fun bt472 => ((laws_heldInt64SS.f k bt472.2 1).bind fun t474 => (if t474 < 0 then (some false) else (if t474 = bt472.1 then ((laws_toGraph.f k a0_0 l0_1).bind fun bt475 => ((impl_EdgeMatrix.f k bt475.1 bt475.2).bind fun bt479 => ((laws_eqInt64SS.f k bt479.1 t450).bind fun t483 => (if t483 = true then (if bt479.2 = t453 then ((laws_heldInt64SS.f k bt472.2 1).bind fun t484 => (if t484 < 0 then (some false) else (if t484 = bt472.1 then (some true) else (some false)))) else (some false)) else (some false))))) else (some false))))) else (some false))))) else (some false)))) else (some false)) else (some false))))) = some true := H
    have A8 := Aside0.mk A80
    clear A80
    replace H := Option.bind_eq_some_iff.mp H
    obtain ⟨⟨t454, t455⟩, A90, H⟩ := H
    replace H : ((impl_EdgeMatrix.f k t454 t455).bind fun bt459 => ((laws_eqInt64SS.f k bt459.1 t450).bind fun t463 => (if t463 = true then (if bt459.2 = t453 then ((laws_toGraph.f k a0_0 l0_1).bind fun bt464 => ((laws_eqGraph.f k t454 t455 bt464.1 bt464.2).bind fun t468 => (if t468 = true then ((laws_markGraph.f k t454 t455 1).bind fun bt469 => (if bt469.1 < 0 then (some false) else ((laws_eqInt64SS.f k bt459.1 t450).bind fun t471 => (if t471 = true then ((laws_markInt64SS.f k bt459.1 1).bind fun bt472 => ((laws_heldInt64SS.f k bt472.2 1).bind fun t474 => (if t474 < 0 then (some false) else (if t474 = bt472.1 then ((laws_toGraph.f k a0_0 l0_1).bind fun bt475 => ((impl_EdgeMatrix.f k bt475.1 bt475.2).bind fun bt479 => ((laws_eqInt64SS.f k bt479.1 t450).bind fun t483 => (if t483 = true then (if bt479.2 = t453 then ((laws_heldInt64SS.f k bt472.2 1).bind fun t484 => (if t484 < 0 then (some false) else (if t484 = bt472.1 then (some true) else (some false)))) else (some false)) else (some false))))) else (some false))))) else (some false))))) else (some false)))) else (some false)) else (some false)))) = some true := H
    have A9 := Aside0.mk A90
    clear A90
    replace H := Option.bind_eq_some_iff.mp H
    obtain ⟨⟨t459, t462⟩, A100, H⟩ := H
    replace H : ((laws_eqInt64SS.f k t459 t450).bind fun t463 => (if t463 = true then (if t462 = t453 then ((laws_toGraph.f k a0_0 l0_1).bind fun bt464 => ((laws_eqGraph.f k t454 t455 bt464.1 bt464.2).bind fun t468 => (if t468 = true then ((laws_markGraph.f k t454 t455 1).bind fun bt469 => (if bt469.1 < 0 then (some false) else ((laws_eqInt64SS.f k t459 t450).bind fun t471 => (if t471 = true then ((laws_markInt64SS.f k t459 1).bind fun bt472 => ((laws_heldInt64SS.f k bt472.2 1).bind fun t474 => (if t474 < 0 then (some false) else (if t474 = bt472.1 then ((laws_toGraph.f k a0_0 l0_1).bind fun bt475 => ((impl_EdgeMatrix.f k bt475.1 bt475.2).bind fun bt479 => ((laws_eqInt64SS.f k bt479.1 t450).bind fun t483 => (if t483 = true then (if bt479.2 = t453 then ((laws_heldInt64SS.f k bt472.2 1).bind fun t484 => (if t484 < 0 then (some false) else (if t484 = bt472.1 then (some true) else (some false)))) else (some false)) else (some false))))) else (some false))))) else (some false))))) else (some false)))) else (some false)) else (some false))) = some true := H
    have A10 := Aside0.mk A100
    clear A100
    replace H := Option.bind_eq_some_iff.mp H
    obtain ⟨t463, A110, H⟩ := H
    replace H : (if t463 = true then (if t462 = t453 then ((laws_toGraph.f k a0_0 l0_1).bind fun bt464 => ((laws_eqGraph.f k t454 t455 bt464.1 bt464.2).bind fun t468 => (if t468 = true then ((laws_markGraph.f k t454 t455 1).bind fun bt469 => (if bt469.1 < 0 then (some false) else ((laws_eqInt64SS.f k t459 t450).bind fun t471 => (if t471 = true then ((laws_markInt64SS.f k t459 1).bind fun bt472 => ((laws_heldInt64SS.f k bt472.2 1).bind fun t474 => (if t474 < 0 then (some false) else (if t474 = bt472.1 then ((laws_toGraph.f k a0_0 l0_1).bind fun bt475 => ((impl_EdgeMatrix.f k bt475.1 bt475.2).bind fun bt479 => ((laws_eqInt64SS.f k bt479.1 t450).bind fun t483 => (if t483 = true then (if bt479.2 = t453 then ((laws_heldInt64SS.f k bt472.2 1).bind fun t484 => (if t484 < 0 then (some false) else (if t484 = bt472.1 then (some true) else (some false)))) else (some false)) else (some false))))) else (some false))))) else (some false))))) else (some false)))) else (some false)) else (some false)) = some true := H
    have A11 := Aside0.mk A110
    clear A110
    by_cases c12 : t463 = true
    · subst c12
      have H1 : (if t462 = t453 then ((laws_toGraph.f k a0_0 l0_1).bind fun bt464 => ((laws_eqGraph.f k t454 t455 bt464.1 bt464.2).bind fun t468 => (if t468 = true then ((laws_markGraph.f k t454 t455 1).bind fun bt469 => (if bt469.1 < 0 then (some false) else ((laws_eqInt64SS.f k t459 t450).bind fun t471 => (if t471 = true then ((laws_markInt64SS.f k t459 1).bind fun bt472 => ((laws_heldInt64SS.f k bt472.2 1).bind fun t474 => (if t474 < 0 then (some false) else (if t474 = bt472.1 then ((laws_toGraph.f k a0_0 l0_1).bind fun bt475 => ((impl_EdgeMatrix.f k bt475.1 bt475.2).bind fun bt479 => ((laws_eqInt64SS.f k bt479.1 t450).bind fun t483 => (if t483 = true then (if bt479.2 = t453 then ((laws_heldInt64SS.f k bt472.2 1).bind fun t484 => (if t484 < 0 then (some false) else (if t484 = bt472.1 then (some true) else (some false)))) else (some false)) else (some false))))) else (some false))))) else (some false))))) else (some false)))) else (some false)) = some true := by rw [if_pos rfl] at H; exact H
      clear H
      have H := H1
      clear H1
      by_cases c13 : t462 = t453
      · rw [if_pos c13] at H
        have c13b0 : (t462 == t453) = true := beq_iff_eq.mpr c13
        have c13b1 : (t462 != t453) = false := bne_eq_false_iff_eq.mpr c13
        clear c13
        replace H := Option.bind_eq_some_iff.mp H
        obtain ⟨⟨t464, t465⟩, A140, H⟩ := H
        replace H : ((laws_eqGraph.f k t454 t455 t464 t465).bind fun t468 => (if t468 = true then ((laws_markGraph.f k t454 t455 1).bind fun bt469 => (if bt469.1 < 0 then (some false) else ((laws_eqInt64SS.f k t459 t450).bind fun t471 => (if t471 = true then ((laws_markInt64SS.f k t459 1).bind fun bt472 => ((laws_heldInt64SS.f k bt472.2 1).bind fun t474 => (if t474 < 0 then (some false) else (if t474 = bt472.1 then ((laws_toGraph.f k a0_0 l0_1).bind fun bt475 => ((impl_EdgeMatrix.f k bt475.1 bt475.2).bind fun bt479 => ((laws_eqInt64SS.f k bt479.1 t450).bind fun t483 => (if t483 = true then (if bt479.2 = t453 then ((laws_heldInt64SS.f k bt472.2 1).bind fun t484 => (if t484 < 0 then (some false) else (if t484 = bt472.1 then (some true) else (some false)))) else (some false)) else (some false))))) else (some false))))) else (some false))))) else (some false))) = some true := H
        have A14 := Aside0.mk A140
        clear A140
        replace H := Option.bind_eq_some_iff.mp H
        obtain ⟨t468, A150, H⟩ := H
        replace H : (if t468 = true then ((laws_markGraph.f k t454 t455 1).bind fun bt469 => (if bt469.1 < 0 then (some false) else ((laws_eqInt64SS.f k t459 t450).bind fun t471 => (if t471 = true then ((laws_markInt64SS.f k t459 1).bind fun bt472 => ((laws_heldInt64SS.f k bt472.2 1).bind fun t474 => (if t474 < 0 then (some false) else (if t474 = bt472.1 then ((laws_toGraph.f k a0_0 l0_1).bind fun bt475 => ((impl_EdgeMatrix.f k bt475.1 bt475.2).bind fun bt479 => ((laws_eqInt64SS.f k bt479.1 t450).bind fun t483 => (if t483 = true then (if bt479.2 = t453 then ((laws_heldInt64SS.f k bt472.2 1).bind fun t484 => (if t484 < 0 then (some false) else (if t484 = bt472.1 then (some true) else (some false)))) else (some false)) else (some false))))) else (some false))))) else (some false))))) else (some false)) = some true := H
        have A15 := Aside0.mk A150
        clear A150
        by_cases c16 : t468 = true
        · subst c16
          have H1 : ((laws_markGraph.f k t454 t455 1).bind fun bt469 => (if bt469.1 < 0 then (some false) else ((laws_eqInt64SS.f k t459 t450).bind fun t471 => (if t471 = true then ((laws_markInt64SS.f k t459 1).bind fun bt472 => ((laws_heldInt64SS.f k bt472.2 1).bind fun t474 => (if t474 < 0 then (some false) else (if t474 = bt472.1 then ((laws_toGraph.f k a0_0 l0_1).bind fun bt475 => ((impl_EdgeMatrix.f k bt475.1 bt475.2).bind fun bt479 => ((laws_eqInt64SS.f k bt479.1 t450).bind fun t483 => (if t483 = true then (if bt479.2 = t453 then ((laws_heldInt64SS.f k bt472.2 1).bind fun t484 => (if t484 < 0 then (some false) else (if t484 = bt472.1 then (some true) else (some false)))) else (some false)) else (some false))))) else (some false))))) else (some false))))) = some true := by rw [if_pos rfl] at H; exact H
          clear H
          have H := H1
          clear H1
          replace H := Option.bind_eq_some_iff.mp H
          obtain ⟨⟨t469, t470⟩, A170, H⟩ := H
          replace H : (if t469 < 0 then (some false) else ((laws_eqInt64SS.f k t459 t450).bind fun t471 => (if t471 = true then ((laws_markInt64SS.f k t459 1).bind fun bt472 => ((laws_heldInt64SS.f k bt472.2 1).bind fun t474 => (if t474 < 0 then (some false) else (if t474 = bt472.1 then ((laws_toGraph.f k a0_0 l0_1).bind fun bt475 => ((impl_EdgeMatrix.f k bt475.1 bt475.2).bind fun bt479 => ((laws_eqInt64SS.f k bt479.1 t450).bind fun t483 => (if t483 = true then (if bt479.2 = t453 then ((laws_heldInt64SS.f k bt472.2 1).bind fun t484 => (if t484 < 0 then (some false) else (if t484 = bt472.1 then (some true) else (some false)))) else (some false)) else (some false))))) else (some false))))) else (some false)))) = some true := H
          have A17 := Aside0.mk A170
          clear A170
          by_cases c18 : t469 < 0
          · rw [if_pos c18] at H
            have c18b0 : decide (t469 < 0) = true := decide_eq_true c18
            clear c18
            exact absurd H (by simp)
          · rw [if_neg c18] at H
            have c18b0 : decide (t469 < 0) = false := decide_eq_false c18
            clear c18
            replace H := Option.bind_eq_some_iff.mp H
            obtain ⟨t471, A190, H⟩ := H
            replace H : (if t471 = true then ((laws_markInt64SS.f k t459 1).bind fun bt472 => ((laws_heldInt64SS.f k bt472.2 1).bind fun t474 => (if t474 < 0 then (some false) else (if t474 = bt472.1 then ((laws_toGraph.f k a0_0 l0_1).bind fun bt475 => ((impl_EdgeMatrix.f k bt475.1 bt475.2).bind fun bt479 => ((laws_eqInt64SS.f k bt479.1 t450).bind fun t483 => (if t483 = true then (if bt479.2 = t453 then ((laws_heldInt64SS.f k bt472.2 1).bind fun t484 => (if t484 < 0 then (some false) else (if t484 = bt472.1 then (some true) else (some false)))) else (some false)) else (some false))))) else (some false))))) else (some false)) = some true := H
            have A19 := Aside0.mk A190
            clear A190
            by_cases c20 : t471 = true
            · subst c20
              have H1 : ((laws_markInt64SS.f k t459 1).bind fun bt472 => ((laws_heldInt64SS.f k bt472.2 1).bind fun t474 => (if t474 < 0 then (some false) else (if t474 = bt472.1 then ((laws_toGraph.f k a0_0 l0_1).bind fun bt475 => ((impl_EdgeMatrix.f k bt475.1 bt475.2).bind fun bt479 => ((laws_eqInt64SS.f k bt479.1 t450).bind fun t483 => (if t483 = true then (if bt479.2 = t453 then ((laws_heldInt64SS.f k bt472.2 1).bind fun t484 => (if t484 < 0 then (some false) else (if t484 = bt472.1 then (some true) else (some false)))) else (some false)) else (some false))))) else (some false))))) = some true := by rw [if_pos rfl] at H; exact H
              clear H
              have H := H1
              clear H1
              replace H := Option.bind_eq_some_iff.mp H
              obtain ⟨⟨t472, t473⟩, A210, H⟩ := H
              replace H : ((laws_heldInt64SS.f k t473 1).bind fun t474 => (if t474 < 0 then (some false) else (if t474 = t472 then ((laws_toGraph.f k a0_0 l0_1).bind fun bt475 => ((impl_EdgeMatrix.f k bt475.1 bt475.2).bind fun bt479 => ((laws_eqInt64SS.f k bt479.1 t450).bind fun t483 => (if t483 = true then (if bt479.2 = t453 then ((laws_heldInt64SS.f k t473 1).bind fun t484 => (if t484 < 0 then (some false) else (if t484 = t472 then (some true) else (some false)))) else (some false)) else (some false))))) else (some false)))) = some true := H
              have A21 := Aside0.mk A210
              clear A210
              replace H := Option.bind_eq_some_iff.mp H
              obtain ⟨t474, A220, H⟩ := H
              replace H : (if t474 < 0 then (some false) else (if t474 = t472 then ((laws_toGraph.f k a0_0 l0_1).bind fun bt475 => ((impl_EdgeMatrix.f k bt475.1 bt475.2).bind fun bt479 => ((laws_eqInt64SS.f k bt479.1 t450).bind fun t483 => (if t483 = true then (if bt479.2 = t453 then ((laws_heldInt64SS.f k t473 1).bind fun t484 => (if t484 < 0 then (some false) else (if t484 = t472 then (some true) else (some false)))) else (some false)) else (some false))))) else (some false))) = some true := H
              have A22 := Aside0.mk A220
              clear A220
              by_cases c23 : t474 < 0
              · rw [if_pos c23] at H
                have c23b0 : decide (t474 < 0) = true := decide_eq_true c23
                clear c23
                exact absurd H (by simp)
              · rw [if_neg c23] at H
                have c23b0 : decide (t474 < 0) = false := decide_eq_false c23
                clear c23
                by_cases c24 : t474 = t472
                · rw [if_pos c24] at H
                  have c24b0 : (t474 == t472) = true := beq_iff_eq.mpr c24
                  have c24b1 : (t474 != t472) = false := bne_eq_false_iff_eq.mpr c24
                  clear c24
                  replace H := Option.bind_eq_some_iff.mp H
                  obtain ⟨⟨t475, t476⟩, A250, H⟩ := H
                  replace H : ((impl_EdgeMatrix.f k t475 t476).bind fun bt479 => ((laws_eqInt64SS.f k bt479.1 t450).bind fun t483 => (if t483 = true then (if bt479.2 = t453 then ((laws_heldInt64SS.f k t473 1).bind fun t484 => (if t484 < 0 then (some false) else (if t484 = t472 then (some true) else (some false)))) else (some false)) else (some false)))) = some true := H
                  have A25 := Aside0.mk A250
                  clear A250
                  replace H := Option.bind_eq_some_iff.mp H
                  obtain ⟨⟨t479, t482⟩, A260, H⟩ := H
                  replace H : ((laws_eqInt64SS.f k t479 t450).bind fun t483 => (if t483 = true then (if t482 = t453 then ((laws_heldInt64SS.f k t473 1).bind fun t484 => (if t484 < 0 then (some false) else (if t484 = t472 then (some true) else (some false)))) else (some false)) else (some false))) = some true := H
                  have A26 := Aside0.mk A260
                  clear A260
                  replace H := Option.bind_eq_some_iff.mp H
                  obtain ⟨t483, A270, H⟩ := H
                  replace H : (if t483 = true then (if t482 = t453 then ((laws_heldInt64SS.f k t473 1).bind fun t484 => (if t484 < 0 then (some false) else (if t484 = t472 then (some true) else (some false)))) else (some false)) else (some false)) = some true := H
                  have A27 := Aside0.mk A270
                  clear A270
                  by_cases c28 : t483 = true
                  · subst c28
                    have H1 : (if t482 = t453 then ((laws_heldInt64SS.f k t473 1).bind fun t484 => (if t484 < 0 then (some false) else (if t484 = t472 then (some true) else (some false)))) else (some false)) = some true := by rw [if_pos rfl] at H; exact H
                    clear H
                    have H := H1
                    clear H1
                    by_cases c29 : t482 = t453
                    · rw [if_pos c29] at H
                      have c29b0 : (t482 == t453) = true := beq_iff_eq.mpr c29
                      have c29b1 : (t482 != t453) = false := bne_eq_false_iff_eq.mpr c29
                      clear c29
                      replace H := Option.bind_eq_some_iff.mp H
                      obtain ⟨t484, A300, H⟩ := H
                      replace H : (if t484 < 0 then (some false) else (if t484 = t472 then (some true) else (some false))) = some true := H
                      have A30 := Aside0.mk A300
                      clear A300
                      by_cases c31 : t484 < 0
                      · rw [if_pos c31] at H
                        have c31b0 : decide (t484 < 0) = true := decide_eq_true c31
                        clear c31
                        exact absurd H (by simp)
                      · rw [if_neg c31] at H
                        have c31b0 : decide (t484 < 0) = false := decide_eq_false c31
                        clear c31
                        by_cases c32 : t484 = t472
                        · rw [if_pos c32] at H
                          have c32b0 : (t484 == t472) = true := beq_iff_eq.mpr c32
                          have c32b1 : (t484 != t472) = false := bne_eq_false_iff_eq.mpr c32
                          clear c32
                          try clear H
                          go_enter Try.func6, Try.ntmps6
                          try go_wp2_with (first | ((with_reducible refine gate_dst (N := 1) rfl ?_); refine box_event ?hg (N := 1) ?hd (cs := #[.int .i64 a0_0, .slice A0_1 l0_1.length c0_1]) (t := 24) ?hr ?_; (case hd => rfl); (case hg => rfl); (case hr => first | (go_simp; done) | (go_simp; rfl)); intro gb444 hg w33 hbox hb; have n0_ := Aside0.mk (hb.size); have n1_ := Aside0.mk ((⟨Nat.le_of_eq hg.symm, blk_lt hbox⟩ : w.heap.size ≤ gb444 ∧ gb444 < w33.heap.size)); have n2_ := Aside0.mk (below_step (by repeat (first | (with_reducible first | exact HB.out | apply below_alloc | apply pw_below_drewN | apply below_drew1) | exact HB.out)) hb); have n3_ := Aside0.mk (hbox); have n4_ := Aside0.mk ((by rw [hg]; exact (below_size (by repeat (first | (with_reducible first | exact HB.out | apply below_alloc | apply pw_below_drewN | apply below_drew1) | exact HB.out))) : w.heap.size ≤ gb444)); have n5_ := Aside0.mk ((by rw [hg]; exact (below_size (by repeat (first | (with_reducible first | exact HB.out | apply below_alloc | apply pw_below_drewN | apply below_drew1) | exact HB.out))) : w.heap.size ≤ gb444)); clear HB; have Zw33 := n0_; have ZB444 := n1_; have HB := n2_; have BK444 := n3_; have GW444 := n4_; have GE444 := n5_; clear n0_ n1_ n2_ n3_ n4_ n5_; clear hb hbox hg; have hcz34_0 : w33.cell? ⟨gb444, 0, none⟩ = some (.int .i64 a0_0) := (blk_cell BK444.out 0).trans rfl; have hcz34_1 : w33.cell? ⟨gb444, 1, none⟩ = some (.slice A0_1 l0_1.length c0_1) := (blk_cell BK444.out 1).trans rfl; have hfz34_0 := blk_frozen BK444.out 0; have hfz34_1 := blk_frozen BK444.out 1) | ((with_reducible refine gate_callee (f := 15) rfl ?_); refine goesL_ (some 16) rfl rfl Try.func15 (by kernel_rfl) rfl #[.agg #[.int .i64 a0_0, .slice A0_1 l0_1.length c0_1], .int .i64 1048576] rfl (by (try simp only [List.map_toArray, List.map_cons, List.map_nil]); first | done | rfl) ?_; (with_reducible refine (laws_szGraph.calls k a0_0 _ _ l0_1 1048576 t445 _ ?side1 ?side2 A2.out).mono ?_); (case side1 => exact (Kd.C_below HR0_1.out HB.out)); (case side2 => exact HC0_1.out); rintro e w35 ⟨rfl, hb⟩; refine ⟨_, rfl, ?_⟩; have n0_ := Aside0.mk (blk_below (g := gb444) (o := .cells #[.int .i64 a0_0, .slice A0_1 l0_1.length c0_1] 24 (0, 0)) (by (with_reducible repeat (first | refine blk_drewN ?_ _ | refine blk_drew ?_ | refine blk_alloc ?_ _)); exact BK444.out) hb); have n1_ := Aside0.mk (below_step HB.out hb); have n2_ := Aside0.mk (hb.size); clear BK444; clear HB; have BK444 := n0_; have HB := n1_; have Zw35 := n2_; clear n0_ n1_ n2_; (try clear hb); (try clear hkp); (try clear hd_); have hcz36_0 : w35.cell? ⟨gb444, 0, none⟩ = some (.int .i64 a0_0) := (blk_cell BK444.out 0).trans rfl; have hcz36_1 : w35.cell? ⟨gb444, 1, none⟩ = some (.slice A0_1 l0_1.length c0_1) := (blk_cell BK444.out 1).trans rfl; have hfz36_0 := blk_frozen BK444.out 0; have hfz36_1 := blk_frozen BK444.out 1) | ((with_reducible refine gate_callee (f := 17) rfl ?_); refine goesL_ (some 21) rfl rfl Try.func17 (by kernel_rfl) rfl #[.agg #[.int .i64 a0_0, .slice A0_1 l0_1.length c0_1]] rfl (by (try simp only [List.map_toArray, List.map_cons, List.map_nil]); first | done | rfl) ?_; (with_reducible refine (laws_toGraph.calls k a0_0 _ _ l0_1 t446 t447 _ ?side1 ?side2 A7.out).mono ?_); (case side1 => exact (Kd.C_below HR0_1.out HB.out)); (case side2 => exact HC0_1.out); rintro e w37 ⟨v448, rfl, ho0, hb⟩; refine ⟨_, rfl, ?_⟩; have n0_ := Aside0.mk (blk_below (g := gb444) (o := .cells #[.int .i64 a0_0, .slice A0_1 l0_1.length c0_1] 24 (0, 0)) (by (with_reducible repeat (first | refine blk_drewN ?_ _ | refine blk_drew ?_ | refine blk_alloc ?_ _)); exact BK444.out) hb); have n1_ := Aside0.mk (Kd.S_lower (Kd.S_mono (Kd.S_bound ho0) (fun k_ hk_ => (⟨hk_.2.1, hk_.2.2.1⟩ : w35.heap.size ≤ k_ ∧ k_ < w37.heap.size))) HB.out.size); have n2_ := Aside0.mk (below_step HB.out hb); have n3_ := Aside0.mk (hb.size); clear BK444; clear HB; have BK444 := n0_; have HO449 := n1_; have HB := n2_; have Zw37 := n3_; clear n0_ n1_ n2_ n3_; (try clear hb); (try clear hkp); (try clear hd_); (try clear ho0); obtain ⟨Ao38, co38, eo38⟩ := Kd.S_slice HO449.out; subst eo38) | ((with_reducible refine gate_callee (f := 30) rfl ?_); refine goesL_ (some 22) rfl rfl Try.func30 (by kernel_rfl) rfl #[.agg #[.int .i64 t446, .slice Ao38 t447.length co38]] rfl (by (try simp only [List.map_toArray, List.map_cons, List.map_nil]); first | done | rfl) ?_; (with_reducible refine (spec_EdgeMatrix.calls k t446 _ _ t447 t450 t453 _ ?side1 ?side2 A8.out).mono ?_); (case side1 => exact (Kd.S_reads' HO449.out).2.2); (case side2 => (have e_ := Kd.S_reads' HO449.out; have e1_ := e_.1; have e2_ := e_.2.1; omega)); rintro e w39 ⟨v451, rfl, ho0, hb⟩; refine ⟨_, rfl, ?_⟩; have n0_ := Aside0.mk (blk_below (g := gb444) (o := .cells #[.int .i64 a0_0, .slice A0_1 l0_1.length c0_1] 24 (0, 0)) (by (with_reducible repeat (first | refine blk_drewN ?_ _ | refine blk_drew ?_ | refine blk_alloc ?_ _)); exact BK444.out) hb); have n1_ := Aside0.mk (Kd.S_below HO449.out hb); have n2_ := Aside0.mk (Kd.S_lower (Kd.S_mono (Kd.S_bound ho0) (fun k_ hk_ => (⟨hk_.2.1, hk_.2.2.1⟩ : w37.heap.size ≤ k_ ∧ k_ < w39.heap.size))) HB.out.size); have n3_ := Aside0.mk (below_step HB.out hb); have n4_ := Aside0.mk (hb.size); clear BK444; clear HO449; clear HB; have BK444 := n0_; have HO449 := n1_; have HO452 := n2_; have HB := n3_; have Zw39 := n4_; clear n0_ n1_ n2_ n3_ n4_; (try clear hb); (try clear hkp); (try clear hd_); (try clear ho0); obtain ⟨Ao40, co40, eo40⟩ := Kd.S_slice HO452.out; subst eo40; have hcz41_0 : w39.cell? ⟨gb444, 0, none⟩ = some (.int .i64 a0_0) := (blk_cell BK444.out 0).trans rfl; have hcz41_1 : w39.cell? ⟨gb444, 1, none⟩ = some (.slice A0_1 l0_1.length c0_1) := (blk_cell BK444.out 1).trans rfl; have hfz41_0 := blk_frozen BK444.out 0; have hfz41_1 := blk_frozen BK444.out 1) | ((with_reducible refine gate_callee (f := 17) rfl ?_); refine goesL_ (some 26) rfl rfl Try.func17 (by kernel_rfl) rfl #[.agg #[.int .i64 a0_0, .slice A0_1 l0_1.length c0_1]] rfl (by (try simp only [List.map_toArray, List.map_cons, List.map_nil]); first | done | rfl) ?_; (with_reducible refine (laws_toGraph.calls k a0_0 _ _ l0_1 t454 t455 _ ?side1 ?side2 A9.out).mono ?_); (case side1 => exact (Kd.C_below HR0_1.out HB.out)); (case side2 => exact HC0_1.out); rintro e w42 ⟨v456, rfl, ho0, hb⟩; refine ⟨_, rfl, ?_⟩; have n0_ := Aside0.mk (blk_below (g := gb444) (o := .cells #[.int .i64 a0_0, .slice A0_1 l0_1.length c0_1] 24 (0, 0)) (by (with_reducible repeat (first | refine blk_drewN ?_ _ | refine blk_drew ?_ | refine blk_alloc ?_ _)); exact BK444.out) hb); have n1_ := Aside0.mk (Kd.S_below HO449.out hb); have n2_ := Aside0.mk (Kd.S_below HO452.out hb); have n3_ := Aside0.mk (Kd.S_lower (Kd.S_mono (Kd.S_bound ho0) (fun k_ hk_ => (⟨hk_.2.1, hk_.2.2.1⟩ : w39.heap.size ≤ k_ ∧ k_ < w42.heap.size))) HB.out.size); have n4_ := Aside0.mk (below_step HB.out hb); have n5_ := Aside0.mk (hb.size); clear BK444; clear HO449; clear HO452; clear HB; have BK444 := n0_; have HO449 := n1_; have HO452 := n2_; have HO457 := n3_; have HB := n4_; have Zw42 := n5_; clear n0_ n1_ n2_ n3_ n4_ n5_; (try clear hb); (try clear hkp); (try clear hd_); (try clear ho0); obtain ⟨Ao43, co43, eo43⟩ := Kd.S_slice HO457.out; subst eo43) | ((with_reducible refine gate_dst (N := 6) rfl ?_); refine box_event ?hg (N := 6) ?hd (cs := #[.int .i64 0, .slice none 0 0]) (t := 29) ?hr ?_; (case hd => rfl); (case hg => rfl); (case hr => first | (go_simp; done) | (go_simp; rfl)); intro gb458 hg w44 hbox hb; have n0_ := Aside0.mk (Kd.S_below HO449.out hb); have n1_ := Aside0.mk (Kd.S_below HO452.out hb); have n2_ := Aside0.mk (Kd.S_below HO457.out hb); have n3_ := Aside0.mk (blk_below (g := gb444) (o := .cells #[.int .i64 a0_0, .slice A0_1 l0_1.length c0_1] 24 (0, 0)) (by (with_reducible repeat (first | refine blk_drewN ?_ _ | refine blk_drew ?_ | refine blk_alloc ?_ _)); exact BK444.out) hb); have n4_ := Aside0.mk (hb.size); have n5_ := Aside0.mk ((⟨Nat.le_of_eq hg.symm, blk_lt hbox⟩ : w42.heap.size ≤ gb458 ∧ gb458 < w44.heap.size)); have n6_ := Aside0.mk (below_step (by repeat (first | (with_reducible first | exact HB.out | apply below_alloc | apply pw_below_drewN | apply below_drew1 | refine below_set ?_ GE444.out) | exact HB.out)) hb); have n7_ := Aside0.mk (hbox); have n8_ := Aside0.mk ((by rw [hg]; exact (below_size (by repeat (first | (with_reducible first | exact HB.out | apply below_alloc | apply pw_below_drewN | apply below_drew1 | refine below_set ?_ GE444.out) | exact HB.out))) : w.heap.size ≤ gb458)); have n9_ := Aside0.mk ((by rw [hg]; exact (below_size (by repeat (first | (with_reducible first | exact HB.out | apply below_alloc | apply pw_below_drewN | apply below_drew1 | refine below_set ?_ GE444.out) | exact HB.out))) : w.heap.size ≤ gb458)); have n10_ := Aside0.mk ((by rw [hg]; exact Nat.ne_of_lt (blk_lt (g := gb444) (o := .cells #[.int .i64 a0_0, .slice A0_1 l0_1.length c0_1] 24 (0, 0)) (by (with_reducible repeat (first | refine blk_drewN ?_ _ | refine blk_drew ?_ | refine blk_alloc ?_ _)); exact BK444.out)) : gb444 ≠ gb458)); have n11_ := Aside0.mk ((by rw [hg]; exact Nat.ne_of_gt (blk_lt (g := gb444) (o := .cells #[.int .i64 a0_0, .slice A0_1 l0_1.length c0_1] 24 (0, 0)) (by (with_reducible repeat (first | refine blk_drewN ?_ _ | refine blk_drew ?_ | refine blk_alloc ?_ _)); exact BK444.out)) : gb458 ≠ gb444)); clear HO449; clear HO452; clear HO457; clear BK444; clear HB; have HO449 := n0_; have HO452 := n1_; have HO457 := n2_; have BK444 := n3_; have Zw44 := n4_; have ZB458 := n5_; have HB := n6_; have BK458 := n7_; have GW458 := n8_; have GE458 := n9_; have NB444_458 := n10_; have NB458_444 := n11_; clear n0_ n1_ n2_ n3_ n4_ n5_ n6_ n7_ n8_ n9_ n10_ n11_; clear hb hbox hg; have hnb45 := NB458_444.out; have hnc45 := NB444_458.out; have hcz46_0 : w44.cell? ⟨gb458, 0, none⟩ = some (.int .i64 0) := (blk_cell BK458.out 0).trans rfl; have hcz46_1 : w44.cell? ⟨gb458, 1, none⟩ = some (.slice none 0 0) := (blk_cell BK458.out 1).trans rfl; have hfz46_0 := blk_frozen BK458.out 0; have hfz46_1 := blk_frozen BK458.out 1) | ((with_reducible refine gate_callee (f := 31) rfl ?_); have n0_ := Aside0.mk (show ((w44.setCell ⟨gb458, 0, none⟩ (.int .i64 t454)).setCell ⟨gb458, 1, none⟩ (.slice Ao43 t455.length co43)).heap[gb444]? = some (.cells #[.int .i64 a0_0, .slice A0_1 l0_1.length c0_1] 24 (0, 0)) from (by (with_reducible repeat (first | refine blk_drewN ?_ _ | refine blk_drew ?_ | refine blk_alloc ?_ _)); refine blk_far ?_ NB444_458.out _; (with_reducible repeat (first | refine blk_drewN ?_ _ | refine blk_drew ?_ | refine blk_alloc ?_ _)); refine blk_far ?_ NB444_458.out _; (with_reducible repeat (first | refine blk_drewN ?_ _ | refine blk_drew ?_ | refine blk_alloc ?_ _)); exact BK444.out)); have n1_ := Aside0.mk (show Kd.S (Kd.slice 2 (Kd.int .i64)) 25 ((w44.setCell ⟨gb458, 0, none⟩ (.int .i64 t454)).setCell ⟨gb458, 1, none⟩ (.slice Ao43 t455.length co43)) w.heap.size (fun k_ => w35.heap.size ≤ k_ ∧ k_ < w37.heap.size) (.slice Ao38 t447.length co38) t447 from (Kd.S_far (Kd.S_far HO449.out (fun k_ ho_ => (show k_ ≠ gb458 from by have h1_ := ho_.1; have h2_ := ho_.2; have h3_ := ZB458.out.1; have h4_ := ZB458.out.2; have z0_ := Zw33.out; have z1_ := Zw35.out; have z2_ := Zw37.out; have z3_ := Zw39.out; have z4_ := Zw42.out; have z5_ := Zw44.out; omega)) _) (fun k_ ho_ => (show k_ ≠ gb458 from by have h1_ := ho_.1; have h2_ := ho_.2; have h3_ := ZB458.out.1; have h4_ := ZB458.out.2; have z0_ := Zw33.out; have z1_ := Zw35.out; have z2_ := Zw37.out; have z3_ := Zw39.out; have z4_ := Zw42.out; have z5_ := Zw44.out; omega)) _)); have n2_ := Aside0.mk (show Kd.S (Kd.slice 2 (Kd.int .i64)) 25 ((w44.setCell ⟨gb458, 0, none⟩ (.int .i64 t454)).setCell ⟨gb458, 1, none⟩ (.slice Ao43 t455.length co43)) w.heap.size (fun k_ => w37.heap.size ≤ k_ ∧ k_ < w39.heap.size) (.slice Ao40 t450.length co40) t450 from (Kd.S_far (Kd.S_far HO452.out (fun k_ ho_ => (show k_ ≠ gb458 from by have h1_ := ho_.1; have h2_ := ho_.2; have h3_ := ZB458.out.1; have h4_ := ZB458.out.2; have z0_ := Zw33.out; have z1_ := Zw35.out; have z2_ := Zw37.out; have z3_ := Zw39.out; have z4_ := Zw42.out; have z5_ := Zw44.out; omega)) _) (fun k_ ho_ => (show k_ ≠ gb458 from by have h1_ := ho_.1; have h2_ := ho_.2; have h3_ := ZB458.out.1; have h4_ := ZB458.out.2; have z0_ := Zw33.out; have z1_ := Zw35.out; have z2_ := Zw37.out; have z3_ := Zw39.out; have z4_ := Zw42.out; have z5_ := Zw44.out; omega)) _)); have n3_ := Aside0.mk (show Kd.S (Kd.slice 2 (Kd.int .i64)) 25 ((w44.setCell ⟨gb458, 0, none⟩ (.int .i64 t454)).setCell ⟨gb458, 1, none⟩ (.slice Ao43 t455.length co43)) w.heap.size (fun k_ => w39.heap.size ≤ k_ ∧ k_ < w42.heap.size) (.slice Ao43 t455.length co43) t455 from (Kd.S_far (Kd.S_far HO457.out (fun k_ ho_ => (show k_ ≠ gb458 from by have h1_ := ho_.1; have h2_ := ho_.2; have h3_ := ZB458.out.1; have h4_ := ZB458.out.2; have z0_ := Zw33.out; have z1_ := Zw35.out; have z2_ := Zw37.out; have z3_ := Zw39.out; have z4_ := Zw42.out; have z5_ := Zw44.out; omega)) _) (fun k_ ho_ => (show k_ ≠ gb458 from by have h1_ := ho_.1; have h2_ := ho_.2; have h3_ := ZB458.out.1; have h4_ := ZB458.out.2; have z0_ := Zw33.out; have z1_ := Zw35.out; have z2_ := Zw37.out; have z3_ := Zw39.out; have z4_ := Zw42.out; have z5_ := Zw44.out; omega)) _)); have n4_ := Aside0.mk (show ((w44.setCell ⟨gb458, 0, none⟩ (.int .i64 t454)).setCell ⟨gb458, 1, none⟩ (.slice Ao43 t455.length co43)).heap[gb458]? = some (.cells #[.int .i64 t454, .slice Ao43 t455.length co43] 29 (0, 0)) from (by (with_reducible repeat (first | refine blk_drewN ?_ _ | refine blk_drew ?_ | refine blk_alloc ?_ _)); refine blk_put (cs := #[.int .i64 t454, .slice none 0 0]) ?_ 1 _ rfl; (with_reducible repeat (first | refine blk_drewN ?_ _ | refine blk_drew ?_ | refine blk_alloc ?_ _)); refine blk_put (cs := #[.int .i64 0, .slice none 0 0]) ?_ 0 _ rfl; (with_reducible repeat (first | refine blk_drewN ?_ _ | refine blk_drew ?_ | refine blk_alloc ?_ _)); exact BK458.out)); have n5_ := Aside0.mk (show Below w.heap.size w ((w44.setCell ⟨gb458, 0, none⟩ (.int .i64 t454)).setCell ⟨gb458, 1, none⟩ (.slice Ao43 t455.length co43)) from (below_set (below_set HB.out GE458.out) GE458.out)); have n6_ := Aside0.mk (show w44.heap.size ≤ ((w44.setCell ⟨gb458, 0, none⟩ (.int .i64 t454)).setCell ⟨gb458, 1, none⟩ (.slice Ao43 t455.length co43)).heap.size from (Kept.setCell (Kept.setCell (Kept.refl w44 (fun _ => True)) (.inl trivial) _) (.inl trivial) _).1); clear BK444; clear HO449; clear HO452; clear HO457; clear BK458; clear HB; generalize hW_ : ((w44.setCell ⟨gb458, 0, none⟩ (.int .i64 t454)).setCell ⟨gb458, 1, none⟩ (.slice Ao43 t455.length co43)) = w47 at n0_ n1_ n2_ n3_ n4_ n5_ n6_ ⊢; clear hW_; have BK444 := n0_; have HO449 := n1_; have HO452 := n2_; have HO457 := n3_; have BK458 := n4_; have HB := n5_; have Zw47 := n6_; clear n0_ n1_ n2_ n3_ n4_ n5_ n6_; refine goesL_ (some 29) rfl rfl Try.func31 (by kernel_rfl) rfl #[.agg #[.int .i64 t454, .slice Ao43 t455.length co43]] rfl (by (try simp only [List.map_toArray, List.map_cons, List.map_nil]); first | done | rfl) ?_; (with_reducible refine (impl_EdgeMatrix.calls k t454 _ _ t455 t459 t462 _ ?side1 ?side2 A10.out).mono ?_); (case side1 => exact (Kd.S_reads' HO457.out).2.2); (case side2 => (have e_ := Kd.S_reads' HO457.out; have e1_ := e_.1; have e2_ := e_.2.1; omega)); rintro e w48 ⟨v460, rfl, ho0, hb⟩; refine ⟨_, rfl, ?_⟩; have n0_ := Aside0.mk (blk_below (g := gb444) (o := .cells #[.int .i64 a0_0, .slice A0_1 l0_1.length c0_1] 24 (0, 0)) (by (with_reducible repeat (first | refine blk_drewN ?_ _ | refine blk_drew ?_ | refine blk_alloc ?_ _)); exact BK444.out) hb); have n1_ := Aside0.mk (Kd.S_below HO449.out hb); have n2_ := Aside0.mk (Kd.S_below HO452.out hb); have n3_ := Aside0.mk (Kd.S_below HO457.out hb); have n4_ := Aside0.mk (blk_below (g := gb458) (o := .cells #[.int .i64 t454, .slice Ao43 t455.length co43] 29 (0, 0)) (by (with_reducible repeat (first | refine blk_drewN ?_ _ | refine blk_drew ?_ | refine blk_alloc ?_ _)); exact BK458.out) hb); have n5_ := Aside0.mk (Kd.S_lower (Kd.S_mono (Kd.S_bound ho0) (fun k_ hk_ => (⟨hk_.2.1, hk_.2.2.1⟩ : w47.heap.size ≤ k_ ∧ k_ < w48.heap.size))) HB.out.size); have n6_ := Aside0.mk (below_step HB.out hb); have n7_ := Aside0.mk (hb.size); clear BK444; clear HO449; clear HO452; clear HO457; clear BK458; clear HB; have BK444 := n0_; have HO449 := n1_; have HO452 := n2_; have HO457 := n3_; have BK458 := n4_; have HO461 := n5_; have HB := n6_; have Zw48 := n7_; clear n0_ n1_ n2_ n3_ n4_ n5_ n6_ n7_; (try clear hb); (try clear hkp); (try clear hd_); (try clear ho0); obtain ⟨Ao49, co49, eo49⟩ := Kd.S_slice HO461.out; subst eo49) | ((with_reducible refine gate_callee (f := 24) rfl ?_); refine goesL_ (some 34) rfl rfl Try.func24 (by kernel_rfl) rfl #[.slice Ao49 t459.length co49, .slice Ao40 t450.length co40] rfl (by (try simp only [List.map_toArray, List.map_cons, List.map_nil]); first | done | rfl) ?_; (with_reducible refine (laws_eqInt64SS.calls k _ _ t459 _ _ t450 true _ ?side1 ?side2 ?side3 ?side4 A11.out).mono ?_); (case side1 => exact (Kd.S_reads' HO461.out).2.2); (case side2 => (have e_ := Kd.S_reads' HO461.out; have e1_ := e_.1; have e2_ := e_.2.1; omega)); (case side3 => exact (Kd.S_reads' HO452.out).2.2); (case side4 => (have e_ := Kd.S_reads' HO452.out; have e1_ := e_.1; have e2_ := e_.2.1; omega)); rintro e w50 ⟨rfl, hd_⟩; refine ⟨_, rfl, ?_⟩; have hb := hd_.below; have n0_ := Aside0.mk (blk_below (g := gb444) (o := .cells #[.int .i64 a0_0, .slice A0_1 l0_1.length c0_1] 24 (0, 0)) (by (with_reducible repeat (first | refine blk_drewN ?_ _ | refine blk_drew ?_ | refine blk_alloc ?_ _)); exact BK444.out) hb); have n1_ := Aside0.mk (Kd.S_below HO449.out hb); have n2_ := Aside0.mk (Kd.S_below HO452.out hb); have n3_ := Aside0.mk (Kd.S_below HO457.out hb); have n4_ := Aside0.mk (blk_below (g := gb458) (o := .cells #[.int .i64 t454, .slice Ao43 t455.length co43] 29 (0, 0)) (by (with_reducible repeat (first | refine blk_drewN ?_ _ | refine blk_drew ?_ | refine blk_alloc ?_ _)); exact BK458.out) hb); have n5_ := Aside0.mk (Kd.S_below HO461.out hb); have n6_ := Aside0.mk (below_step HB.out hb); have n7_ := Aside0.mk (hb.size); clear BK444; clear HO449; clear HO452; clear HO457; clear BK458; clear HO461; clear HB; have BK444 := n0_; have HO449 := n1_; have HO452 := n2_; have HO457 := n3_; have BK458 := n4_; have HO461 := n5_; have HB := n6_; have Zw50 := n7_; clear n0_ n1_ n2_ n3_ n4_ n5_ n6_ n7_; (try clear hb); (try clear hkp); (try clear hd_)))
                          have n0_ := Aside0.mk ((show w50.heap.size ≤ w50.drew.heap.size from Nat.le_refl _))
                          have n1_ := Aside0.mk (Kd.S_drew HO449.out)
                          have n2_ := Aside0.mk (Kd.S_drew HO452.out)
                          have n3_ := Aside0.mk (Kd.S_drew HO457.out)
                          have n4_ := Aside0.mk (Kd.S_drew HO461.out)
                          have n5_ := Aside0.mk (blk_drew BK444.out)
                          have n6_ := Aside0.mk (blk_drew BK458.out)
                          have n7_ := Aside0.mk (below_drew1 HB.out)
                          clear HO449
                          clear HO452
                          clear HO457
                          clear HO461
                          clear BK444
                          clear BK458
                          clear HB
                          have Zw51 := n0_
                          have HO449 := n1_
                          have HO452 := n2_
                          have HO457 := n3_
                          have HO461 := n4_
                          have BK444 := n5_
                          have BK458 := n6_
                          have HB := n7_
                          clear n0_ n1_ n2_ n3_ n4_ n5_ n6_ n7_
                          refine start_ (n := 5) (S := fun w' => w'.cell? ⟨gb458, 0, none⟩ = some (.int .i64 t454) ∧ w'.cell? ⟨gb458, 1, none⟩ = some (.slice Ao43 t455.length co43) ∧ w'.cell? ⟨gb444, 0, none⟩ = some (.int .i64 a0_0) ∧ w'.cell? ⟨gb444, 1, none⟩ = some (.slice A0_1 l0_1.length c0_1)) (ds := []) #[false, false, false, false, false] (by kernel_rfl) rfl rfl ⟨(blk_cell BK458.out 0).trans rfl, (blk_cell BK458.out 1).trans rfl, (blk_cell BK444.out 0).trans rfl, (blk_cell BK444.out 1).trans rfl⟩ (fun hHeld => ?_)
                          generalize w50.drew = w51 at HO449 HO452 HO457 HO461 BK444 BK458 HB Zw51 hHeld ⊢
                          refine take_ (i := 0) (N := some 41) (v := ?_) (a' := ?_) #[true, false, false, false, false] rfl rfl (by kernel_rfl) (fun _ _ _ h => h) (Or.inl ⟨by rfl, ?_⟩) hHeld ?_ ?_
                          rotate_left
                          · rintro w' ⟨s0, s1, s2, s3⟩
                            go_simp
                            with_reducible rfl
                          rotate_left
                          · simp only [Act.put, List.setIfInBounds_toArray, List.set_cons_zero, List.set_cons_succ, i64_w, i32_w]
                            rfl
                          refine take_ (i := 1) (N := some 42) (v := ?_) (a' := ?_) #[true, true, false, false, false] rfl rfl (by kernel_rfl) (fun _ _ _ h => h) (Or.inl ⟨by rfl, ?_⟩) hHeld ?_ ?_
                          rotate_left
                          · rintro w' ⟨s0, s1, s2, s3⟩
                            go_simp
                            with_reducible rfl
                          rotate_left
                          · simp only [Act.put, List.setIfInBounds_toArray, List.set_cons_zero, List.set_cons_succ, i64_w, i32_w]
                            rfl
                          refine one_ (i := 2) (N := some 43) #[true, true, true, false, false] rfl rfl (by kernel_rfl) (by decide) (fun K hK => ?_)
                          refine goes_ Try.func17 (by kernel_rfl) rfl #[.agg #[.int .i64 a0_0, .slice A0_1 l0_1.length c0_1]] (by rfl) rfl rfl (by (try simp only [List.map_toArray, List.map_cons, List.map_nil]); first | done | rfl | (simp only [List.length_drop, List.length_take]; rfl)) ?_
                          with_reducible refine (laws_toGraph.calls k a0_0 _ _ l0_1 t464 t465 _ ?side1 ?side2 A14.out).mono ?_
                          (case side1 => exact (Kd.C_below HR0_1.out HB.out))
                          (case side2 => exact HC0_1.out)
                          rintro e w52 ⟨v466, rfl, ho0, hb⟩
                          refine ⟨_, rfl, ?_⟩
                          have n0_ := Aside0.mk (blk_below (g := gb444) (o := .cells #[.int .i64 a0_0, .slice A0_1 l0_1.length c0_1] 24 (0, 0)) (by (with_reducible repeat (first | refine blk_drewN ?_ _ | refine blk_drew ?_ | refine blk_alloc ?_ _)); exact BK444.out) hb)
                          have n1_ := Aside0.mk (Kd.S_below HO449.out hb)
                          have n2_ := Aside0.mk (Kd.S_below HO452.out hb)
                          have n3_ := Aside0.mk (Kd.S_below HO457.out hb)
                          have n4_ := Aside0.mk (blk_below (g := gb458) (o := .cells #[.int .i64 t454, .slice Ao43 t455.length co43] 29 (0, 0)) (by (with_reducible repeat (first | refine blk_drewN ?_ _ | refine blk_drew ?_ | refine blk_alloc ?_ _)); exact BK458.out) hb)
                          have n5_ := Aside0.mk (Kd.S_below HO461.out hb)
                          have n6_ := Aside0.mk (Kd.S_lower (Kd.S_mono (Kd.S_bound ho0) (fun k_ hk_ => (⟨hk_.2.1, hk_.2.2.1⟩ : w51.heap.size ≤ k_ ∧ k_ < w52.heap.size))) HB.out.size)
                          have n7_ := Aside0.mk (below_step HB.out hb)
                          have n8_ := Aside0.mk (hb.size)
                          clear BK444
                          clear HO449
                          clear HO452
                          clear HO457
                          clear BK458
                          clear HO461
                          clear HB
                          have BK444 := n0_
                          have HO449 := n1_
                          have HO452 := n2_
                          have HO457 := n3_
                          have BK458 := n4_
                          have HO461 := n5_
                          have HO467 := n6_
                          have HB := n7_
                          have Zw52 := n8_
                          clear n0_ n1_ n2_ n3_ n4_ n5_ n6_ n7_ n8_
                          (try clear hb)
                          (try clear hkp)
                          (try clear hd_)
                          (try clear ho0)
                          obtain ⟨Ao53, co53, eo53⟩ := Kd.S_slice HO467.out
                          subst eo53
                          refine hK.out _ _ ⟨(blk_cell BK458.out 0).trans rfl, (blk_cell BK458.out 1).trans rfl, (blk_cell BK444.out 0).trans rfl, (blk_cell BK444.out 1).trans rfl⟩ (fun hHeld => ?_)
                          clear hK K
                          refine norm_ (a' := ?_) ?_ ?_
                          rotate_left
                          · show Act.put _ (some 43) _ = _
                            simp only [Act.put, List.setIfInBounds_toArray, List.set_cons_zero, List.set_cons_succ, i64_w, i32_w]
                            rfl
                          refine one_ (i := 3) (N := some 44) #[true, true, true, true, false] rfl rfl (by kernel_rfl) (by decide) (fun K hK => ?_)
                          refine goes_ Try.func20 (by kernel_rfl) rfl #[.agg #[.int .i64 t454, .slice Ao43 t455.length co43], .agg #[.int .i64 t464, .slice Ao53 t465.length co53]] (by rfl) rfl rfl (by (try simp only [List.map_toArray, List.map_cons, List.map_nil]); first | done | rfl | (simp only [List.length_drop, List.length_take]; rfl)) ?_
                          with_reducible refine (laws_eqGraph.calls k t454 _ _ t455 t464 _ _ t465 true _ ?side1 ?side2 ?side3 ?side4 A15.out).mono ?_
                          (case side1 => exact (Kd.S_reads' HO457.out).2.2)
                          (case side2 => (have e_ := Kd.S_reads' HO457.out; have e1_ := e_.1; have e2_ := e_.2.1; omega))
                          (case side3 => exact (Kd.S_reads' HO467.out).2.2)
                          (case side4 => (have e_ := Kd.S_reads' HO467.out; have e1_ := e_.1; have e2_ := e_.2.1; omega))
                          rintro e w54 ⟨rfl, hb⟩
                          refine ⟨_, rfl, ?_⟩
                          have n0_ := Aside0.mk (blk_below (g := gb444) (o := .cells #[.int .i64 a0_0, .slice A0_1 l0_1.length c0_1] 24 (0, 0)) (by (with_reducible repeat (first | refine blk_drewN ?_ _ | refine blk_drew ?_ | refine blk_alloc ?_ _)); exact BK444.out) hb)
                          have n1_ := Aside0.mk (Kd.S_below HO449.out hb)
                          have n2_ := Aside0.mk (Kd.S_below HO452.out hb)
                          have n3_ := Aside0.mk (Kd.S_below HO457.out hb)
                          have n4_ := Aside0.mk (blk_below (g := gb458) (o := .cells #[.int .i64 t454, .slice Ao43 t455.length co43] 29 (0, 0)) (by (with_reducible repeat (first | refine blk_drewN ?_ _ | refine blk_drew ?_ | refine blk_alloc ?_ _)); exact BK458.out) hb)
                          have n5_ := Aside0.mk (Kd.S_below HO461.out hb)
                          have n6_ := Aside0.mk (Kd.S_below HO467.out hb)
                          have n7_ := Aside0.mk (below_step HB.out hb)
                          have n8_ := Aside0.mk (hb.size)
                          clear BK444
                          clear HO449
                          clear HO452
                          clear HO457
                          clear BK458
                          clear HO461
                          clear HO467
                          clear HB
                          have BK444 := n0_
                          have HO449 := n1_
                          have HO452 := n2_
                          have HO457 := n3_
                          have BK458 := n4_
                          have HO461 := n5_
                          have HO467 := n6_
                          have HB := n7_
                          have Zw54 := n8_
                          clear n0_ n1_ n2_ n3_ n4_ n5_ n6_ n7_ n8_
                          (try clear hb)
                          (try clear hkp)
                          (try clear hd_)
                          refine hK.out _ _ ⟨(blk_cell BK458.out 0).trans rfl, (blk_cell BK458.out 1).trans rfl, (blk_cell BK444.out 0).trans rfl, (blk_cell BK444.out 1).trans rfl⟩ (fun hHeld => ?_)
                          clear hK K
                          refine norm_ (a' := ?_) ?_ ?_
                          rotate_left
                          · show Act.put _ (some 44) _ = _
                            simp only [Act.put, List.setIfInBounds_toArray, List.set_cons_zero, List.set_cons_succ, i64_w, i32_w]
                            rfl
                          refine pure_ (i := 4) (N := some 45) (v := ?_) (a' := ?_) #[true, true, true, true, true] rfl rfl (by kernel_rfl) (fun _ _ _ h => h) (Or.inl ⟨by rfl, ?_⟩) ?_ ?_
                          rotate_left
                          · intro w'
                            go_simp
                            with_reducible rfl
                          rotate_left
                          · simp only [Act.put, List.setIfInBounds_toArray, List.set_cons_zero, List.set_cons_succ, i64_w, i32_w]
                            rfl
                          refine done_ (by kernel_rfl) ?_
                          have hcz55_0 : w54.cell? ⟨gb458, 0, none⟩ = some (.int .i64 t454) := (blk_cell BK458.out 0).trans rfl
                          have hcz55_1 : w54.cell? ⟨gb458, 1, none⟩ = some (.slice Ao43 t455.length co43) := (blk_cell BK458.out 1).trans rfl
                          have hfz55_0 := blk_frozen BK458.out 0
                          have hfz55_1 := blk_frozen BK458.out 1
                          try go_wp2_with (first | ((with_reducible refine gate_callee (f := 25) rfl ?_); refine goesL_ (some 48) rfl rfl Try.func25 (by kernel_rfl) rfl #[.agg #[.int .i64 t454, .slice Ao43 t455.length co43], .int .i64 1] rfl (by (try simp only [List.map_toArray, List.map_cons, List.map_nil]); first | done | rfl) ?_; (with_reducible refine (laws_markGraph.calls k t454 (fun k_ => w39.heap.size ≤ k_ ∧ k_ < w42.heap.size) (.slice Ao43 t455.length co43) t455 1 t469 t470 w _ ?side1 ?side2 A17.out).mono ?_); (case side1 => exact HB.out); (case side2 => exact HO457.out); rintro e w56 ⟨rfl, hy0, hb, hkp⟩; refine ⟨_, rfl, ?_⟩; have n0_ := Aside0.mk (blk_kept (by (with_reducible repeat (first | refine blk_drewN ?_ _ | refine blk_drew ?_ | refine blk_alloc ?_ _)); exact BK444.out) hkp (fun hs_ => by have h1_ := ZB444.out.1; have h2_ := ZB444.out.2; have z0_ := Zw33.out; have z1_ := Zw35.out; have z2_ := Zw37.out; have z3_ := Zw39.out; have z4_ := Zw42.out; have z5_ := Zw44.out; have z6_ := Zw47.out; have z7_ := Zw48.out; have z8_ := Zw50.out; have z9_ := Zw51.out; have z10_ := Zw52.out; have z11_ := Zw54.out; have h3_ := hs_.1; have h4_ := hs_.2; omega)); have n1_ := Aside0.mk (Kd.S_step HO449.out (fun k_ ho_ hl_ => hkp.2 k_ hl_ (fun hs_ => by have h1_ := ho_.1; have h2_ := ho_.2; have z0_ := Zw33.out; have z1_ := Zw35.out; have z2_ := Zw37.out; have z3_ := Zw39.out; have z4_ := Zw42.out; have z5_ := Zw44.out; have z6_ := Zw47.out; have z7_ := Zw48.out; have z8_ := Zw50.out; have z9_ := Zw51.out; have z10_ := Zw52.out; have z11_ := Zw54.out; have h3_ := hs_.1; have h4_ := hs_.2; omega))); have n2_ := Aside0.mk (Kd.S_step HO452.out (fun k_ ho_ hl_ => hkp.2 k_ hl_ (fun hs_ => by have h1_ := ho_.1; have h2_ := ho_.2; have z0_ := Zw33.out; have z1_ := Zw35.out; have z2_ := Zw37.out; have z3_ := Zw39.out; have z4_ := Zw42.out; have z5_ := Zw44.out; have z6_ := Zw47.out; have z7_ := Zw48.out; have z8_ := Zw50.out; have z9_ := Zw51.out; have z10_ := Zw52.out; have z11_ := Zw54.out; have h3_ := hs_.1; have h4_ := hs_.2; omega))); have n3_ := Aside0.mk (hy0); have n4_ := Aside0.mk (blk_kept (by (with_reducible repeat (first | refine blk_drewN ?_ _ | refine blk_drew ?_ | refine blk_alloc ?_ _)); exact BK458.out) hkp (fun hs_ => by have h1_ := ZB458.out.1; have h2_ := ZB458.out.2; have z0_ := Zw33.out; have z1_ := Zw35.out; have z2_ := Zw37.out; have z3_ := Zw39.out; have z4_ := Zw42.out; have z5_ := Zw44.out; have z6_ := Zw47.out; have z7_ := Zw48.out; have z8_ := Zw50.out; have z9_ := Zw51.out; have z10_ := Zw52.out; have z11_ := Zw54.out; have h3_ := hs_.1; have h4_ := hs_.2; omega)); have n5_ := Aside0.mk (Kd.S_step HO461.out (fun k_ ho_ hl_ => hkp.2 k_ hl_ (fun hs_ => by have h1_ := ho_.1; have h2_ := ho_.2; have z0_ := Zw33.out; have z1_ := Zw35.out; have z2_ := Zw37.out; have z3_ := Zw39.out; have z4_ := Zw42.out; have z5_ := Zw44.out; have z6_ := Zw47.out; have z7_ := Zw48.out; have z8_ := Zw50.out; have z9_ := Zw51.out; have z10_ := Zw52.out; have z11_ := Zw54.out; have h3_ := hs_.1; have h4_ := hs_.2; omega))); have n6_ := Aside0.mk (Kd.S_step HO467.out (fun k_ ho_ hl_ => hkp.2 k_ hl_ (fun hs_ => by have h1_ := ho_.1; have h2_ := ho_.2; have z0_ := Zw33.out; have z1_ := Zw35.out; have z2_ := Zw37.out; have z3_ := Zw39.out; have z4_ := Zw42.out; have z5_ := Zw44.out; have z6_ := Zw47.out; have z7_ := Zw48.out; have z8_ := Zw50.out; have z9_ := Zw51.out; have z10_ := Zw52.out; have z11_ := Zw54.out; have h3_ := hs_.1; have h4_ := hs_.2; omega))); have n7_ := Aside0.mk (hb); have n8_ := Aside0.mk (hkp.1); clear BK444; clear HO449; clear HO452; clear HO457; clear BK458; clear HO461; clear HO467; clear HB; have BK444 := n0_; have HO449 := n1_; have HO452 := n2_; have HO457 := n3_; have BK458 := n4_; have HO461 := n5_; have HO467 := n6_; have HB := n7_; have Zw56 := n8_; clear n0_ n1_ n2_ n3_ n4_ n5_ n6_ n7_ n8_; (try clear hb); (try clear hkp); (try clear hd_); (try clear hy0)) | (go_at_call 24; (with_reducible refine (laws_eqInt64SS.calls k _ _ t459 _ _ t450 true _ ?side1 ?side2 ?side3 ?side4 A19.out).mono ?_); (case side1 => exact (Kd.S_reads' HO461.out).2.2); (case side2 => (have e_ := Kd.S_reads' HO461.out; have e1_ := e_.1; have e2_ := e_.2.1; omega)); (case side3 => exact (Kd.S_reads' HO452.out).2.2); (case side4 => (have e_ := Kd.S_reads' HO452.out; have e1_ := e_.1; have e2_ := e_.2.1; omega)); rintro e w57 ⟨rfl, hd_⟩; have hb := hd_.below; have n0_ := Aside0.mk (blk_below (g := gb444) (o := .cells #[.int .i64 a0_0, .slice A0_1 l0_1.length c0_1] 24 (0, 0)) (by (with_reducible repeat (first | refine blk_drewN ?_ _ | refine blk_drew ?_ | refine blk_alloc ?_ _)); exact BK444.out) hb); have n1_ := Aside0.mk (Kd.S_below HO449.out hb); have n2_ := Aside0.mk (Kd.S_below HO452.out hb); have n3_ := Aside0.mk (Kd.S_below HO457.out hb); have n4_ := Aside0.mk (blk_below (g := gb458) (o := .cells #[.int .i64 t454, .slice Ao43 t455.length co43] 29 (0, 0)) (by (with_reducible repeat (first | refine blk_drewN ?_ _ | refine blk_drew ?_ | refine blk_alloc ?_ _)); exact BK458.out) hb); have n5_ := Aside0.mk (Kd.S_below HO461.out hb); have n6_ := Aside0.mk (Kd.S_below HO467.out hb); have n7_ := Aside0.mk (below_step HB.out hb); have n8_ := Aside0.mk (hb.size); clear BK444; clear HO449; clear HO452; clear HO457; clear BK458; clear HO461; clear HO467; clear HB; have BK444 := n0_; have HO449 := n1_; have HO452 := n2_; have HO457 := n3_; have BK458 := n4_; have HO461 := n5_; have HO467 := n6_; have HB := n7_; have Zw57 := n8_; clear n0_ n1_ n2_ n3_ n4_ n5_ n6_ n7_ n8_; (try clear hb); (try clear hkp); (try clear hd_)) | ((with_reducible refine gate_callee (f := 26) rfl ?_); refine goesL_ (some 64) rfl rfl Try.func26 (by kernel_rfl) rfl #[.slice Ao49 t459.length co49, .int .i64 1] rfl (by (try simp only [List.map_toArray, List.map_cons, List.map_nil]); first | done | rfl) ?_; (with_reducible refine (laws_markInt64SS.calls k (fun k_ => w47.heap.size ≤ k_ ∧ k_ < w48.heap.size) (.slice Ao49 t459.length co49) t459 1 t472 t473 w _ ?side1 ?side2 A21.out).mono ?_); (case side1 => exact HB.out); (case side2 => exact HO461.out); rintro e w58 ⟨rfl, hy0, hb, hkp⟩; refine ⟨_, rfl, ?_⟩; have n0_ := Aside0.mk (blk_kept (by (with_reducible repeat (first | refine blk_drewN ?_ _ | refine blk_drew ?_ | refine blk_alloc ?_ _)); exact BK444.out) hkp (fun hs_ => by have h1_ := ZB444.out.1; have h2_ := ZB444.out.2; have z0_ := Zw33.out; have z1_ := Zw35.out; have z2_ := Zw37.out; have z3_ := Zw39.out; have z4_ := Zw42.out; have z5_ := Zw44.out; have z6_ := Zw47.out; have z7_ := Zw48.out; have z8_ := Zw50.out; have z9_ := Zw51.out; have z10_ := Zw52.out; have z11_ := Zw54.out; have z12_ := Zw56.out; have z13_ := Zw57.out; have h3_ := hs_.1; have h4_ := hs_.2; omega)); have n1_ := Aside0.mk (Kd.S_step HO449.out (fun k_ ho_ hl_ => hkp.2 k_ hl_ (fun hs_ => by have h1_ := ho_.1; have h2_ := ho_.2; have z0_ := Zw33.out; have z1_ := Zw35.out; have z2_ := Zw37.out; have z3_ := Zw39.out; have z4_ := Zw42.out; have z5_ := Zw44.out; have z6_ := Zw47.out; have z7_ := Zw48.out; have z8_ := Zw50.out; have z9_ := Zw51.out; have z10_ := Zw52.out; have z11_ := Zw54.out; have z12_ := Zw56.out; have z13_ := Zw57.out; have h3_ := hs_.1; have h4_ := hs_.2; omega))); have n2_ := Aside0.mk (Kd.S_step HO452.out (fun k_ ho_ hl_ => hkp.2 k_ hl_ (fun hs_ => by have h1_ := ho_.1; have h2_ := ho_.2; have z0_ := Zw33.out; have z1_ := Zw35.out; have z2_ := Zw37.out; have z3_ := Zw39.out; have z4_ := Zw42.out; have z5_ := Zw44.out; have z6_ := Zw47.out; have z7_ := Zw48.out; have z8_ := Zw50.out; have z9_ := Zw51.out; have z10_ := Zw52.out; have z11_ := Zw54.out; have z12_ := Zw56.out; have z13_ := Zw57.out; have h3_ := hs_.1; have h4_ := hs_.2; omega))); have n3_ := Aside0.mk (Kd.S_step HO457.out (fun k_ ho_ hl_ => hkp.2 k_ hl_ (fun hs_ => by have h1_ := ho_.1; have h2_ := ho_.2; have z0_ := Zw33.out; have z1_ := Zw35.out; have z2_ := Zw37.out; have z3_ := Zw39.out; have z4_ := Zw42.out; have z5_ := Zw44.out; have z6_ := Zw47.out; have z7_ := Zw48.out; have z8_ := Zw50.out; have z9_ := Zw51.out; have z10_ := Zw52.out; have z11_ := Zw54.out; have z12_ := Zw56.out; have z13_ := Zw57.out; have h3_ := hs_.1; have h4_ := hs_.2; omega))); have n4_ := Aside0.mk (blk_kept (by (with_reducible repeat (first | refine blk_drewN ?_ _ | refine blk_drew ?_ | refine blk_alloc ?_ _)); exact BK458.out) hkp (fun hs_ => by have h1_ := ZB458.out.1; have h2_ := ZB458.out.2; have z0_ := Zw33.out; have z1_ := Zw35.out; have z2_ := Zw37.out; have z3_ := Zw39.out; have z4_ := Zw42.out; have z5_ := Zw44.out; have z6_ := Zw47.out; have z7_ := Zw48.out; have z8_ := Zw50.out; have z9_ := Zw51.out; have z10_ := Zw52.out; have z11_ := Zw54.out; have z12_ := Zw56.out; have z13_ := Zw57.out; have h3_ := hs_.1; have h4_ := hs_.2; omega)); have n5_ := Aside0.mk (hy0); have n6_ := Aside0.mk (Kd.S_step HO467.out (fun k_ ho_ hl_ => hkp.2 k_ hl_ (fun hs_ => by have h1_ := ho_.1; have h2_ := ho_.2; have z0_ := Zw33.out; have z1_ := Zw35.out; have z2_ := Zw37.out; have z3_ := Zw39.out; have z4_ := Zw42.out; have z5_ := Zw44.out; have z6_ := Zw47.out; have z7_ := Zw48.out; have z8_ := Zw50.out; have z9_ := Zw51.out; have z10_ := Zw52.out; have z11_ := Zw54.out; have z12_ := Zw56.out; have z13_ := Zw57.out; have h3_ := hs_.1; have h4_ := hs_.2; omega))); have n7_ := Aside0.mk (hb); have n8_ := Aside0.mk (hkp.1); clear BK444; clear HO449; clear HO452; clear HO457; clear BK458; clear HO461; clear HO467; clear HB; have BK444 := n0_; have HO449 := n1_; have HO452 := n2_; have HO457 := n3_; have BK458 := n4_; have HO461 := n5_; have HO467 := n6_; have HB := n7_; have Zw58 := n8_; clear n0_ n1_ n2_ n3_ n4_ n5_ n6_ n7_ n8_; (try clear hb); (try clear hkp); (try clear hd_); (try clear hy0)) | ((with_reducible refine gate_callee (f := 27) rfl ?_); refine goesL_ (some 67) rfl rfl Try.func27 (by kernel_rfl) rfl #[.slice Ao49 t459.length co49, .int .i64 1] rfl (by (try simp only [List.map_toArray, List.map_cons, List.map_nil]); first | done | rfl) ?_; refine calls_of_args (args' := #[.slice Ao49 t473.length co49, .int .i64 1]) (by first | rfl | (rw [show t459.length = t473.length from (Kd.S_reads' HO461.out).1] <;> rfl) | (simp only [show t459.length = t473.length from (Kd.S_reads' HO461.out).1])) ?_; (with_reducible refine (laws_heldInt64SS.calls k _ _ t473 1 t474 _ ?side1 ?side2 A22.out).mono ?_); (case side1 => exact (Kd.S_reads' HO461.out).2.2); (case side2 => (have e_ := Kd.S_reads' HO461.out; have e1_ := e_.1; have e2_ := e_.2.1; omega)); rintro e w59 ⟨rfl, hd_⟩; refine ⟨_, rfl, ?_⟩; have hb := hd_.below; have n0_ := Aside0.mk (blk_below (g := gb444) (o := .cells #[.int .i64 a0_0, .slice A0_1 l0_1.length c0_1] 24 (0, 0)) (by (with_reducible repeat (first | refine blk_drewN ?_ _ | refine blk_drew ?_ | refine blk_alloc ?_ _)); exact BK444.out) hb); have n1_ := Aside0.mk (Kd.S_below HO449.out hb); have n2_ := Aside0.mk (Kd.S_below HO452.out hb); have n3_ := Aside0.mk (Kd.S_below HO457.out hb); have n4_ := Aside0.mk (blk_below (g := gb458) (o := .cells #[.int .i64 t454, .slice Ao43 t455.length co43] 29 (0, 0)) (by (with_reducible repeat (first | refine blk_drewN ?_ _ | refine blk_drew ?_ | refine blk_alloc ?_ _)); exact BK458.out) hb); have n5_ := Aside0.mk (Kd.S_below HO461.out hb); have n6_ := Aside0.mk (Kd.S_below HO467.out hb); have n7_ := Aside0.mk (below_step HB.out hb); have n8_ := Aside0.mk (hb.size); clear BK444; clear HO449; clear HO452; clear HO457; clear BK458; clear HO461; clear HO467; clear HB; have BK444 := n0_; have HO449 := n1_; have HO452 := n2_; have HO457 := n3_; have BK458 := n4_; have HO461 := n5_; have HO467 := n6_; have HB := n7_; have Zw59 := n8_; clear n0_ n1_ n2_ n3_ n4_ n5_ n6_ n7_ n8_; (try clear hb); (try clear hkp); (try clear hd_); have hcz60_0 : w59.cell? ⟨gb444, 0, none⟩ = some (.int .i64 a0_0) := (blk_cell BK444.out 0).trans rfl; have hcz60_1 : w59.cell? ⟨gb444, 1, none⟩ = some (.slice A0_1 l0_1.length c0_1) := (blk_cell BK444.out 1).trans rfl; have hfz60_0 := blk_frozen BK444.out 0; have hfz60_1 := blk_frozen BK444.out 1) | ((with_reducible refine gate_callee (f := 17) rfl ?_); refine goesL_ (some 75) rfl rfl Try.func17 (by kernel_rfl) rfl #[.agg #[.int .i64 a0_0, .slice A0_1 l0_1.length c0_1]] rfl (by (try simp only [List.map_toArray, List.map_cons, List.map_nil]); first | done | rfl) ?_; (with_reducible refine (laws_toGraph.calls k a0_0 _ _ l0_1 t475 t476 _ ?side1 ?side2 A25.out).mono ?_); (case side1 => exact (Kd.C_below HR0_1.out HB.out)); (case side2 => exact HC0_1.out); rintro e w61 ⟨v477, rfl, ho0, hb⟩; refine ⟨_, rfl, ?_⟩; have n0_ := Aside0.mk (blk_below (g := gb444) (o := .cells #[.int .i64 a0_0, .slice A0_1 l0_1.length c0_1] 24 (0, 0)) (by (with_reducible repeat (first | refine blk_drewN ?_ _ | refine blk_drew ?_ | refine blk_alloc ?_ _)); exact BK444.out) hb); have n1_ := Aside0.mk (Kd.S_below HO449.out hb); have n2_ := Aside0.mk (Kd.S_below HO452.out hb); have n3_ := Aside0.mk (Kd.S_below HO457.out hb); have n4_ := Aside0.mk (blk_below (g := gb458) (o := .cells #[.int .i64 t454, .slice Ao43 t455.length co43] 29 (0, 0)) (by (with_reducible repeat (first | refine blk_drewN ?_ _ | refine blk_drew ?_ | refine blk_alloc ?_ _)); exact BK458.out) hb); have n5_ := Aside0.mk (Kd.S_below HO461.out hb); have n6_ := Aside0.mk (Kd.S_below HO467.out hb); have n7_ := Aside0.mk (Kd.S_lower (Kd.S_mono (Kd.S_bound ho0) (fun k_ hk_ => (⟨hk_.2.1, hk_.2.2.1⟩ : w59.heap.size ≤ k_ ∧ k_ < w61.heap.size))) HB.out.size); have n8_ := Aside0.mk (below_step HB.out hb); have n9_ := Aside0.mk (hb.size); clear BK444; clear HO449; clear HO452; clear HO457; clear BK458; clear HO461; clear HO467; clear HB; have BK444 := n0_; have HO449 := n1_; have HO452 := n2_; have HO457 := n3_; have BK458 := n4_; have HO461 := n5_; have HO467 := n6_; have HO478 := n7_; have HB := n8_; have Zw61 := n9_; clear n0_ n1_ n2_ n3_ n4_ n5_ n6_ n7_ n8_ n9_; (try clear hb); (try clear hkp); (try clear hd_); (try clear ho0); obtain ⟨Ao62, co62, eo62⟩ := Kd.S_slice HO478.out; subst eo62) | ((with_reducible refine gate_callee (f := 31) rfl ?_); refine goesL_ (some 76) rfl rfl Try.func31 (by kernel_rfl) rfl #[.agg #[.int .i64 t475, .slice Ao62 t476.length co62]] rfl (by (try simp only [List.map_toArray, List.map_cons, List.map_nil]); first | done | rfl) ?_; (with_reducible refine (impl_EdgeMatrix.calls k t475 _ _ t476 t479 t482 _ ?side1 ?side2 A26.out).mono ?_); (case side1 => exact (Kd.S_reads' HO478.out).2.2); (case side2 => (have e_ := Kd.S_reads' HO478.out; have e1_ := e_.1; have e2_ := e_.2.1; omega)); rintro e w63 ⟨v480, rfl, ho0, hb⟩; refine ⟨_, rfl, ?_⟩; have n0_ := Aside0.mk (blk_below (g := gb444) (o := .cells #[.int .i64 a0_0, .slice A0_1 l0_1.length c0_1] 24 (0, 0)) (by (with_reducible repeat (first | refine blk_drewN ?_ _ | refine blk_drew ?_ | refine blk_alloc ?_ _)); exact BK444.out) hb); have n1_ := Aside0.mk (Kd.S_below HO449.out hb); have n2_ := Aside0.mk (Kd.S_below HO452.out hb); have n3_ := Aside0.mk (Kd.S_below HO457.out hb); have n4_ := Aside0.mk (blk_below (g := gb458) (o := .cells #[.int .i64 t454, .slice Ao43 t455.length co43] 29 (0, 0)) (by (with_reducible repeat (first | refine blk_drewN ?_ _ | refine blk_drew ?_ | refine blk_alloc ?_ _)); exact BK458.out) hb); have n5_ := Aside0.mk (Kd.S_below HO461.out hb); have n6_ := Aside0.mk (Kd.S_below HO467.out hb); have n7_ := Aside0.mk (Kd.S_below HO478.out hb); have n8_ := Aside0.mk (Kd.S_lower (Kd.S_mono (Kd.S_bound ho0) (fun k_ hk_ => (⟨hk_.2.1, hk_.2.2.1⟩ : w61.heap.size ≤ k_ ∧ k_ < w63.heap.size))) HB.out.size); have n9_ := Aside0.mk (below_step HB.out hb); have n10_ := Aside0.mk (hb.size); clear BK444; clear HO449; clear HO452; clear HO457; clear BK458; clear HO461; clear HO467; clear HO478; clear HB; have BK444 := n0_; have HO449 := n1_; have HO452 := n2_; have HO457 := n3_; have BK458 := n4_; have HO461 := n5_; have HO467 := n6_; have HO478 := n7_; have HO481 := n8_; have HB := n9_; have Zw63 := n10_; clear n0_ n1_ n2_ n3_ n4_ n5_ n6_ n7_ n8_ n9_ n10_; (try clear hb); (try clear hkp); (try clear hd_); (try clear ho0); obtain ⟨Ao64, co64, eo64⟩ := Kd.S_slice HO481.out; subst eo64) | ((with_reducible refine gate_callee (f := 24) rfl ?_); refine goesL_ (some 81) rfl rfl Try.func24 (by kernel_rfl) rfl #[.slice Ao64 t479.length co64, .slice Ao40 t450.length co40] rfl (by (try simp only [List.map_toArray, List.map_cons, List.map_nil]); first | done | rfl) ?_; (with_reducible refine (laws_eqInt64SS.calls k _ _ t479 _ _ t450 true _ ?side1 ?side2 ?side3 ?side4 A27.out).mono ?_); (case side1 => exact (Kd.S_reads' HO481.out).2.2); (case side2 => (have e_ := Kd.S_reads' HO481.out; have e1_ := e_.1; have e2_ := e_.2.1; omega)); (case side3 => exact (Kd.S_reads' HO452.out).2.2); (case side4 => (have e_ := Kd.S_reads' HO452.out; have e1_ := e_.1; have e2_ := e_.2.1; omega)); rintro e w65 ⟨rfl, hd_⟩; refine ⟨_, rfl, ?_⟩; have hb := hd_.below; have n0_ := Aside0.mk (blk_below (g := gb444) (o := .cells #[.int .i64 a0_0, .slice A0_1 l0_1.length c0_1] 24 (0, 0)) (by (with_reducible repeat (first | refine blk_drewN ?_ _ | refine blk_drew ?_ | refine blk_alloc ?_ _)); exact BK444.out) hb); have n1_ := Aside0.mk (Kd.S_below HO449.out hb); have n2_ := Aside0.mk (Kd.S_below HO452.out hb); have n3_ := Aside0.mk (Kd.S_below HO457.out hb); have n4_ := Aside0.mk (blk_below (g := gb458) (o := .cells #[.int .i64 t454, .slice Ao43 t455.length co43] 29 (0, 0)) (by (with_reducible repeat (first | refine blk_drewN ?_ _ | refine blk_drew ?_ | refine blk_alloc ?_ _)); exact BK458.out) hb); have n5_ := Aside0.mk (Kd.S_below HO461.out hb); have n6_ := Aside0.mk (Kd.S_below HO467.out hb); have n7_ := Aside0.mk (Kd.S_below HO478.out hb); have n8_ := Aside0.mk (Kd.S_below HO481.out hb); have n9_ := Aside0.mk (below_step HB.out hb); have n10_ := Aside0.mk (hb.size); clear BK444; clear HO449; clear HO452; clear HO457; clear BK458; clear HO461; clear HO467; clear HO478; clear HO481; clear HB; have BK444 := n0_; have HO449 := n1_; have HO452 := n2_; have HO457 := n3_; have BK458 := n4_; have HO461 := n5_; have HO467 := n6_; have HO478 := n7_; have HO481 := n8_; have HB := n9_; have Zw65 := n10_; clear n0_ n1_ n2_ n3_ n4_ n5_ n6_ n7_ n8_ n9_ n10_; (try clear hb); (try clear hkp); (try clear hd_)) | ((with_reducible refine gate_callee (f := 27) rfl ?_); refine goesL_ (some 90) rfl rfl Try.func27 (by kernel_rfl) rfl #[.slice Ao49 t459.length co49, .int .i64 1] rfl (by (try simp only [List.map_toArray, List.map_cons, List.map_nil]); first | done | rfl) ?_; refine calls_of_args (args' := #[.slice Ao49 t473.length co49, .int .i64 1]) (by first | rfl | (rw [show t459.length = t473.length from (Kd.S_reads' HO461.out).1] <;> rfl) | (simp only [show t459.length = t473.length from (Kd.S_reads' HO461.out).1])) ?_; (with_reducible refine (laws_heldInt64SS.calls k _ _ t473 1 t484 _ ?side1 ?side2 A30.out).mono ?_); (case side1 => exact (Kd.S_reads' HO461.out).2.2); (case side2 => (have e_ := Kd.S_reads' HO461.out; have e1_ := e_.1; have e2_ := e_.2.1; omega)); rintro e w66 ⟨rfl, hd_⟩; refine ⟨_, rfl, ?_⟩; have hb := hd_.below; have n0_ := Aside0.mk (blk_below (g := gb444) (o := .cells #[.int .i64 a0_0, .slice A0_1 l0_1.length c0_1] 24 (0, 0)) (by (with_reducible repeat (first | refine blk_drewN ?_ _ | refine blk_drew ?_ | refine blk_alloc ?_ _)); exact BK444.out) hb); have n1_ := Aside0.mk (Kd.S_below HO449.out hb); have n2_ := Aside0.mk (Kd.S_below HO452.out hb); have n3_ := Aside0.mk (Kd.S_below HO457.out hb); have n4_ := Aside0.mk (blk_below (g := gb458) (o := .cells #[.int .i64 t454, .slice Ao43 t455.length co43] 29 (0, 0)) (by (with_reducible repeat (first | refine blk_drewN ?_ _ | refine blk_drew ?_ | refine blk_alloc ?_ _)); exact BK458.out) hb); have n5_ := Aside0.mk (Kd.S_below HO461.out hb); have n6_ := Aside0.mk (Kd.S_below HO467.out hb); have n7_ := Aside0.mk (Kd.S_below HO478.out hb); have n8_ := Aside0.mk (Kd.S_below HO481.out hb); have n9_ := Aside0.mk (below_step HB.out hb); have n10_ := Aside0.mk (hb.size); clear BK444; clear HO449; clear HO452; clear HO457; clear BK458; clear HO461; clear HO467; clear HO478; clear HO481; clear HB; have BK444 := n0_; have HO449 := n1_; have HO452 := n2_; have HO457 := n3_; have BK458 := n4_; have HO461 := n5_; have HO467 := n6_; have HO478 := n7_; have HO481 := n8_; have HB := n9_; have Zw66 := n10_; clear n0_ n1_ n2_ n3_ n4_ n5_ n6_ n7_ n8_ n9_ n10_; (try clear hb); (try clear hkp); (try clear hd_)))
                          go_ret
                          exact ⟨by first | rfl | (simp [errW_none, errW_some] <;> rfl) | (simp [*, errW_none, errW_some] <;> rfl), by repeat (first | (with_reducible first | exact HB.out | apply below_alloc | apply pw_below_drewN | apply below_drew1 | refine below_set ?_ GE444.out | refine below_set ?_ GE458.out) | exact HB.out)⟩
                        · rw [if_neg c32] at H
                          have c32b0 : (t484 == t472) = false := beq_eq_false_iff_ne.mpr c32
                          have c32b1 : (t484 != t472) = true := bne_iff_ne.mpr c32
                          exact absurd H (by simp)
                    · rw [if_neg c29] at H
                      have c29b0 : (t482 == t453) = false := beq_eq_false_iff_ne.mpr c29
                      have c29b1 : (t482 != t453) = true := bne_iff_ne.mpr c29
                      exact absurd H (by simp)
                  · replace c28 := Bool.eq_false_iff.mpr c28
                    subst c28
                    have H1 : (some false) = some true := by rw [if_neg (show ¬ (false = true) by decide)] at H; exact H
                    clear H
                    have H := H1
                    clear H1
                    exact absurd H (by simp)
                · rw [if_neg c24] at H
                  have c24b0 : (t474 == t472) = false := beq_eq_false_iff_ne.mpr c24
                  have c24b1 : (t474 != t472) = true := bne_iff_ne.mpr c24
                  exact absurd H (by simp)
            · replace c20 := Bool.eq_false_iff.mpr c20
              subst c20
              have H1 : (some false) = some true := by rw [if_neg (show ¬ (false = true) by decide)] at H; exact H
              clear H
              have H := H1
              clear H1
              exact absurd H (by simp)
        · replace c16 := Bool.eq_false_iff.mpr c16
          subst c16
          have H1 : (some false) = some true := by rw [if_neg (show ¬ (false = true) by decide)] at H; exact H
          clear H
          have H := H1
          clear H1
          exact absurd H (by simp)
      · rw [if_neg c13] at H
        have c13b0 : (t462 == t453) = false := beq_eq_false_iff_ne.mpr c13
        have c13b1 : (t462 != t453) = true := bne_iff_ne.mpr c13
        exact absurd H (by simp)
    · replace c12 := Bool.eq_false_iff.mpr c12
      subst c12
      have H1 : (some false) = some true := by rw [if_neg (show ¬ (false = true) by decide)] at H; exact H
      clear H
      have H := H1
      clear H1
      exact absurd H (by simp)

/-- THE ONE PURE STATEMENT of laws_FnExactEdgeMatrix: yours. -/
def laws_FnExactEdgeMatrix.Pure : Prop := ∀ (a0_0 : Int) (l0_1 : List (List Int)), (Lit.int .i64 a0_0).wf = true → l0_1.length ≤ maxLen → (∀ r ∈ l0_1, r.length ≤ maxLen ∧ ∀ y ∈ r, (Lit.int .i64 y).wf = true) → ∃ k, laws_FnExactEdgeMatrix.f k a0_0 l0_1 = some true
theorem laws_FnExactEdgeMatrix.walk (P : laws_FnExactEdgeMatrix.Pure) (a0_0 : Int) (A0_1 : Option Addr) (c0_1 : Nat) (l0_1 : List (List Int)) (w : World) (hw0_0 : (Lit.int .i64 a0_0).wf = true) (hm0_1 : l0_1.length ≤ maxLen) (hw0_1 : (∀ r ∈ l0_1, r.length ≤ maxLen ∧ ∀ y ∈ r, (Lit.int .i64 y).wf = true)) (hr0_1 : Kd.C (Kd.slice 2 (Kd.int .i64)) w A0_1 l0_1.length l0_1) (hc0_1 : l0_1.length ≤ c0_1) :
    Calls Try.prog 6 #[.agg #[.int .i64 a0_0, .slice A0_1 l0_1.length c0_1]] w fun e w' => e = .returned (.bool true) ∧ Below w.heap.size w w' := by
  obtain ⟨k, h⟩ := P a0_0 l0_1 hw0_0 hm0_1 hw0_1
  refine (laws_FnExactEdgeMatrix.calls k a0_0 _ _ l0_1 w hr0_1 hc0_1 h).mono ?_
  rintro e w' ⟨rfl, hd⟩
  exact ⟨rfl, hd⟩

end Go.Proofs.Ytedhnaljedonfaa.G
