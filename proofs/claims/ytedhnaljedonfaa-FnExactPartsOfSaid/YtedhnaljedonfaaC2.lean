/- The printed functions that this law reaches, and their contracts: part 2. -/
-- printed by this repo's wip/printer out of the kit's print with its own changes
import Derived.Test.YtedhnaljedonfaaC1
namespace Go.Proofs.Ytedhnaljedonfaa.G
open Go.RowKit Go.Proofs.YtedhnaljedonfaaW.PrintWords Go.Proofs.YtedhnaljedonfaaW.PrintLast Go.Proofs.YtedhnaljedonfaaW.PrintMore
attribute [local go_sem] max2_int min2_int max_two min_two max_three min_three max_four min_four   -- for this text's walks alone
set_option linter.unusedVariables false
set_option linter.unusedSimpArgs false

/-! ### impl_Graph_classes_at_every: function 100008 -/
mutual
def impl_Graph_classes_at_every.l0 : Nat → List Int → Int → Int → Int → List (List Int) → Option (List Int)
  | 0, _, _, _, _, _ => none
  | k + 1, x5, x15, x16, x579000, x579001 => if x16 < x15 then (if x5.length < 17592186044416 then (impl_Graph_classes_at_every.l0 k (x5 ++ [x16]) x15 (wrap64 (x16 + 1)) x579000 x579001) else (none)) else (impl_Graph_classes_at_every.l1 k x5 x579001 (x579001.length : Int) 0)
def impl_Graph_classes_at_every.l1 : Nat → List Int → List (List Int) → Int → Int → Option (List Int)
  | 0, _, _, _, _ => none
  | k + 1, x5, x25, x26, x27 => if x27 < x26 then (if 0 ≤ x27 then (if x27 < (x25.length : Int) then ((impl_every.f x27).bind fun t586 => (if t586 = true then (if 0 < ((rd_L1 x25 x27).length : Int) then (if 0 ≤ (rd (rd_L1 x25 x27) 0) then (if (rd (rd_L1 x25 x27) 0) < (x5.length : Int) then (if 1 < ((rd_L1 x25 x27).length : Int) then (if 0 ≤ (rd (rd_L1 x25 x27) 1) then (if (rd (rd_L1 x25 x27) 1) < (x5.length : Int) then (impl_Graph_classes_at_every.l2 k x5 (rd x5 (rd (rd_L1 x25 x27) 0)) (rd x5 (rd (rd_L1 x25 x27) 1)) x25 x26 x27 (x5.length : Int) 0) else (none)) else (none)) else (none)) else (none)) else (none)) else (none)) else (impl_Graph_classes_at_every.l1 k x5 x25 x26 (wrap64 (x27 + 1))))) else (none)) else (none)) else (some x5)
def impl_Graph_classes_at_every.l2 : Nat → List Int → Int → Int → List (List Int) → Int → Int → Int → Int → Option (List Int)
  | 0, _, _, _, _, _, _, _, _ => none
  | k + 1, x5, x9, x10, x25, x26, x27, x49, x50 => if x50 < x49 then (if 0 ≤ x50 then (if x50 < (x5.length : Int) then (if (rd x5 x50) = (mx x9 x10) then (impl_Graph_classes_at_every.l2 k (x5.set (x50 : Int).toNat (mn x9 x10)) x9 x10 x25 x26 x27 x49 (wrap64 (x50 + 1))) else (impl_Graph_classes_at_every.l2 k x5 x9 x10 x25 x26 x27 x49 (wrap64 (x50 + 1)))) else (none)) else (none)) else (impl_Graph_classes_at_every.l1 k x5 x25 x26 (wrap64 (x27 + 1)))
end
def impl_Graph_classes_at_every.f (k : Nat) (a0_0 : Int) (l0_1 : List (List Int))  : Option (List Int) := impl_Graph_classes_at_every.l0 k (([] : List Int)) a0_0 0 a0_0 l0_1
theorem impl_Graph_classes_at_every.mono_l : ∀ k, (∀ y0 y1 y2 y3 y4, LeO (impl_Graph_classes_at_every.l0 k y0 y1 y2 y3 y4) (impl_Graph_classes_at_every.l0 (k + 1) y0 y1 y2 y3 y4)) ∧ (∀ y0 y1 y2 y3, LeO (impl_Graph_classes_at_every.l1 k y0 y1 y2 y3) (impl_Graph_classes_at_every.l1 (k + 1) y0 y1 y2 y3)) ∧ (∀ y0 y1 y2 y3 y4 y5 y6 y7, LeO (impl_Graph_classes_at_every.l2 k y0 y1 y2 y3 y4 y5 y6 y7) (impl_Graph_classes_at_every.l2 (k + 1) y0 y1 y2 y3 y4 y5 y6 y7))
  | 0 => ⟨fun _ _ _ _ _ r h => by simp [impl_Graph_classes_at_every.l0] at h, fun _ _ _ _ r h => by simp [impl_Graph_classes_at_every.l1] at h, fun _ _ _ _ _ _ _ _ r h => by simp [impl_Graph_classes_at_every.l2] at h⟩
  | k + 1 => by
    obtain ⟨ih0, ih1, ih2⟩ := impl_Graph_classes_at_every.mono_l k
    refine ⟨?_, ?_, ?_⟩
    · intro y0 y1 y2 y3 y4
      unfold impl_Graph_classes_at_every.l0
      repeat' first
      | (with_reducible exact ih0 _ _ _ _ _)
      | (with_reducible exact ih1 _ _ _ _)
      | (with_reducible exact ih2 _ _ _ _ _ _ _ _)
      | (with_reducible exact LeO.refl _)
      | (with_reducible exact LeO.none _)
      | (with_reducible refine LeO.ite ?_ ?_)
      | (with_reducible refine LeO.bind ?_ (fun _ => ?_))
      | exact ih0 _ _ _ _ _
      | exact ih1 _ _ _ _
      | exact ih2 _ _ _ _ _ _ _ _
      | exact LeO.none _
      | refine LeO.ite ?_ ?_
      | refine LeO.bind ?_ (fun _ => ?_)
    · intro y0 y1 y2 y3
      unfold impl_Graph_classes_at_every.l1
      repeat' first
      | (with_reducible exact ih0 _ _ _ _ _)
      | (with_reducible exact ih1 _ _ _ _)
      | (with_reducible exact ih2 _ _ _ _ _ _ _ _)
      | (with_reducible exact LeO.refl _)
      | (with_reducible exact LeO.none _)
      | (with_reducible refine LeO.ite ?_ ?_)
      | (with_reducible refine LeO.bind ?_ (fun _ => ?_))
      | exact ih0 _ _ _ _ _
      | exact ih1 _ _ _ _
      | exact ih2 _ _ _ _ _ _ _ _
      | exact LeO.none _
      | refine LeO.ite ?_ ?_
      | refine LeO.bind ?_ (fun _ => ?_)
    · intro y0 y1 y2 y3 y4 y5 y6 y7
      unfold impl_Graph_classes_at_every.l2
      repeat' first
      | (with_reducible exact ih0 _ _ _ _ _)
      | (with_reducible exact ih1 _ _ _ _)
      | (with_reducible exact ih2 _ _ _ _ _ _ _ _)
      | (with_reducible exact LeO.refl _)
      | (with_reducible exact LeO.none _)
      | (with_reducible refine LeO.ite ?_ ?_)
      | (with_reducible refine LeO.bind ?_ (fun _ => ?_))
      | exact ih0 _ _ _ _ _
      | exact ih1 _ _ _ _
      | exact ih2 _ _ _ _ _ _ _ _
      | exact LeO.none _
      | refine LeO.ite ?_ ?_
      | refine LeO.bind ?_ (fun _ => ?_)
theorem impl_Graph_classes_at_every.mono : ∀ a0 a1 k, LeO (impl_Graph_classes_at_every.f k a0 a1) (impl_Graph_classes_at_every.f (k + 1) a0 a1) := by
  intro a0 a1 k
  obtain ⟨ih0, ih1, ih2⟩ := impl_Graph_classes_at_every.mono_l k
  unfold impl_Graph_classes_at_every.f
  repeat' first
      | (with_reducible exact ih0 _ _ _ _ _)
      | (with_reducible exact ih1 _ _ _ _)
      | (with_reducible exact ih2 _ _ _ _ _ _ _ _)
      | (with_reducible exact LeO.refl _)
      | (with_reducible exact LeO.none _)
      | (with_reducible refine LeO.ite ?_ ?_)
      | (with_reducible refine LeO.bind ?_ (fun _ => ?_))
      | exact ih0 _ _ _ _ _
      | exact ih1 _ _ _ _
      | exact ih2 _ _ _ _ _ _ _ _
      | exact LeO.none _
      | refine LeO.ite ?_ ?_
      | refine LeO.bind ?_ (fun _ => ?_)
set_option maxHeartbeats 8000000 in
set_option maxRecDepth 100000 in
theorem impl_Graph_classes_at_every.calls (k : Nat) (a0_0 : Int) (A0_1 : Option Addr) (c0_1 : Nat) (l0_1 : List (List Int))  (r : List Int) (w : World) (hr0_1 : Kd.C (Kd.slice 2 (Kd.int .i64)) w A0_1 l0_1.length l0_1) (hc0_1 : l0_1.length ≤ c0_1) (h : impl_Graph_classes_at_every.f k a0_0 l0_1 = some r) :
    Calls Try.prog 77 #[.agg #[.int .i64 a0_0, .slice A0_1 l0_1.length c0_1], .func (.func 78) #[] #[]] w fun e w' => ∃ v0_ : Value, e = .returned (v0_) ∧ Kd.R (Kd.int .i64) 2 w' w.heap.size (fun _ => True) v0_ r ∧ Below w.heap.size w w' := by
  have hu29 := Try.underlying29
  have HR0_1 := Aside0.mk hr0_1
  have HC0_1 := Aside0.mk hc0_1
  clear hr0_1 hc0_1
  have HB := Aside0.mk (Below.refl w.heap.size w)
  have H : (impl_Graph_classes_at_every.l0 k (([] : List Int)) a0_0 0 a0_0 l0_1) = some r := h
  clear h
  obtain ⟨y579, hy579⟩ : ∃ y_ : List Int, y_ = (([] : List Int)) := ⟨_, rfl⟩
  replace H : (impl_Graph_classes_at_every.l0 k y579 a0_0 0 a0_0 l0_1) = some r := by first | (rw [hy579]; with_reducible exact H) | (have H2_ := (Option.bind_some _ _).symm.trans H; rw [hy579]; with_reducible exact H2_) | (have H2_ := (Option.bind_some _ _).symm.trans H; with_reducible exact H2_) | with_reducible exact H | (rw [hy579]; exact H) | exact H
  have Ny579 := Aside0.mk hy579
  clear hy579
  have H' := Aside0.mk H
  clear H
  go_enter Try.func77, Try.ntmps77
  go_wp2_with (first | ((with_reducible refine gate_dst (N := 2) rfl ?_); refine box_event ?hg (N := 2) ?hd (cs := #[.int .i64 a0_0, .slice A0_1 l0_1.length c0_1]) (t := 29) ?hr ?_; (case hd => rfl); (case hg => rfl); (case hr => first | (go_simp; done) | (go_simp; rfl)); intro gb578 hg w3 hbox hb; have n0_ := Aside0.mk (below_step (by repeat (first | (with_reducible first | exact HB.out | apply below_alloc | apply pw_below_drewN | apply below_drew1) | exact HB.out)) hb); have n1_ := Aside0.mk (hbox); have n2_ := Aside0.mk ((by rw [hg]; exact (below_size (by repeat (first | (with_reducible first | exact HB.out | apply below_alloc | apply pw_below_drewN | apply below_drew1) | exact HB.out))) : w.heap.size ≤ gb578)); have n3_ := Aside0.mk ((by rw [hg]; exact (below_size (by repeat (first | (with_reducible first | exact HB.out | apply below_alloc | apply pw_below_drewN | apply below_drew1) | exact HB.out))) : w.heap.size ≤ gb578)); clear HB; have HB := n0_; have BK578 := n1_; have GW578 := n2_; have GE578 := n3_; clear n0_ n1_ n2_ n3_; clear hb hbox hg) | ((with_reducible refine gate_dst (N := 13) rfl ?_); refine Kd.R_lit (Kd.int .i64) _ 2 ?hg (N := 13) ?hd (xs := ([] : List Int)) (inner := []) (ok := fun _ => True) (okp := fun _ => True) ?hr ?hp (fun _ hk => hk) trivial (Below.refl _ _) (Nat.le_refl _) (by simp) ?_; (case hd => rfl); (case hg => rfl); (case hr => first | (go_simp; done) | (go_simp; rfl)); (case hp => exact (Reps.none _ _)); intro v580 w4 ho5 hb hg_ hnew_; clear hg_ hnew_; (first | rw [← Ny579.out] at ho5 | (simp only [Int.reduceToNat] at ho5; rw [← Ny579.out] at ho5)); have n0_ := Aside0.mk (Kd.R_lower ho5 (below_size (by repeat (first | (with_reducible first | exact HB.out | apply below_alloc | apply pw_below_drewN | apply below_drew1 | refine below_set ?_ GE578.out) | exact HB.out)))); have n1_ := Aside0.mk (blk_below (g := gb578) (o := .cells #[.int .i64 a0_0, .slice A0_1 l0_1.length c0_1] 29 (0, 0)) (by (with_reducible repeat (first | refine blk_drewN ?_ _ | refine blk_drew ?_ | refine blk_alloc ?_ _)); exact BK578.out) hb); have n2_ := Aside0.mk (below_step (by repeat (first | (with_reducible first | exact HB.out | apply below_alloc | apply pw_below_drewN | apply below_drew1 | refine below_set ?_ GE578.out) | exact HB.out)) hb); clear BK578; clear HB; have HO581 := n0_; have BK578 := n1_; have HB := n2_; clear n0_ n1_ n2_; clear hb ho5; have hcz6_0 : w4.cell? ⟨gb578, 0, none⟩ = some (.int .i64 a0_0) := (blk_cell BK578.out 0).trans rfl; have hcz6_1 : w4.cell? ⟨gb578, 1, none⟩ = some (.slice A0_1 l0_1.length c0_1) := (blk_cell BK578.out 1).trans rfl; have hfz6_0 := blk_frozen BK578.out 0; have hfz6_1 := blk_frozen BK578.out 1))
  repeat (go_quiet (first | ((with_reducible refine gate_dst (N := 2) rfl ?_); refine box_event ?hg (N := 2) ?hd (cs := #[.int .i64 a0_0, .slice A0_1 l0_1.length c0_1]) (t := 29) ?hr ?_; (case hd => rfl); (case hg => rfl); (case hr => first | (go_simp; done) | (go_simp; rfl)); intro gb578 hg w3 hbox hb; have n0_ := Aside0.mk (below_step (by repeat (first | (with_reducible first | exact HB.out | apply below_alloc | apply pw_below_drewN | apply below_drew1) | exact HB.out)) hb); have n1_ := Aside0.mk (hbox); have n2_ := Aside0.mk ((by rw [hg]; exact (below_size (by repeat (first | (with_reducible first | exact HB.out | apply below_alloc | apply pw_below_drewN | apply below_drew1) | exact HB.out))) : w.heap.size ≤ gb578)); have n3_ := Aside0.mk ((by rw [hg]; exact (below_size (by repeat (first | (with_reducible first | exact HB.out | apply below_alloc | apply pw_below_drewN | apply below_drew1) | exact HB.out))) : w.heap.size ≤ gb578)); clear HB; have HB := n0_; have BK578 := n1_; have GW578 := n2_; have GE578 := n3_; clear n0_ n1_ n2_ n3_; clear hb hbox hg) | ((with_reducible refine gate_dst (N := 13) rfl ?_); refine Kd.R_lit (Kd.int .i64) _ 2 ?hg (N := 13) ?hd (xs := ([] : List Int)) (inner := []) (ok := fun _ => True) (okp := fun _ => True) ?hr ?hp (fun _ hk => hk) trivial (Below.refl _ _) (Nat.le_refl _) (by simp) ?_; (case hd => rfl); (case hg => rfl); (case hr => first | (go_simp; done) | (go_simp; rfl)); (case hp => exact (Reps.none _ _)); intro v580 w4 ho5 hb hg_ hnew_; clear hg_ hnew_; (first | rw [← Ny579.out] at ho5 | (simp only [Int.reduceToNat] at ho5; rw [← Ny579.out] at ho5)); have n0_ := Aside0.mk (Kd.R_lower ho5 (below_size (by repeat (first | (with_reducible first | exact HB.out | apply below_alloc | apply pw_below_drewN | apply below_drew1 | refine below_set ?_ GE578.out) | exact HB.out)))); have n1_ := Aside0.mk (blk_below (g := gb578) (o := .cells #[.int .i64 a0_0, .slice A0_1 l0_1.length c0_1] 29 (0, 0)) (by (with_reducible repeat (first | refine blk_drewN ?_ _ | refine blk_drew ?_ | refine blk_alloc ?_ _)); exact BK578.out) hb); have n2_ := Aside0.mk (below_step (by repeat (first | (with_reducible first | exact HB.out | apply below_alloc | apply pw_below_drewN | apply below_drew1 | refine below_set ?_ GE578.out) | exact HB.out)) hb); clear BK578; clear HB; have HO581 := n0_; have BK578 := n1_; have HB := n2_; clear n0_ n1_ n2_; clear hb ho5; have hcz6_0 : w4.cell? ⟨gb578, 0, none⟩ = some (.int .i64 a0_0) := (blk_cell BK578.out 0).trans rfl; have hcz6_1 : w4.cell? ⟨gb578, 1, none⟩ = some (.slice A0_1 l0_1.length c0_1) := (blk_cell BK578.out 1).trans rfl; have hfz6_0 := blk_frozen BK578.out 0; have hfz6_1 := blk_frozen BK578.out 1)); try go_wp2_with (first | ((with_reducible refine gate_dst (N := 2) rfl ?_); refine box_event ?hg (N := 2) ?hd (cs := #[.int .i64 a0_0, .slice A0_1 l0_1.length c0_1]) (t := 29) ?hr ?_; (case hd => rfl); (case hg => rfl); (case hr => first | (go_simp; done) | (go_simp; rfl)); intro gb578 hg w3 hbox hb; have n0_ := Aside0.mk (below_step (by repeat (first | (with_reducible first | exact HB.out | apply below_alloc | apply pw_below_drewN | apply below_drew1) | exact HB.out)) hb); have n1_ := Aside0.mk (hbox); have n2_ := Aside0.mk ((by rw [hg]; exact (below_size (by repeat (first | (with_reducible first | exact HB.out | apply below_alloc | apply pw_below_drewN | apply below_drew1) | exact HB.out))) : w.heap.size ≤ gb578)); have n3_ := Aside0.mk ((by rw [hg]; exact (below_size (by repeat (first | (with_reducible first | exact HB.out | apply below_alloc | apply pw_below_drewN | apply below_drew1) | exact HB.out))) : w.heap.size ≤ gb578)); clear HB; have HB := n0_; have BK578 := n1_; have GW578 := n2_; have GE578 := n3_; clear n0_ n1_ n2_ n3_; clear hb hbox hg) | ((with_reducible refine gate_dst (N := 13) rfl ?_); refine Kd.R_lit (Kd.int .i64) _ 2 ?hg (N := 13) ?hd (xs := ([] : List Int)) (inner := []) (ok := fun _ => True) (okp := fun _ => True) ?hr ?hp (fun _ hk => hk) trivial (Below.refl _ _) (Nat.le_refl _) (by simp) ?_; (case hd => rfl); (case hg => rfl); (case hr => first | (go_simp; done) | (go_simp; rfl)); (case hp => exact (Reps.none _ _)); intro v580 w4 ho5 hb hg_ hnew_; clear hg_ hnew_; (first | rw [← Ny579.out] at ho5 | (simp only [Int.reduceToNat] at ho5; rw [← Ny579.out] at ho5)); have n0_ := Aside0.mk (Kd.R_lower ho5 (below_size (by repeat (first | (with_reducible first | exact HB.out | apply below_alloc | apply pw_below_drewN | apply below_drew1 | refine below_set ?_ GE578.out) | exact HB.out)))); have n1_ := Aside0.mk (blk_below (g := gb578) (o := .cells #[.int .i64 a0_0, .slice A0_1 l0_1.length c0_1] 29 (0, 0)) (by (with_reducible repeat (first | refine blk_drewN ?_ _ | refine blk_drew ?_ | refine blk_alloc ?_ _)); exact BK578.out) hb); have n2_ := Aside0.mk (below_step (by repeat (first | (with_reducible first | exact HB.out | apply below_alloc | apply pw_below_drewN | apply below_drew1 | refine below_set ?_ GE578.out) | exact HB.out)) hb); clear BK578; clear HB; have HO581 := n0_; have BK578 := n1_; have HB := n2_; clear n0_ n1_ n2_; clear hb ho5; have hcz6_0 : w4.cell? ⟨gb578, 0, none⟩ = some (.int .i64 a0_0) := (blk_cell BK578.out 0).trans rfl; have hcz6_1 : w4.cell? ⟨gb578, 1, none⟩ = some (.slice A0_1 l0_1.length c0_1) := (blk_cell BK578.out 1).trans rfl; have hfz6_0 := blk_frozen BK578.out 0; have hfz6_1 := blk_frozen BK578.out 1)))
  go_loopg [5, 16] k (fun kq v5 v16 w' => ∃ (x5_1 : List Int) (x16_1 : Int), v16 = .int .i64 x16_1 ∧ Aside0 (impl_Graph_classes_at_every.l0 kq x5_1 a0_0 x16_1 a0_0 l0_1 = some r) ∧ Aside0 (kq ≤ k) ∧ Aside0 (Kd.R (Kd.int .i64) 2 w' w.heap.size (fun _ => True) v5 x5_1) ∧ Aside0 (w'.heap[gb578]? = some (.cells #[.int .i64 a0_0, (.slice A0_1 l0_1.length c0_1)] 29 (0, 0))) ∧ Aside0 (Below w.heap.size w w'))
  case atStart => exact ⟨(y579), (0), (by first | rfl | (simp; done) | (simp [*]; done)), H', ⟨Nat.le_refl _⟩, ⟨by (with_reducible repeat (first | apply Kd.R_alloc | apply Kd.R_drewN | apply Kd.R_drew)); exact HO581.out⟩, ⟨by (with_reducible repeat (first | refine blk_drewN ?_ _ | refine blk_drew ?_ | refine blk_alloc ?_ _)); exact BK578.out⟩, ⟨by repeat (first | (with_reducible first | exact HB.out | apply below_alloc | apply pw_below_drewN | apply below_drew1 | refine below_set ?_ GE578.out) | exact HB.out)⟩⟩
  case round =>
    clear H'
    try clear p2
    try clear hcz6_0
    try clear hcz6_1
    try clear hfz6_0
    try clear hfz6_1
    obtain ⟨x5_1, x16_1, rfl, HA, HK1, HO_5, BK578, HB⟩ := hrel
    cases gk with
    | zero => exact absurd HA.out (by simp [impl_Graph_classes_at_every.l0])
    | succ k1 =>
      have H := HA.out
      clear HA
      simp only [impl_Graph_classes_at_every.l0] at H
      by_cases c7 : x16_1 < a0_0
      · rw [if_pos c7] at H
        have c7b0 : decide (x16_1 < a0_0) = true := decide_eq_true c7
        clear c7
        by_cases c8 : x5_1.length < 17592186044416
        · rw [if_pos c8] at H
          have LMc8 := Aside0.mk c8
          clear c8
          obtain ⟨y582, hy582⟩ : ∃ y_ : List Int, y_ = (x5_1 ++ [x16_1]) := ⟨_, rfl⟩
          replace H : (impl_Graph_classes_at_every.l0 k1 y582 a0_0 (wrap64 (x16_1 + 1)) a0_0 l0_1) = some r := by first | (rw [hy582]; with_reducible exact H) | (have H2_ := (Option.bind_some _ _).symm.trans H; rw [hy582]; with_reducible exact H2_) | (have H2_ := (Option.bind_some _ _).symm.trans H; with_reducible exact H2_) | with_reducible exact H | (rw [hy582]; exact H) | exact H
          have Ny582 := Aside0.mk hy582
          clear hy582
          have H' := Aside0.mk H
          clear H
          go_wp2_with (first | ((with_reducible refine gate_builtin (b := .append) (xs := #[.tmp 19, .tmp 21]) rfl ?_); at_builtin; refine Kd.R_append (Kd.int .i64) (w0 := w) w.heap.size rfl (.tmp 19) (.tmp 21) 25 2 (.int .i64 0) 8 rfl Try.underlying25 info2 rfl (by decide) (by omega) u5 x5_1 x16_1 [.int .i64 x16_1] (fun _ => True) (fun _ => False) rfl rfl ?aP (fun _ hk => hk.elim) ?aF ?aO ?aB ?aS ?aL ?_; (case aP => exact rfl); (case aB => exact (by repeat (first | (with_reducible first | exact HB.out | apply below_alloc | apply pw_below_drewN | apply below_drew1 | refine below_set ?_ GE578.out) | exact HB.out))); (case aF => exact (fun _ _ => trivial)); (case aO => exact (by (with_reducible repeat (first | apply Kd.R_alloc | apply Kd.R_drewN | apply Kd.R_drew)); exact HO_5.out)); (case aS => exact (below_size (by repeat (first | (with_reducible first | exact HB.out | apply below_alloc | apply pw_below_drewN | apply below_drew1 | refine below_set ?_ GE578.out) | exact HB.out)))); (case aL => have := LMc8.out; omega); intro v583 w9 ho hb hg hat; rw [← Ny582.out] at ho; have n0_ := Aside0.mk (blk_grown (g := gb578) (o := .cells #[.int .i64 a0_0, .slice A0_1 l0_1.length c0_1] 29 (0, 0)) (by (with_reducible repeat (first | refine blk_drewN ?_ _ | refine blk_drew ?_ | refine blk_alloc ?_ _)); exact BK578.out) hg (Kd.R_ne HO_5.out BK578.out (by decide))); have n1_ := Aside0.mk (hb); have n2_ := Aside0.mk (ho); clear BK578; clear HB; clear HO_5; have BK578 := n0_; have HB := n1_; have HO584 := n2_; clear n0_ n1_ n2_; clear ho hb hg hat))
          repeat (go_quiet (first | ((with_reducible refine gate_builtin (b := .append) (xs := #[.tmp 19, .tmp 21]) rfl ?_); at_builtin; refine Kd.R_append (Kd.int .i64) (w0 := w) w.heap.size rfl (.tmp 19) (.tmp 21) 25 2 (.int .i64 0) 8 rfl Try.underlying25 info2 rfl (by decide) (by omega) u5 x5_1 x16_1 [.int .i64 x16_1] (fun _ => True) (fun _ => False) rfl rfl ?aP (fun _ hk => hk.elim) ?aF ?aO ?aB ?aS ?aL ?_; (case aP => exact rfl); (case aB => exact (by repeat (first | (with_reducible first | exact HB.out | apply below_alloc | apply pw_below_drewN | apply below_drew1 | refine below_set ?_ GE578.out) | exact HB.out))); (case aF => exact (fun _ _ => trivial)); (case aO => exact (by (with_reducible repeat (first | apply Kd.R_alloc | apply Kd.R_drewN | apply Kd.R_drew)); exact HO_5.out)); (case aS => exact (below_size (by repeat (first | (with_reducible first | exact HB.out | apply below_alloc | apply pw_below_drewN | apply below_drew1 | refine below_set ?_ GE578.out) | exact HB.out)))); (case aL => have := LMc8.out; omega); intro v583 w9 ho hb hg hat; rw [← Ny582.out] at ho; have n0_ := Aside0.mk (blk_grown (g := gb578) (o := .cells #[.int .i64 a0_0, .slice A0_1 l0_1.length c0_1] 29 (0, 0)) (by (with_reducible repeat (first | refine blk_drewN ?_ _ | refine blk_drew ?_ | refine blk_alloc ?_ _)); exact BK578.out) hg (Kd.R_ne HO_5.out BK578.out (by decide))); have n1_ := Aside0.mk (hb); have n2_ := Aside0.mk (ho); clear BK578; clear HB; clear HO_5; have BK578 := n0_; have HB := n1_; have HO584 := n2_; clear n0_ n1_ n2_; clear ho hb hg hat)); try go_wp2_with (first | ((with_reducible refine gate_builtin (b := .append) (xs := #[.tmp 19, .tmp 21]) rfl ?_); at_builtin; refine Kd.R_append (Kd.int .i64) (w0 := w) w.heap.size rfl (.tmp 19) (.tmp 21) 25 2 (.int .i64 0) 8 rfl Try.underlying25 info2 rfl (by decide) (by omega) u5 x5_1 x16_1 [.int .i64 x16_1] (fun _ => True) (fun _ => False) rfl rfl ?aP (fun _ hk => hk.elim) ?aF ?aO ?aB ?aS ?aL ?_; (case aP => exact rfl); (case aB => exact (by repeat (first | (with_reducible first | exact HB.out | apply below_alloc | apply pw_below_drewN | apply below_drew1 | refine below_set ?_ GE578.out) | exact HB.out))); (case aF => exact (fun _ _ => trivial)); (case aO => exact (by (with_reducible repeat (first | apply Kd.R_alloc | apply Kd.R_drewN | apply Kd.R_drew)); exact HO_5.out)); (case aS => exact (below_size (by repeat (first | (with_reducible first | exact HB.out | apply below_alloc | apply pw_below_drewN | apply below_drew1 | refine below_set ?_ GE578.out) | exact HB.out)))); (case aL => have := LMc8.out; omega); intro v583 w9 ho hb hg hat; rw [← Ny582.out] at ho; have n0_ := Aside0.mk (blk_grown (g := gb578) (o := .cells #[.int .i64 a0_0, .slice A0_1 l0_1.length c0_1] 29 (0, 0)) (by (with_reducible repeat (first | refine blk_drewN ?_ _ | refine blk_drew ?_ | refine blk_alloc ?_ _)); exact BK578.out) hg (Kd.R_ne HO_5.out BK578.out (by decide))); have n1_ := Aside0.mk (hb); have n2_ := Aside0.mk (ho); clear BK578; clear HB; clear HO_5; have BK578 := n0_; have HB := n1_; have HO584 := n2_; clear n0_ n1_ n2_; clear ho hb hg hat)))
          first | go_roundg k1 | (refine Handed.intro k1 ?measure ?_; rotate_left; go_step; (try simp only [add_plain]); (repeat apply Exists.intro); refine ⟨?rel, rfl⟩)
          case measure => have := HK1.out; omega
          case rel => exact ⟨(y582), (wrap64 (x16_1 + 1)), (by first | rfl | (simp; done) | (simp [*]; done)), H', ⟨by have := HK1.out; omega⟩, ⟨by (with_reducible repeat (first | apply Kd.R_alloc | apply Kd.R_drewN | apply Kd.R_drew)); exact HO584.out⟩, ⟨by (with_reducible repeat (first | refine blk_drewN ?_ _ | refine blk_drew ?_ | refine blk_alloc ?_ _)); exact BK578.out⟩, ⟨by repeat (first | (with_reducible first | exact HB.out | apply below_alloc | apply pw_below_drewN | apply below_drew1 | refine below_set ?_ GE578.out) | exact HB.out)⟩⟩
        · rw [if_neg c8] at H
          exact absurd H (by simp)
      · rw [if_neg c7] at H
        have c7b0 : decide (x16_1 < a0_0) = false := decide_eq_false c7
        clear c7
        have H' := Aside0.mk H
        clear H
        have hcz10_0 : wr.cell? ⟨gb578, 0, none⟩ = some (.int .i64 a0_0) := (blk_cell BK578.out 0).trans rfl
        have hcz10_1 : wr.cell? ⟨gb578, 1, none⟩ = some (.slice A0_1 l0_1.length c0_1) := (blk_cell BK578.out 1).trans rfl
        have hfz10_0 := blk_frozen BK578.out 0
        have hfz10_1 := blk_frozen BK578.out 1
        go_wp2
        repeat (go_quiet (fail); try go_wp2)
        go_loopg [27] k1 (fun kq v27 w' => ∃ (x5_2 : List Int) (x27_2 : Int), v27 = .int .i64 x27_2 ∧ Aside0 (impl_Graph_classes_at_every.l1 kq x5_2 l0_1 (l0_1.length : Int) x27_2 = some r) ∧ Aside0 (kq ≤ k1) ∧ Aside0 (Kd.R (Kd.int .i64) 2 w' w.heap.size (fun _ => True) u5 x5_2) ∧ Aside0 (w'.heap[gb578]? = some (.cells #[.int .i64 a0_0, (.slice A0_1 l0_1.length c0_1)] 29 (0, 0))) ∧ Aside0 (Below w.heap.size w w'))
        case atStart => exact ⟨(x5_1), (0), (by first | rfl | (simp; done) | (simp [*]; done)), H', ⟨Nat.le_refl _⟩, ⟨by (with_reducible repeat (first | apply Kd.R_alloc | apply Kd.R_drewN | apply Kd.R_drew)); exact HO_5.out⟩, ⟨by (with_reducible repeat (first | refine blk_drewN ?_ _ | refine blk_drew ?_ | refine blk_alloc ?_ _)); exact BK578.out⟩, ⟨by repeat (first | (with_reducible first | exact HB.out | apply below_alloc | apply pw_below_drewN | apply below_drew1 | refine below_set ?_ GE578.out) | exact HB.out)⟩⟩
        case round =>
          clear H'
          try clear p2
          try clear p6
          try clear c7
          try clear c7b0
          try clear c8
          try clear hcz10_0
          try clear hcz10_1
          try clear hcz6_0
          try clear hcz6_1
          try clear hfz10_0
          try clear hfz10_1
          try clear hfz6_0
          try clear hfz6_1
          try clear p2
          obtain ⟨x5_2, x27_2, rfl, HA, HK2, HO_5, BK578, HB⟩ := hrel
          cases gk with
          | zero => exact absurd HA.out (by simp [impl_Graph_classes_at_every.l1])
          | succ k2 =>
            have H := HA.out
            clear HA
            simp only [impl_Graph_classes_at_every.l1] at H
            by_cases c11 : x27_2 < (l0_1.length : Int)
            · rw [if_pos c11] at H
              have c11b0 : decide (x27_2 < (l0_1.length : Int)) = true := decide_eq_true c11
              clear c11
              by_cases c12 : 0 ≤ x27_2
              · rw [if_pos c12] at H
                have c12b0 : decide (0 ≤ x27_2) = true := decide_eq_true c12
                clear c12
                by_cases c13 : x27_2 < (l0_1.length : Int)
                · rw [if_pos c13] at H
                  have c13b0 : decide (x27_2 < (l0_1.length : Int)) = true := decide_eq_true c13
                  clear c13
                  replace H := Option.bind_eq_some_iff.mp H
                  obtain ⟨t586, A140, H⟩ := H
                  replace H : (if t586 = true then (if 0 < ((rd_L1 l0_1 x27_2).length : Int) then (if 0 ≤ (rd (rd_L1 l0_1 x27_2) 0) then (if (rd (rd_L1 l0_1 x27_2) 0) < (x5_2.length : Int) then (if 1 < ((rd_L1 l0_1 x27_2).length : Int) then (if 0 ≤ (rd (rd_L1 l0_1 x27_2) 1) then (if (rd (rd_L1 l0_1 x27_2) 1) < (x5_2.length : Int) then (impl_Graph_classes_at_every.l2 k2 x5_2 (rd x5_2 (rd (rd_L1 l0_1 x27_2) 0)) (rd x5_2 (rd (rd_L1 l0_1 x27_2) 1)) l0_1 (l0_1.length : Int) x27_2 (x5_2.length : Int) 0) else (none)) else (none)) else (none)) else (none)) else (none)) else (none)) else (impl_Graph_classes_at_every.l1 k2 x5_2 l0_1 (l0_1.length : Int) (wrap64 (x27_2 + 1)))) = some r := H
                  have A14 := Aside0.mk A140
                  clear A140
                  by_cases c15 : t586 = true
                  · subst c15
                    have H1 : (if 0 < ((rd_L1 l0_1 x27_2).length : Int) then (if 0 ≤ (rd (rd_L1 l0_1 x27_2) 0) then (if (rd (rd_L1 l0_1 x27_2) 0) < (x5_2.length : Int) then (if 1 < ((rd_L1 l0_1 x27_2).length : Int) then (if 0 ≤ (rd (rd_L1 l0_1 x27_2) 1) then (if (rd (rd_L1 l0_1 x27_2) 1) < (x5_2.length : Int) then (impl_Graph_classes_at_every.l2 k2 x5_2 (rd x5_2 (rd (rd_L1 l0_1 x27_2) 0)) (rd x5_2 (rd (rd_L1 l0_1 x27_2) 1)) l0_1 (l0_1.length : Int) x27_2 (x5_2.length : Int) 0) else (none)) else (none)) else (none)) else (none)) else (none)) else (none)) = some r := by rw [if_pos rfl] at H; exact H
                    clear H
                    have H := H1
                    clear H1
                    by_cases c16 : 0 < ((rd_L1 l0_1 x27_2).length : Int)
                    · rw [if_pos c16] at H
                      have c16b0 : decide (0 < ((rd_L1 l0_1 x27_2).length : Int)) = true := decide_eq_true c16
                      have c16b1 : decide (0 < (rd_L1 l0_1 x27_2).length) = true := decide_eq_true (by omega)
                      clear c16
                      by_cases c17 : 0 ≤ (rd (rd_L1 l0_1 x27_2) 0)
                      · rw [if_pos c17] at H
                        have c17b0 : decide (0 ≤ (rd (rd_L1 l0_1 x27_2) 0)) = true := decide_eq_true c17
                        clear c17
                        by_cases c18 : (rd (rd_L1 l0_1 x27_2) 0) < (x5_2.length : Int)
                        · rw [if_pos c18] at H
                          have c18b0 : decide ((rd (rd_L1 l0_1 x27_2) 0) < (x5_2.length : Int)) = true := decide_eq_true c18
                          clear c18
                          by_cases c19 : 1 < ((rd_L1 l0_1 x27_2).length : Int)
                          · rw [if_pos c19] at H
                            have c19b0 : decide (1 < ((rd_L1 l0_1 x27_2).length : Int)) = true := decide_eq_true c19
                            have c19b1 : decide (1 < (rd_L1 l0_1 x27_2).length) = true := decide_eq_true (by omega)
                            clear c19
                            by_cases c20 : 0 ≤ (rd (rd_L1 l0_1 x27_2) 1)
                            · rw [if_pos c20] at H
                              have c20b0 : decide (0 ≤ (rd (rd_L1 l0_1 x27_2) 1)) = true := decide_eq_true c20
                              clear c20
                              by_cases c21 : (rd (rd_L1 l0_1 x27_2) 1) < (x5_2.length : Int)
                              · rw [if_pos c21] at H
                                have c21b0 : decide ((rd (rd_L1 l0_1 x27_2) 1) < (x5_2.length : Int)) = true := decide_eq_true c21
                                clear c21
                                have H' := Aside0.mk H
                                clear H
                                have p585 : 0 ≤ (x27_2 : Int) := of_decide_eq_true (by first | (with_reducible assumption) | assumption)
                                have q585 : x27_2 < (l0_1.length : Int) := of_decide_eq_true (by first | (with_reducible assumption) | assumption)
                                obtain ⟨ad585, A585_0, c585_0, e585, hx585_0, hl585_0, hi585_0⟩ := at_L1 HR0_1.out x27_2 p585 q585
                                cases e585
                                replace hx585_0 := (HB.out.cell (World.block_lt_of_cell? w _ hx585_0)).trans hx585_0
                                have HR585_0 := Aside0.mk hi585_0
                                have HC585_0 := Aside0.mk hl585_0
                                clear hi585_0 hl585_0
                                replace p585 := eq_true p585
                                replace q585 := eq_true q585
                                have p587 : 0 ≤ (0 : Int) := (by omega)
                                have q587 : 0 < ((rd_L1 l0_1 x27_2).length : Int) := of_decide_eq_true (by first | (with_reducible assumption) | assumption)
                                obtain ⟨ad587, e587, hx587_0⟩ := Kd.at_int HR585_0.out 0 p587 q587
                                cases e587
                                have qi587 : (0 < (rd_L1 l0_1 x27_2).length) = True := eq_true (by omega)
                                (try rw [show ((0 : Int)).toNat = 0 from rfl] at hx587_0)
                                (try rw [Addr.add_zero'] at hx587_0)
                                replace hx587_0 := (HB.out.cell (World.block_lt_of_cell? w _ hx587_0)).trans hx587_0
                                replace p587 := eq_true p587
                                replace q587 := eq_true q587
                                have p589 : 0 ≤ (1 : Int) := (by omega)
                                have q589 : 1 < ((rd_L1 l0_1 x27_2).length : Int) := of_decide_eq_true (by first | (with_reducible assumption) | assumption)
                                obtain ⟨ad589, e589, hx589_0⟩ := Kd.at_int HR585_0.out 1 p589 q589
                                obtain rfl : ad587 = ad589 := (by injection e589)
                                (try simp only [show (1 : Int).toNat = 1 from rfl, Nat.reduceMul, Nat.reduceEqDiff, Go.Addr.add, ↓reduceIte] at hx589_0)
                                have qi589 : (1 < (rd_L1 l0_1 x27_2).length) = True := eq_true (by omega)
                                (try rw [show ((1 : Int)).toNat = 1 from rfl] at hx589_0)
                                replace hx589_0 := (HB.out.cell (World.block_lt_of_cell? w _ hx589_0)).trans hx589_0
                                replace p589 := eq_true p589
                                replace q589 := eq_true q589
                                go_wp2_with (first | ((with_reducible refine gate_fn (t := 32) rfl ?_); refine goesF_ (some 34) rfl rfl Try.func78 (by kernel_rfl) rfl (lb := #[]) #[.int .i64 x27_2] rfl (by first | rfl | (simp; done)) (by (try simp only [List.map_toArray, List.map_cons, List.map_nil, List.append_toArray, List.cons_append, List.nil_append]); first | done | rfl | (simp only [List.length_drop, List.length_take]; rfl)) ?_; (with_reducible refine (impl_every.calls x27_2 true _ A14.out).mono ?_); rintro e w' ⟨rfl, ⟨nd, rfl⟩⟩; refine ⟨_, rfl, ?_⟩; (try first | exact ⟨rfl, _, World.drewN_drewN _ _ _⟩ | exact ⟨rfl, _, Eq.trans (World.drewN_drewN _ _ _) (congrArg (World.drewN _) (Nat.add_assoc _ _ _))⟩); obtain ⟨Ao22, co22, eo22⟩ := Kd.R_slice HO_5.out; subst eo22; have p588 : 0 ≤ ((rd (rd_L1 l0_1 x27_2) 0) : Int) := of_decide_eq_true (by first | (with_reducible assumption) | assumption); have q588 : (rd (rd_L1 l0_1 x27_2) 0) < (x5_2.length : Int) := of_decide_eq_true (by first | (with_reducible assumption) | assumption); obtain ⟨ad588, e588, hx588_0⟩ := Kd.at_int (Kd.R_reads' HO_5.out).2.2 (rd (rd_L1 l0_1 x27_2) 0) p588 q588; cases e588; replace p588 := eq_true p588; replace q588 := eq_true q588; have p590 : 0 ≤ ((rd (rd_L1 l0_1 x27_2) 1) : Int) := of_decide_eq_true (by first | (with_reducible assumption) | assumption); have q590 : (rd (rd_L1 l0_1 x27_2) 1) < (x5_2.length : Int) := of_decide_eq_true (by first | (with_reducible assumption) | assumption); obtain ⟨ad590, e590, hx590_0⟩ := Kd.at_int (Kd.R_reads' HO_5.out).2.2 (rd (rd_L1 l0_1 x27_2) 1) p590 q590; obtain rfl : ad588 = ad590 := (by injection e590); replace p590 := eq_true p590; replace q590 := eq_true q590))
                                repeat (go_quiet (first | ((with_reducible refine gate_fn (t := 32) rfl ?_); refine goesF_ (some 34) rfl rfl Try.func78 (by kernel_rfl) rfl (lb := #[]) #[.int .i64 x27_2] rfl (by first | rfl | (simp; done)) (by (try simp only [List.map_toArray, List.map_cons, List.map_nil, List.append_toArray, List.cons_append, List.nil_append]); first | done | rfl | (simp only [List.length_drop, List.length_take]; rfl)) ?_; (with_reducible refine (impl_every.calls x27_2 true _ A14.out).mono ?_); rintro e w' ⟨rfl, ⟨nd, rfl⟩⟩; refine ⟨_, rfl, ?_⟩; (try first | exact ⟨rfl, _, World.drewN_drewN _ _ _⟩ | exact ⟨rfl, _, Eq.trans (World.drewN_drewN _ _ _) (congrArg (World.drewN _) (Nat.add_assoc _ _ _))⟩); obtain ⟨Ao22, co22, eo22⟩ := Kd.R_slice HO_5.out; subst eo22; have p588 : 0 ≤ ((rd (rd_L1 l0_1 x27_2) 0) : Int) := of_decide_eq_true (by first | (with_reducible assumption) | assumption); have q588 : (rd (rd_L1 l0_1 x27_2) 0) < (x5_2.length : Int) := of_decide_eq_true (by first | (with_reducible assumption) | assumption); obtain ⟨ad588, e588, hx588_0⟩ := Kd.at_int (Kd.R_reads' HO_5.out).2.2 (rd (rd_L1 l0_1 x27_2) 0) p588 q588; cases e588; replace p588 := eq_true p588; replace q588 := eq_true q588; have p590 : 0 ≤ ((rd (rd_L1 l0_1 x27_2) 1) : Int) := of_decide_eq_true (by first | (with_reducible assumption) | assumption); have q590 : (rd (rd_L1 l0_1 x27_2) 1) < (x5_2.length : Int) := of_decide_eq_true (by first | (with_reducible assumption) | assumption); obtain ⟨ad590, e590, hx590_0⟩ := Kd.at_int (Kd.R_reads' HO_5.out).2.2 (rd (rd_L1 l0_1 x27_2) 1) p590 q590; obtain rfl : ad588 = ad590 := (by injection e590); replace p590 := eq_true p590; replace q590 := eq_true q590)); try go_wp2_with (first | ((with_reducible refine gate_fn (t := 32) rfl ?_); refine goesF_ (some 34) rfl rfl Try.func78 (by kernel_rfl) rfl (lb := #[]) #[.int .i64 x27_2] rfl (by first | rfl | (simp; done)) (by (try simp only [List.map_toArray, List.map_cons, List.map_nil, List.append_toArray, List.cons_append, List.nil_append]); first | done | rfl | (simp only [List.length_drop, List.length_take]; rfl)) ?_; (with_reducible refine (impl_every.calls x27_2 true _ A14.out).mono ?_); rintro e w' ⟨rfl, ⟨nd, rfl⟩⟩; refine ⟨_, rfl, ?_⟩; (try first | exact ⟨rfl, _, World.drewN_drewN _ _ _⟩ | exact ⟨rfl, _, Eq.trans (World.drewN_drewN _ _ _) (congrArg (World.drewN _) (Nat.add_assoc _ _ _))⟩); obtain ⟨Ao22, co22, eo22⟩ := Kd.R_slice HO_5.out; subst eo22; have p588 : 0 ≤ ((rd (rd_L1 l0_1 x27_2) 0) : Int) := of_decide_eq_true (by first | (with_reducible assumption) | assumption); have q588 : (rd (rd_L1 l0_1 x27_2) 0) < (x5_2.length : Int) := of_decide_eq_true (by first | (with_reducible assumption) | assumption); obtain ⟨ad588, e588, hx588_0⟩ := Kd.at_int (Kd.R_reads' HO_5.out).2.2 (rd (rd_L1 l0_1 x27_2) 0) p588 q588; cases e588; replace p588 := eq_true p588; replace q588 := eq_true q588; have p590 : 0 ≤ ((rd (rd_L1 l0_1 x27_2) 1) : Int) := of_decide_eq_true (by first | (with_reducible assumption) | assumption); have q590 : (rd (rd_L1 l0_1 x27_2) 1) < (x5_2.length : Int) := of_decide_eq_true (by first | (with_reducible assumption) | assumption); obtain ⟨ad590, e590, hx590_0⟩ := Kd.at_int (Kd.R_reads' HO_5.out).2.2 (rd (rd_L1 l0_1 x27_2) 1) p590 q590; obtain rfl : ad588 = ad590 := (by injection e590); replace p590 := eq_true p590; replace q590 := eq_true q590)))
                                go_loopg [50] k2 (fun kq v50 w' => ∃ (x5_3 : List Int) (x50_3 : Int), v50 = .int .i64 x50_3 ∧ Aside0 (impl_Graph_classes_at_every.l2 kq x5_3 (rd x5_2 (rd (rd_L1 l0_1 x27_2) 0)) (rd x5_2 (rd (rd_L1 l0_1 x27_2) 1)) l0_1 (l0_1.length : Int) x27_2 (x5_2.length : Int) x50_3 = some r) ∧ Aside0 (kq ≤ k2) ∧ Aside0 (Kd.R (Kd.int .i64) 2 w' w.heap.size (fun _ => True) (.slice (some ad588) x5_2.length co22) x5_3) ∧ Aside0 (w'.heap[gb578]? = some (.cells #[.int .i64 a0_0, (.slice (some ad585) l0_1.length c0_1)] 29 (0, 0))) ∧ Aside0 (Below w.heap.size w w'))
                                case atStart => exact ⟨(x5_2), (0), (by first | rfl | (simp; done) | (simp [*]; done)), H', ⟨Nat.le_refl _⟩, ⟨by (with_reducible repeat (first | apply Kd.R_alloc | apply Kd.R_drewN | apply Kd.R_drew)); exact HO_5.out⟩, ⟨by (with_reducible repeat (first | refine blk_drewN ?_ _ | refine blk_drew ?_ | refine blk_alloc ?_ _)); exact BK578.out⟩, ⟨by repeat (first | (with_reducible first | exact HB.out | apply below_alloc | apply pw_below_drewN | apply below_drew1 | refine below_set ?_ GE578.out) | exact HB.out)⟩⟩
                                case round =>
                                  clear H'
                                  try clear c1
                                  try clear c2
                                  try clear p2
                                  try clear c5
                                  try clear p5
                                  try clear q5
                                  try clear hx5
                                  try clear qi5
                                  try clear p6
                                  try clear c7
                                  try clear c7b0
                                  try clear c8
                                  try clear c11
                                  try clear c11b0
                                  try clear c12
                                  try clear c12b0
                                  try clear c13
                                  try clear c13b0
                                  try clear c15
                                  try clear c16
                                  try clear c16b0
                                  try clear c16b1
                                  try clear c17
                                  try clear c17b0
                                  try clear c18
                                  try clear c18b0
                                  try clear c19
                                  try clear c19b0
                                  try clear c19b1
                                  try clear c20
                                  try clear c20b0
                                  try clear c21
                                  try clear c21b0
                                  try clear hcz10_0
                                  try clear hcz10_1
                                  try clear hcz6_0
                                  try clear hcz6_1
                                  try clear hfz10_0
                                  try clear hfz10_1
                                  try clear hfz6_0
                                  try clear hfz6_1
                                  try clear hx585_0
                                  try clear hx587_0
                                  try clear hx588_0
                                  try clear hx589_0
                                  try clear hx590_0
                                  try clear p2
                                  try clear p585
                                  try clear p587
                                  try clear p588
                                  try clear p589
                                  try clear p590
                                  try clear p6
                                  try clear q585
                                  try clear q587
                                  try clear q588
                                  try clear q589
                                  try clear q590
                                  obtain ⟨x5_3, x50_3, rfl, HA, HK3, HO_5, BK578, HB⟩ := hrel
                                  have hl5_3 := (Kd.R_reads' HO_5.out).1
                                  rw [hl5_3] at HO_5
                                  (try simp only [hl5_3])
                                  (try simp only [hl5_3] at BK578)
                                  cases gk with
                                  | zero => exact absurd HA.out (by simp [impl_Graph_classes_at_every.l2])
                                  | succ k3 =>
                                    have H := HA.out
                                    clear HA
                                    simp only [impl_Graph_classes_at_every.l2] at H
                                    by_cases c23 : x50_3 < (x5_2.length : Int)
                                    · rw [if_pos c23] at H
                                      have c23b0 : decide (x50_3 < (x5_2.length : Int)) = true := decide_eq_true c23
                                      (try (have c23z0 := c23b0; simp only [hl5_3] at c23z0))
                                      clear c23
                                      by_cases c24 : 0 ≤ x50_3
                                      · rw [if_pos c24] at H
                                        have c24b0 : decide (0 ≤ x50_3) = true := decide_eq_true c24
                                        clear c24
                                        by_cases c25 : x50_3 < (x5_3.length : Int)
                                        · rw [if_pos c25] at H
                                          have c25b0 : decide (x50_3 < (x5_3.length : Int)) = true := decide_eq_true c25
                                          (try (have c25z0 := c25b0; simp only [hl5_3] at c25z0))
                                          clear c25
                                          obtain ⟨ji26, hji26⟩ : ∃ j_ : Int, (mx (rd x5_2 (rd (rd_L1 l0_1 x27_2) 0)) (rd x5_2 (rd (rd_L1 l0_1 x27_2) 1))) = j_ := ⟨_, rfl⟩
                                          (try rw [hji26])
                                          replace H : (if (rd x5_3 x50_3) = (ji26) then (impl_Graph_classes_at_every.l2 k3 (x5_3.set (x50_3 : Int).toNat (mn (rd x5_2 (rd (rd_L1 l0_1 x27_2) 0)) (rd x5_2 (rd (rd_L1 l0_1 x27_2) 1)))) (rd x5_2 (rd (rd_L1 l0_1 x27_2) 0)) (rd x5_2 (rd (rd_L1 l0_1 x27_2) 1)) l0_1 (l0_1.length : Int) x27_2 (x5_2.length : Int) (wrap64 (x50_3 + 1))) else (impl_Graph_classes_at_every.l2 k3 x5_3 (rd x5_2 (rd (rd_L1 l0_1 x27_2) 0)) (rd x5_2 (rd (rd_L1 l0_1 x27_2) 1)) l0_1 (l0_1.length : Int) x27_2 (x5_2.length : Int) (wrap64 (x50_3 + 1)))) = some r := by first | (rw [hji26] at H; exact H) | (simp only [hji26] at H ⊢; exact H)
                                          have hji26_ : (if (rd x5_2 (rd (rd_L1 l0_1 x27_2) 0)) < (rd x5_2 (rd (rd_L1 l0_1 x27_2) 1)) then (rd x5_2 (rd (rd_L1 l0_1 x27_2) 1)) else (rd x5_2 (rd (rd_L1 l0_1 x27_2) 0))) = ji26 := hji26
                                          by_cases c27 : (rd x5_3 x50_3) = (ji26)
                                          · rw [if_pos c27] at H
                                            have c27b0 : ((rd x5_3 x50_3) == (ji26)) = true := beq_iff_eq.mpr c27
                                            have c27b1 : ((rd x5_3 x50_3) != (ji26)) = false := bne_eq_false_iff_eq.mpr c27
                                            clear c27
                                            obtain ⟨ji28, hji28⟩ : ∃ j_ : Int, (mn (rd x5_2 (rd (rd_L1 l0_1 x27_2) 0)) (rd x5_2 (rd (rd_L1 l0_1 x27_2) 1))) = j_ := ⟨_, rfl⟩
                                            (try rw [hji28])
                                            replace H : (impl_Graph_classes_at_every.l2 k3 (x5_3.set (x50_3 : Int).toNat (ji28)) (rd x5_2 (rd (rd_L1 l0_1 x27_2) 0)) (rd x5_2 (rd (rd_L1 l0_1 x27_2) 1)) l0_1 (l0_1.length : Int) x27_2 (x5_2.length : Int) (wrap64 (x50_3 + 1))) = some r := by first | (rw [hji28] at H; exact H) | (simp only [hji28] at H ⊢; exact H)
                                            have hji28_ : (if (rd x5_2 (rd (rd_L1 l0_1 x27_2) 1)) < (rd x5_2 (rd (rd_L1 l0_1 x27_2) 0)) then (rd x5_2 (rd (rd_L1 l0_1 x27_2) 1)) else (rd x5_2 (rd (rd_L1 l0_1 x27_2) 0))) = ji28 := hji28
                                            obtain ⟨y592, hy592⟩ : ∃ y_ : List Int, y_ = (x5_3.set (x50_3 : Int).toNat (ji28)) := ⟨_, rfl⟩
                                            replace H : (impl_Graph_classes_at_every.l2 k3 y592 (rd x5_2 (rd (rd_L1 l0_1 x27_2) 0)) (rd x5_2 (rd (rd_L1 l0_1 x27_2) 1)) l0_1 (l0_1.length : Int) x27_2 (x5_2.length : Int) (wrap64 (x50_3 + 1))) = some r := by first | (rw [hy592]; with_reducible exact H) | (have H2_ := (Option.bind_some _ _).symm.trans H; rw [hy592]; with_reducible exact H2_) | (have H2_ := (Option.bind_some _ _).symm.trans H; with_reducible exact H2_) | with_reducible exact H | (rw [hy592]; exact H) | exact H
                                            have Ny592 := Aside0.mk hy592
                                            clear hy592
                                            have H' := Aside0.mk H
                                            clear H
                                            have p591 : 0 ≤ (x50_3 : Int) := of_decide_eq_true (by first | (with_reducible assumption) | assumption)
                                            have q591 : x50_3 < (x5_3.length : Int) := of_decide_eq_true (by first | (with_reducible assumption) | assumption)
                                            obtain ⟨ad591, e591, hx591_0⟩ := Kd.at_int (Kd.R_reads' HO_5.out).2.2 x50_3 p591 q591
                                            obtain rfl : ad588 = ad591 := (by injection e591)
                                            replace p591 := eq_true p591
                                            replace q591 := eq_true q591
                                            have p29 : 0 ≤ (x50_3 : Int) := of_decide_eq_true (by first | (with_reducible assumption) | assumption)
                                            have q29 : (x50_3 : Int) < ((x5_3.length : Int) : Int) := of_decide_eq_true (by first | (with_reducible assumption) | assumption)
                                            obtain ⟨go29, co29, eo29, gb29, gl29, cl29, HG29⟩ := Kd.R_form HO_5.out (by omega)
                                            (first | cases eo29 | (injection eo29 with ea_ en_ ec_; (first | subst ea_ | (injection ea_ with ea_; subst ea_)); subst ec_; clear en_))
                                            have GB29 := Aside0.mk gb29
                                            have GG29 := Aside0.mk HG29
                                            clear gb29 gl29 HG29
                                            (first | simp only [add_plain] at hx588_0 | skip)
                                            (first | simp only [add_plain] at hx590_0 | skip)
                                            (first | simp only [add_plain] at hx591_0 | skip)
                                            obtain ⟨hx29_0, hf29_0⟩ := Kd.R_celln 0 HO_5.out (x50_3 : Int) p29 q29
                                            replace p29 := eq_true p29
                                            replace q29 := eq_true q29
                                            have HP30 := Kd.R_putg HO_5.out (x50_3 : Int) ji28
                                            go_wp2_with (first | ((with_reducible refine gate_store (t := 2) (p := 65) rfl ?_); (try (rw [drewN_self wr]; generalize hq_ : World.drewN wr _ = wr; have n0_ := Aside0.mk (Kd.R_at hq_ HO_5.out); have n1_ := Aside0.mk (blk_at hq_ BK578.out); have n2_ := Aside0.mk (below_at hq_ HB.out); clear hq_ HO_5 BK578 HB; have HO_5 := n0_; have BK578 := n1_; have HB := n2_; clear n0_ n1_ n2_; (try (have HP30 := Kd.R_putg HO_5.out (x50_3 : Int) ji28)))); refine store_event (t := 2) (p := 65) (v := ?vo_w31) (w1 := (wr.setCell ⟨go29, (x50_3 : Int).toNat, none⟩ (.int .i64 ji28))) ?hg ?ho ?hn ?hr ?_; (case ho => rfl); (case hg => rfl); (case hn => rfl); (case hr => first | (go_simp; done) | (go_simp; rfl)); intro w31 hw; have hg : wr.grownBy w31 (some go29) := (by rw [hw]; exact HP30.2); have hp_ : Kd.R (Kd.int .i64) 2 w31 w.heap.size (fun _ => True) (.slice (some ⟨go29, 0, none⟩) x5_3.length co22) y592 := (by rw [hw, Ny592.out]; exact HP30.1); clear HP30; have n0_ := Aside0.mk (hp_); have n1_ := Aside0.mk (blk_grown (g := gb578) (o := .cells #[.int .i64 a0_0, .slice (some ad585) l0_1.length c0_1] 29 (0, 0)) (by (with_reducible repeat (first | refine blk_drewN ?_ _ | refine blk_drew ?_ | refine blk_alloc ?_ _)); exact BK578.out) hg (Kd.R_ne HO_5.out BK578.out (by decide))); have n2_ := Aside0.mk ((by rw [hw]; exact below_set (HB.out) GB29.out : Below w.heap.size w w31)); clear HO_5; clear BK578; clear HB; have HO_5 := n0_; have BK578 := n1_; have HB := n2_; clear n0_ n1_ n2_; clear hg hw hp_))
                                            repeat (go_quiet (first | ((with_reducible refine gate_store (t := 2) (p := 65) rfl ?_); (try (rw [drewN_self wr]; generalize hq_ : World.drewN wr _ = wr; have n0_ := Aside0.mk (Kd.R_at hq_ HO_5.out); have n1_ := Aside0.mk (blk_at hq_ BK578.out); have n2_ := Aside0.mk (below_at hq_ HB.out); clear hq_ HO_5 BK578 HB; have HO_5 := n0_; have BK578 := n1_; have HB := n2_; clear n0_ n1_ n2_; (try (have HP30 := Kd.R_putg HO_5.out (x50_3 : Int) ji28)))); refine store_event (t := 2) (p := 65) (v := ?vo_w31) (w1 := (wr.setCell ⟨go29, (x50_3 : Int).toNat, none⟩ (.int .i64 ji28))) ?hg ?ho ?hn ?hr ?_; (case ho => rfl); (case hg => rfl); (case hn => rfl); (case hr => first | (go_simp; done) | (go_simp; rfl)); intro w31 hw; have hg : wr.grownBy w31 (some go29) := (by rw [hw]; exact HP30.2); have hp_ : Kd.R (Kd.int .i64) 2 w31 w.heap.size (fun _ => True) (.slice (some ⟨go29, 0, none⟩) x5_3.length co22) y592 := (by rw [hw, Ny592.out]; exact HP30.1); clear HP30; have n0_ := Aside0.mk (hp_); have n1_ := Aside0.mk (blk_grown (g := gb578) (o := .cells #[.int .i64 a0_0, .slice (some ad585) l0_1.length c0_1] 29 (0, 0)) (by (with_reducible repeat (first | refine blk_drewN ?_ _ | refine blk_drew ?_ | refine blk_alloc ?_ _)); exact BK578.out) hg (Kd.R_ne HO_5.out BK578.out (by decide))); have n2_ := Aside0.mk ((by rw [hw]; exact below_set (HB.out) GB29.out : Below w.heap.size w w31)); clear HO_5; clear BK578; clear HB; have HO_5 := n0_; have BK578 := n1_; have HB := n2_; clear n0_ n1_ n2_; clear hg hw hp_)); try go_wp2_with (first | ((with_reducible refine gate_store (t := 2) (p := 65) rfl ?_); (try (rw [drewN_self wr]; generalize hq_ : World.drewN wr _ = wr; have n0_ := Aside0.mk (Kd.R_at hq_ HO_5.out); have n1_ := Aside0.mk (blk_at hq_ BK578.out); have n2_ := Aside0.mk (below_at hq_ HB.out); clear hq_ HO_5 BK578 HB; have HO_5 := n0_; have BK578 := n1_; have HB := n2_; clear n0_ n1_ n2_; (try (have HP30 := Kd.R_putg HO_5.out (x50_3 : Int) ji28)))); refine store_event (t := 2) (p := 65) (v := ?vo_w31) (w1 := (wr.setCell ⟨go29, (x50_3 : Int).toNat, none⟩ (.int .i64 ji28))) ?hg ?ho ?hn ?hr ?_; (case ho => rfl); (case hg => rfl); (case hn => rfl); (case hr => first | (go_simp; done) | (go_simp; rfl)); intro w31 hw; have hg : wr.grownBy w31 (some go29) := (by rw [hw]; exact HP30.2); have hp_ : Kd.R (Kd.int .i64) 2 w31 w.heap.size (fun _ => True) (.slice (some ⟨go29, 0, none⟩) x5_3.length co22) y592 := (by rw [hw, Ny592.out]; exact HP30.1); clear HP30; have n0_ := Aside0.mk (hp_); have n1_ := Aside0.mk (blk_grown (g := gb578) (o := .cells #[.int .i64 a0_0, .slice (some ad585) l0_1.length c0_1] 29 (0, 0)) (by (with_reducible repeat (first | refine blk_drewN ?_ _ | refine blk_drew ?_ | refine blk_alloc ?_ _)); exact BK578.out) hg (Kd.R_ne HO_5.out BK578.out (by decide))); have n2_ := Aside0.mk ((by rw [hw]; exact below_set (HB.out) GB29.out : Below w.heap.size w w31)); clear HO_5; clear BK578; clear HB; have HO_5 := n0_; have BK578 := n1_; have HB := n2_; clear n0_ n1_ n2_; clear hg hw hp_)))
                                            (try simp only [← hl5_3])
                                            (try subst hji28); (try subst hji26)
                                            first | go_roundg k3 | (refine Handed.intro k3 ?measure ?_; rotate_left; go_step; (try simp only [add_plain]); (repeat apply Exists.intro); refine ⟨?rel, rfl⟩)
                                            case measure => have := HK1.out; have := HK2.out; have := HK3.out; omega
                                            case rel => exact ⟨(y592), (wrap64 (x50_3 + 1)), (by first | rfl | (simp; done) | (simp [*]; done)), H', ⟨by have := HK1.out; have := HK2.out; have := HK3.out; omega⟩, ⟨by (try simp only [hl5_3]); (with_reducible repeat (first | apply Kd.R_alloc | apply Kd.R_drewN | apply Kd.R_drew)); exact HO_5.out⟩, ⟨by (try simp only [hl5_3]); (with_reducible repeat (first | refine blk_drewN ?_ _ | refine blk_drew ?_ | refine blk_alloc ?_ _)); exact BK578.out⟩, ⟨by repeat (first | (with_reducible first | exact HB.out | apply below_alloc | apply pw_below_drewN | apply below_drew1 | refine below_set ?_ GE578.out) | exact HB.out)⟩⟩
                                          · rw [if_neg c27] at H
                                            have c27b0 : ((rd x5_3 x50_3) == (ji26)) = false := beq_eq_false_iff_ne.mpr c27
                                            have c27b1 : ((rd x5_3 x50_3) != (ji26)) = true := bne_iff_ne.mpr c27
                                            have H' := Aside0.mk H
                                            clear H
                                            have p591 : 0 ≤ (x50_3 : Int) := of_decide_eq_true (by first | (with_reducible assumption) | assumption)
                                            have q591 : x50_3 < (x5_3.length : Int) := of_decide_eq_true (by first | (with_reducible assumption) | assumption)
                                            obtain ⟨ad591, e591, hx591_0⟩ := Kd.at_int (Kd.R_reads' HO_5.out).2.2 x50_3 p591 q591
                                            obtain rfl : ad588 = ad591 := (by injection e591)
                                            replace p591 := eq_true p591
                                            replace q591 := eq_true q591
                                            go_wp2
                                            repeat (go_quiet (fail); try go_wp2)
                                            (try simp only [← hl5_3])
                                            (try subst hji26)
                                            first | go_roundg k3 | (refine Handed.intro k3 ?measure ?_; rotate_left; go_step; (try simp only [add_plain]); (repeat apply Exists.intro); refine ⟨?rel, rfl⟩)
                                            case measure => have := HK1.out; have := HK2.out; have := HK3.out; omega
                                            case rel => exact ⟨(x5_3), (wrap64 (x50_3 + 1)), (by first | rfl | (simp; done) | (simp [*]; done)), H', ⟨by have := HK1.out; have := HK2.out; have := HK3.out; omega⟩, ⟨by (try simp only [hl5_3]); (with_reducible repeat (first | apply Kd.R_alloc | apply Kd.R_drewN | apply Kd.R_drew)); exact HO_5.out⟩, ⟨by (try simp only [hl5_3]); (with_reducible repeat (first | refine blk_drewN ?_ _ | refine blk_drew ?_ | refine blk_alloc ?_ _)); exact BK578.out⟩, ⟨by repeat (first | (with_reducible first | exact HB.out | apply below_alloc | apply pw_below_drewN | apply below_drew1 | refine below_set ?_ GE578.out) | exact HB.out)⟩⟩
                                        · rw [if_neg c25] at H
                                          exact absurd H (by simp)
                                      · rw [if_neg c24] at H
                                        exact absurd H (by simp)
                                    · rw [if_neg c23] at H
                                      have c23b0 : decide (x50_3 < (x5_2.length : Int)) = false := decide_eq_false c23
                                      (try (have c23z0 := c23b0; simp only [hl5_3] at c23z0))
                                      clear c23
                                      have H' := Aside0.mk H
                                      clear H
                                      go_wp2
                                      repeat (go_quiet (fail); try go_wp2)
                                      (try simp only [← hl5_3])
                                      first | go_roundg k3 | (refine Handed.intro k3 ?measure ?_; rotate_left; go_step; (try simp only [add_plain]); (repeat apply Exists.intro); refine ⟨?rel, rfl⟩)
                                      case measure => have := HK1.out; have := HK2.out; have := HK3.out; omega
                                      case rel => exact ⟨(x5_3), (wrap64 (x27_2 + 1)), (by first | rfl | (simp; done) | (simp [*]; done)), H', ⟨by have := HK1.out; have := HK2.out; have := HK3.out; omega⟩, ⟨by (try simp only [hl5_3]); (with_reducible repeat (first | apply Kd.R_alloc | apply Kd.R_drewN | apply Kd.R_drew)); exact HO_5.out⟩, ⟨by (try simp only [hl5_3]); (with_reducible repeat (first | refine blk_drewN ?_ _ | refine blk_drew ?_ | refine blk_alloc ?_ _)); exact BK578.out⟩, ⟨by repeat (first | (with_reducible first | exact HB.out | apply below_alloc | apply pw_below_drewN | apply below_drew1 | refine below_set ?_ GE578.out) | exact HB.out)⟩⟩
                              · rw [if_neg c21] at H
                                exact absurd H (by simp)
                            · rw [if_neg c20] at H
                              exact absurd H (by simp)
                          · rw [if_neg c19] at H
                            exact absurd H (by simp)
                        · rw [if_neg c18] at H
                          exact absurd H (by simp)
                      · rw [if_neg c17] at H
                        exact absurd H (by simp)
                    · rw [if_neg c16] at H
                      exact absurd H (by simp)
                  · replace c15 := Bool.eq_false_iff.mpr c15
                    subst c15
                    have H1 : (impl_Graph_classes_at_every.l1 k2 x5_2 l0_1 (l0_1.length : Int) (wrap64 (x27_2 + 1))) = some r := by rw [if_neg (show ¬ (false = true) by decide)] at H; exact H
                    clear H
                    have H := H1
                    clear H1
                    exact absurd A14.out (by simp [impl_every.f])
                · rw [if_neg c13] at H
                  exact absurd H (by simp)
              · rw [if_neg c12] at H
                exact absurd H (by simp)
            · rw [if_neg c11] at H
              have c11b0 : decide (x27_2 < (l0_1.length : Int)) = false := decide_eq_false c11
              clear c11
              obtain rfl := Option.some.inj H
              go_wp2
              repeat (go_quiet (fail); try go_wp2)
              go_ret
              exact ⟨_, by first | rfl | (simp [errW_none, errW_some] <;> rfl) | (simp [*, errW_none, errW_some] <;> rfl), by (with_reducible repeat (first | apply Kd.R_alloc | apply Kd.R_drewN | apply Kd.R_drew)); exact HO_5.out, by repeat (first | (with_reducible first | exact HB.out | apply below_alloc | apply pw_below_drewN | apply below_drew1 | refine below_set ?_ GE578.out) | exact HB.out)⟩

/-! ### impl_PartsOf: function 38 -/
mutual
def impl_PartsOf.l0 : Nat → List (List Int) → List Int → Int → Int → Option ((List (List Int)) × Int)
  | 0, _, _, _, _ => none
  | k + 1, x4, x5, x17, x18 => if x18 < x17 then (impl_PartsOf.l1 k x4 x5 x18 (([] : List Int)) x17 x18 (x5.length : Int) 0) else (some (x4, 0))
def impl_PartsOf.l1 : Nat → List (List Int) → List Int → Int → List Int → Int → Int → Int → Int → Option ((List (List Int)) × Int)
  | 0, _, _, _, _, _, _, _, _ => none
  | k + 1, x4, x5, x6, x7, x17, x18, x23, x24 => if x24 < x23 then (if 0 ≤ x24 then (if x24 < (x5.length : Int) then (if (rd x5 x24) = x6 then (if x7.length < 17592186044416 then (impl_PartsOf.l1 k x4 x5 x6 (x7 ++ [x24]) x17 x18 x23 (wrap64 (x24 + 1))) else (none)) else (impl_PartsOf.l1 k x4 x5 x6 x7 x17 x18 x23 (wrap64 (x24 + 1)))) else (none)) else (none)) else (if (x7.length : Int) > 0 then (if x4.length < 5864062014805 then (impl_PartsOf.l0 k (x4 ++ [x7]) x5 x17 (wrap64 (x18 + 1))) else (none)) else (impl_PartsOf.l0 k x4 x5 x17 (wrap64 (x18 + 1))))
end
def impl_PartsOf.f (k : Nat) (a0_0 : Int) (l0_1 : List (List Int)) : Option ((List (List Int)) × Int) := (impl_IsGraph.f k a0_0 l0_1).bind fun t594 => (if t594 = true then ((impl_Graph_classes_at_every.f k a0_0 l0_1).bind fun t598 => (impl_PartsOf.l0 k (([] : List (List Int))) t598 a0_0 0)) else (some (([] : List (List Int)), 1)))
theorem impl_PartsOf.mono_l : ∀ k, (∀ y0 y1 y2 y3, LeO (impl_PartsOf.l0 k y0 y1 y2 y3) (impl_PartsOf.l0 (k + 1) y0 y1 y2 y3)) ∧ (∀ y0 y1 y2 y3 y4 y5 y6 y7, LeO (impl_PartsOf.l1 k y0 y1 y2 y3 y4 y5 y6 y7) (impl_PartsOf.l1 (k + 1) y0 y1 y2 y3 y4 y5 y6 y7))
  | 0 => ⟨fun _ _ _ _ r h => by simp [impl_PartsOf.l0] at h, fun _ _ _ _ _ _ _ _ r h => by simp [impl_PartsOf.l1] at h⟩
  | k + 1 => by
    obtain ⟨ih0, ih1⟩ := impl_PartsOf.mono_l k
    refine ⟨?_, ?_⟩
    · intro y0 y1 y2 y3
      unfold impl_PartsOf.l0
      repeat' first
      | (with_reducible exact ih0 _ _ _ _)
      | (with_reducible exact ih1 _ _ _ _ _ _ _ _)
      | (with_reducible exact impl_Graph_classes_at_every.mono _ _ _)
      | (with_reducible exact impl_IsGraph.mono _ _ _)
      | (with_reducible exact LeO.refl _)
      | (with_reducible exact LeO.none _)
      | (with_reducible refine LeO.ite ?_ ?_)
      | (with_reducible refine LeO.bind ?_ (fun _ => ?_))
      | exact ih0 _ _ _ _
      | exact ih1 _ _ _ _ _ _ _ _
      | exact impl_Graph_classes_at_every.mono _ _ _
      | exact impl_IsGraph.mono _ _ _
      | exact LeO.none _
      | refine LeO.ite ?_ ?_
      | refine LeO.bind ?_ (fun _ => ?_)
    · intro y0 y1 y2 y3 y4 y5 y6 y7
      unfold impl_PartsOf.l1
      repeat' first
      | (with_reducible exact ih0 _ _ _ _)
      | (with_reducible exact ih1 _ _ _ _ _ _ _ _)
      | (with_reducible exact impl_Graph_classes_at_every.mono _ _ _)
      | (with_reducible exact impl_IsGraph.mono _ _ _)
      | (with_reducible exact LeO.refl _)
      | (with_reducible exact LeO.none _)
      | (with_reducible refine LeO.ite ?_ ?_)
      | (with_reducible refine LeO.bind ?_ (fun _ => ?_))
      | exact ih0 _ _ _ _
      | exact ih1 _ _ _ _ _ _ _ _
      | exact impl_Graph_classes_at_every.mono _ _ _
      | exact impl_IsGraph.mono _ _ _
      | exact LeO.none _
      | refine LeO.ite ?_ ?_
      | refine LeO.bind ?_ (fun _ => ?_)
theorem impl_PartsOf.mono : ∀ a0 a1 k, LeO (impl_PartsOf.f k a0 a1) (impl_PartsOf.f (k + 1) a0 a1) := by
  intro a0 a1 k
  obtain ⟨ih0, ih1⟩ := impl_PartsOf.mono_l k
  unfold impl_PartsOf.f
  repeat' first
      | (with_reducible exact ih0 _ _ _ _)
      | (with_reducible exact ih1 _ _ _ _ _ _ _ _)
      | (with_reducible exact impl_Graph_classes_at_every.mono _ _ _)
      | (with_reducible exact impl_IsGraph.mono _ _ _)
      | (with_reducible exact LeO.refl _)
      | (with_reducible exact LeO.none _)
      | (with_reducible refine LeO.ite ?_ ?_)
      | (with_reducible refine LeO.bind ?_ (fun _ => ?_))
      | exact ih0 _ _ _ _
      | exact ih1 _ _ _ _ _ _ _ _
      | exact impl_Graph_classes_at_every.mono _ _ _
      | exact impl_IsGraph.mono _ _ _
      | exact LeO.none _
      | refine LeO.ite ?_ ?_
      | refine LeO.bind ?_ (fun _ => ?_)
set_option maxHeartbeats 8000000 in
set_option maxRecDepth 100000 in
theorem impl_PartsOf.calls (k : Nat) (a0_0 : Int) (A0_1 : Option Addr) (c0_1 : Nat) (l0_1 : List (List Int)) (r1 : List (List Int)) (r2 : Int) (w : World) (hr0_1 : Kd.C (Kd.slice 2 (Kd.int .i64)) w A0_1 l0_1.length l0_1) (hc0_1 : l0_1.length ≤ c0_1) (h : impl_PartsOf.f k a0_0 l0_1 = some (r1, r2)) :
    Calls Try.prog 38 #[.agg #[.int .i64 a0_0, .slice A0_1 l0_1.length c0_1]] w fun e w' => ∃ v0_ : Value, e = .returned (.tuple #[v0_, .int .i64 r2]) ∧ Kd.S (Kd.slice 2 (Kd.int .i64)) 25 w' w.heap.size (fun _ => True) v0_ r1 ∧ Below w.heap.size w w' := by
  have hu29 := Try.underlying29
  have HR0_1 := Aside0.mk hr0_1
  have HC0_1 := Aside0.mk hc0_1
  clear hr0_1 hc0_1
  have HB := Aside0.mk (Below.refl w.heap.size w)
  have H : ((impl_IsGraph.f k a0_0 l0_1).bind fun t594 => (if t594 = true then ((impl_Graph_classes_at_every.f k a0_0 l0_1).bind fun t598 => (impl_PartsOf.l0 k (([] : List (List Int))) t598 a0_0 0)) else (some (([] : List (List Int)), 1)))) = some (r1, r2) := h
  clear h
  replace H := Option.bind_eq_some_iff.mp H
  obtain ⟨t594, A20, H⟩ := H
  replace H : (if t594 = true then ((impl_Graph_classes_at_every.f k a0_0 l0_1).bind fun t598 => (impl_PartsOf.l0 k (([] : List (List Int))) t598 a0_0 0)) else (some (([] : List (List Int)), 1))) = some (r1, r2) := H
  have A2 := Aside0.mk A20
  clear A20
  by_cases c3 : t594 = true
  · subst c3
    have H1 : ((impl_Graph_classes_at_every.f k a0_0 l0_1).bind fun t598 => (impl_PartsOf.l0 k (([] : List (List Int))) t598 a0_0 0)) = some (r1, r2) := by rw [if_pos rfl] at H; exact H
    clear H
    have H := H1
    clear H1
    obtain ⟨y595, hy595⟩ : ∃ y_ : List (List Int), y_ = (([] : List (List Int))) := ⟨_, rfl⟩
    replace H : ((impl_Graph_classes_at_every.f k a0_0 l0_1).bind fun t598 => (impl_PartsOf.l0 k y595 t598 a0_0 0)) = some (r1, r2) := by first | (rw [hy595]; with_reducible exact H) | (have H2_ := (Option.bind_some _ _).symm.trans H; rw [hy595]; with_reducible exact H2_) | (have H2_ := (Option.bind_some _ _).symm.trans H; with_reducible exact H2_) | with_reducible exact H | (rw [hy595]; exact H) | exact H
    have Ny595 := Aside0.mk hy595
    clear hy595
    replace H := Option.bind_eq_some_iff.mp H
    obtain ⟨t598, A40, H⟩ := H
    replace H : (impl_PartsOf.l0 k y595 t598 a0_0 0) = some (r1, r2) := H
    have A4 := Aside0.mk A40
    clear A40
    have H' := Aside0.mk H
    clear H
    go_enter Try.func38, Try.ntmps38
    go_wp2_with (first | ((with_reducible refine gate_dst (N := 1) rfl ?_); refine box_event ?hg (N := 1) ?hd (cs := #[.int .i64 a0_0, .slice A0_1 l0_1.length c0_1]) (t := 29) ?hr ?_; (case hd => rfl); (case hg => rfl); (case hr => first | (go_simp; done) | (go_simp; rfl)); intro gb593 hg w5 hbox hb; have n0_ := Aside0.mk (below_step (by repeat (first | (with_reducible first | exact HB.out | apply below_alloc | apply pw_below_drewN | apply below_drew1) | exact HB.out)) hb); have n1_ := Aside0.mk (hbox); have n2_ := Aside0.mk ((by rw [hg]; exact (below_size (by repeat (first | (with_reducible first | exact HB.out | apply below_alloc | apply pw_below_drewN | apply below_drew1) | exact HB.out))) : w.heap.size ≤ gb593)); have n3_ := Aside0.mk ((by rw [hg]; exact (below_size (by repeat (first | (with_reducible first | exact HB.out | apply below_alloc | apply pw_below_drewN | apply below_drew1) | exact HB.out))) : w.heap.size ≤ gb593)); clear HB; have HB := n0_; have BK593 := n1_; have GW593 := n2_; have GE593 := n3_; clear n0_ n1_ n2_ n3_; clear hb hbox hg; have hcz6_0 : w5.cell? ⟨gb593, 0, none⟩ = some (.int .i64 a0_0) := (blk_cell BK593.out 0).trans rfl; have hcz6_1 : w5.cell? ⟨gb593, 1, none⟩ = some (.slice A0_1 l0_1.length c0_1) := (blk_cell BK593.out 1).trans rfl; have hfz6_0 := blk_frozen BK593.out 0; have hfz6_1 := blk_frozen BK593.out 1) | ((with_reducible refine gate_callee (f := 58) rfl ?_); refine goesL_ (some 11) rfl rfl Try.func58 (by kernel_rfl) rfl #[.agg #[.int .i64 a0_0, .slice A0_1 l0_1.length c0_1]] rfl (by (try simp only [List.map_toArray, List.map_cons, List.map_nil]); first | done | rfl | (simp only [List.length_drop, List.length_take]; rfl)) ?_; (with_reducible refine (impl_IsGraph.calls k a0_0 _ _ l0_1 true _ ?side1 ?side2 A2.out).mono ?_); (case side1 => repeat (first | exact (Kd.C_below HR0_1.out HB.out) | (with_reducible refine Kd.C_alloc ?_ _) | (with_reducible refine Kd.C_drewN ?_ _) | (with_reducible refine Kd.C_drew ?_))); (case side2 => exact HC0_1.out); rintro e w7 ⟨rfl, hb⟩; refine ⟨_, rfl, ?_⟩; have n0_ := Aside0.mk (blk_below (g := gb593) (o := .cells #[.int .i64 a0_0, .slice A0_1 l0_1.length c0_1] 29 (0, 0)) (by (with_reducible repeat (first | refine blk_drewN ?_ _ | refine blk_drew ?_ | refine blk_alloc ?_ _)); exact BK593.out) hb); have n1_ := Aside0.mk (below_step (by repeat (first | (with_reducible first | exact HB.out | apply below_alloc | apply pw_below_drewN | apply below_drew1 | refine below_set ?_ GE593.out) | exact HB.out)) hb); clear BK593; clear HB; have BK593 := n0_; have HB := n1_; clear n0_ n1_; (try clear hb); (try clear hb2); (try clear hk); (try clear hi)) | ((with_reducible refine gate_dst (N := 13) rfl ?_); refine Kd.S_lit (Kd.slice 2 (Kd.int .i64)) _ 25 ?hg (N := 13) ?hd (xs := ([] : List (List Int))) (inner := []) (ok := fun _ => True) (okp := fun _ => True) ?hr ?hp (fun _ hk => hk) trivial (Below.refl _ _) (Nat.le_refl _) (by simp) ?_; (case hd => rfl); (case hg => rfl); (case hr => first | (go_simp; done) | (go_simp; rfl)); (case hp => exact (Reps.none _ _)); intro v596 w8 ho9 hb hg_ hnew_; clear hg_ hnew_; (first | rw [← Ny595.out] at ho9 | (simp only [Int.reduceToNat] at ho9; rw [← Ny595.out] at ho9)); have n0_ := Aside0.mk (Kd.S_lower ho9 (below_size (by repeat (first | (with_reducible first | exact HB.out | apply below_alloc | apply pw_below_drewN | apply below_drew1 | refine below_set ?_ GE593.out) | exact HB.out)))); have n1_ := Aside0.mk (blk_below (g := gb593) (o := .cells #[.int .i64 a0_0, .slice A0_1 l0_1.length c0_1] 29 (0, 0)) (by (with_reducible repeat (first | refine blk_drewN ?_ _ | refine blk_drew ?_ | refine blk_alloc ?_ _)); exact BK593.out) hb); have n2_ := Aside0.mk (below_step (by repeat (first | (with_reducible first | exact HB.out | apply below_alloc | apply pw_below_drewN | apply below_drew1 | refine below_set ?_ GE593.out) | exact HB.out)) hb); clear BK593; clear HB; have HO597 := n0_; have BK593 := n1_; have HB := n2_; clear n0_ n1_ n2_; clear hb ho9; have hcz10_0 : w8.cell? ⟨gb593, 0, none⟩ = some (.int .i64 a0_0) := (blk_cell BK593.out 0).trans rfl; have hcz10_1 : w8.cell? ⟨gb593, 1, none⟩ = some (.slice A0_1 l0_1.length c0_1) := (blk_cell BK593.out 1).trans rfl; have hfz10_0 := blk_frozen BK593.out 0; have hfz10_1 := blk_frozen BK593.out 1) | ((with_reducible refine gate_callee (f := 77) rfl ?_); refine goesL_ (some 15) rfl rfl Try.func77 (by kernel_rfl) rfl #[.agg #[.int .i64 a0_0, .slice A0_1 l0_1.length c0_1], .func (.func 78) #[] #[]] rfl (by (try simp only [List.map_toArray, List.map_cons, List.map_nil]); first | done | rfl | (simp only [List.length_drop, List.length_take]; rfl)) ?_; (with_reducible refine (impl_Graph_classes_at_every.calls k a0_0 _ _ l0_1  t598 _ ?side1 ?side2 A4.out).mono ?_); (case side1 => repeat (first | exact (Kd.C_below HR0_1.out HB.out) | (with_reducible refine Kd.C_alloc ?_ _) | (with_reducible refine Kd.C_drewN ?_ _) | (with_reducible refine Kd.C_drew ?_))); (case side2 => exact HC0_1.out); rintro e w11 ⟨v599, rfl, ho0, hb⟩; refine ⟨_, rfl, ?_⟩; have n0_ := Aside0.mk (Kd.S_elder' (by (with_reducible repeat (first | apply Kd.S_alloc | apply Kd.S_drewN | apply Kd.S_drew)); exact HO597.out) (Kd.R_base ho0) hb); have n1_ := Aside0.mk (Kd.R_lower ho0 (below_size (by repeat (first | (with_reducible first | exact HB.out | apply below_alloc | apply pw_below_drewN | apply below_drew1 | refine below_set ?_ GE593.out) | exact HB.out)))); have n2_ := Aside0.mk (blk_below (g := gb593) (o := .cells #[.int .i64 a0_0, .slice A0_1 l0_1.length c0_1] 29 (0, 0)) (by (with_reducible repeat (first | refine blk_drewN ?_ _ | refine blk_drew ?_ | refine blk_alloc ?_ _)); exact BK593.out) hb); have n3_ := Aside0.mk (below_step (by repeat (first | (with_reducible first | exact HB.out | apply below_alloc | apply pw_below_drewN | apply below_drew1 | refine below_set ?_ GE593.out) | exact HB.out)) hb); clear HO597; clear BK593; clear HB; have HO597 := n0_; have HO600 := n1_; have BK593 := n2_; have HB := n3_; clear n0_ n1_ n2_ n3_; (try clear hb); (try clear hb2); (try clear hk); (try clear hi); (try clear ho0); have hcz12_0 : w11.cell? ⟨gb593, 0, none⟩ = some (.int .i64 a0_0) := (blk_cell BK593.out 0).trans rfl; have hcz12_1 : w11.cell? ⟨gb593, 1, none⟩ = some (.slice A0_1 l0_1.length c0_1) := (blk_cell BK593.out 1).trans rfl; have hfz12_0 := blk_frozen BK593.out 0; have hfz12_1 := blk_frozen BK593.out 1))
    go_loopg [4, 18] k (fun kq v4 v18 w' => ∃ (x4_1 : List (List Int)) (x18_1 : Int), v18 = .int .i64 x18_1 ∧ Aside0 (impl_PartsOf.l0 kq x4_1 t598 a0_0 x18_1 = some (r1, r2)) ∧ Aside0 (kq ≤ k) ∧ Aside0 (Kd.S (Kd.slice 2 (Kd.int .i64)) 25 w' w.heap.size (fun k_ => some k_ ≠ (v599 : Value).ownBlock) v4 x4_1) ∧ Aside0 (Kd.R (Kd.int .i64) 2 w' w.heap.size (fun _ => True) v599 t598) ∧ Aside0 (w'.heap[gb593]? = some (.cells #[.int .i64 a0_0, (.slice A0_1 l0_1.length c0_1)] 29 (0, 0))) ∧ Aside0 (Below w.heap.size w w'))
    case atStart => exact ⟨(y595), (0), (by first | rfl | (simp; done) | (simp [*]; done)), H', ⟨Nat.le_refl _⟩, ⟨by (with_reducible repeat (first | apply Kd.S_alloc | apply Kd.S_drewN | apply Kd.S_drew)); exact Kd.S_mono HO597.out (fun _ hk => hk.2)⟩, ⟨by (with_reducible repeat (first | apply Kd.R_alloc | apply Kd.R_drewN | apply Kd.R_drew)); exact HO600.out⟩, ⟨by (with_reducible repeat (first | refine blk_drewN ?_ _ | refine blk_drew ?_ | refine blk_alloc ?_ _)); exact BK593.out⟩, ⟨by repeat (first | (with_reducible first | exact HB.out | apply below_alloc | apply pw_below_drewN | apply below_drew1 | refine below_set ?_ GE593.out) | exact HB.out)⟩⟩
    case round =>
      clear H'
      try clear p2
      try clear c3
      try clear c5
      try clear c7
      try clear hcz10_0
      try clear hcz10_1
      try clear hcz12_0
      try clear hcz12_1
      try clear hcz6_0
      try clear hcz6_1
      try clear hfz10_0
      try clear hfz10_1
      try clear hfz12_0
      try clear hfz12_1
      try clear hfz6_0
      try clear hfz6_1
      obtain ⟨x4_1, x18_1, rfl, HA, HK1, HO_4, HO_5, BK593, HB⟩ := hrel
      cases gk with
      | zero => exact absurd HA.out (by simp [impl_PartsOf.l0])
      | succ k1 =>
        have H := HA.out
        clear HA
        simp only [impl_PartsOf.l0] at H
        by_cases c13 : x18_1 < a0_0
        · rw [if_pos c13] at H
          have c13b0 : decide (x18_1 < a0_0) = true := decide_eq_true c13
          clear c13
          obtain ⟨y601, hy601⟩ : ∃ y_ : List Int, y_ = (([] : List Int)) := ⟨_, rfl⟩
          replace H : (impl_PartsOf.l1 k1 x4_1 t598 x18_1 y601 a0_0 x18_1 (t598.length : Int) 0) = some (r1, r2) := by first | (rw [hy601]; with_reducible exact H) | (have H2_ := (Option.bind_some _ _).symm.trans H; rw [hy601]; with_reducible exact H2_) | (have H2_ := (Option.bind_some _ _).symm.trans H; with_reducible exact H2_) | with_reducible exact H | (rw [hy601]; exact H) | exact H
          have Ny601 := Aside0.mk hy601
          clear hy601
          have H' := Aside0.mk H
          clear H
          go_wp2_with (first | ((with_reducible refine gate_dst (N := 21) rfl ?_); refine Kd.R_lit (Kd.int .i64) _ 2 ?hg (N := 21) ?hd (xs := ([] : List Int)) (inner := []) (ok := fun _ => True) (okp := fun _ => True) ?hr ?hp (fun _ hk => hk) trivial (Below.refl _ _) (Nat.le_refl _) (by simp) ?_; (case hd => rfl); (case hg => rfl); (case hr => first | (go_simp; done) | (go_simp; rfl)); (case hp => exact (Reps.none _ _)); intro v602 w14 ho15 hb hg_ hnew_; clear hg_ hnew_; (first | rw [← Ny601.out] at ho15 | (simp only [Int.reduceToNat] at ho15; rw [← Ny601.out] at ho15)); have n0_ := Aside0.mk (Kd.S_elder' (by (with_reducible repeat (first | apply Kd.S_alloc | apply Kd.S_drewN | apply Kd.S_drew)); exact HO_4.out) (Kd.R_base ho15) hb); have n1_ := Aside0.mk (Kd.R_elder' (by (with_reducible repeat (first | apply Kd.R_alloc | apply Kd.R_drewN | apply Kd.R_drew)); exact HO_5.out) (Kd.R_base ho15) hb); have n2_ := Aside0.mk (Kd.R_lower (Kd.R_new' ho15 (Kd.R_lt (by (with_reducible repeat (first | apply Kd.R_alloc | apply Kd.R_drewN | apply Kd.R_drew)); exact HO_5.out))) (below_size (by repeat (first | (with_reducible first | exact HB.out | apply below_alloc | apply pw_below_drewN | apply below_drew1 | refine below_set ?_ GE593.out) | exact HB.out)))); have n3_ := Aside0.mk (blk_below (g := gb593) (o := .cells #[.int .i64 a0_0, .slice A0_1 l0_1.length c0_1] 29 (0, 0)) (by (with_reducible repeat (first | refine blk_drewN ?_ _ | refine blk_drew ?_ | refine blk_alloc ?_ _)); exact BK593.out) hb); have n4_ := Aside0.mk (below_step (by repeat (first | (with_reducible first | exact HB.out | apply below_alloc | apply pw_below_drewN | apply below_drew1 | refine below_set ?_ GE593.out) | exact HB.out)) hb); clear HO_4; clear HO_5; clear BK593; clear HB; have HO_4 := n0_; have HO_5 := n1_; have HO603 := n2_; have BK593 := n3_; have HB := n4_; clear n0_ n1_ n2_ n3_ n4_; clear hb ho15; obtain ⟨Ao16, co16, eo16⟩ := Kd.R_slice HO_5.out; subst eo16))
          go_loopg [7, 24] k1 (fun kq v7 v24 w' => ∃ (x7_2 : List Int) (x24_2 : Int), v24 = .int .i64 x24_2 ∧ Aside0 (impl_PartsOf.l1 kq x4_1 t598 x18_1 x7_2 a0_0 x18_1 (t598.length : Int) x24_2 = some (r1, r2)) ∧ Aside0 (kq ≤ k1) ∧ Aside0 (Kd.S (Kd.slice 2 (Kd.int .i64)) 25 w' w.heap.size (fun k_ => some k_ ≠ ((.slice Ao16 t598.length co16) : Value).ownBlock ∧ some k_ ≠ (v7 : Value).ownBlock) u4 x4_1) ∧ Aside0 (Kd.R (Kd.int .i64) 2 w' w.heap.size (fun k_ => some k_ ≠ (v7 : Value).ownBlock) (.slice Ao16 t598.length co16) t598) ∧ Aside0 (Kd.R (Kd.int .i64) 2 w' w.heap.size (fun k_ => some k_ ≠ ((.slice Ao16 t598.length co16) : Value).ownBlock) v7 x7_2) ∧ Aside0 (w'.heap[gb593]? = some (.cells #[.int .i64 a0_0, (.slice A0_1 l0_1.length c0_1)] 29 (0, 0))) ∧ Aside0 (Below w.heap.size w w'))
          case atStart => exact ⟨(y601), (0), (by first | rfl | (simp; done) | (simp [*]; done)), H', ⟨Nat.le_refl _⟩, ⟨by (with_reducible repeat (first | apply Kd.S_alloc | apply Kd.S_drewN | apply Kd.S_drew)); exact HO_4.out⟩, ⟨by (with_reducible repeat (first | apply Kd.R_alloc | apply Kd.R_drewN | apply Kd.R_drew)); exact Kd.R_mono HO_5.out (fun _ hk => hk.2)⟩, ⟨by (with_reducible repeat (first | apply Kd.R_alloc | apply Kd.R_drewN | apply Kd.R_drew)); exact Kd.R_mono HO603.out (fun _ hk => hk.2)⟩, ⟨by (with_reducible repeat (first | refine blk_drewN ?_ _ | refine blk_drew ?_ | refine blk_alloc ?_ _)); exact BK593.out⟩, ⟨by repeat (first | (with_reducible first | exact HB.out | apply below_alloc | apply pw_below_drewN | apply below_drew1 | refine below_set ?_ GE593.out) | exact HB.out)⟩⟩
          case round =>
            clear H'
            try clear c1
            try clear p2
            try clear c3
            try clear c5
            try clear c7
            try clear c13
            try clear c13b0
            try clear hcz10_0
            try clear hcz10_1
            try clear hcz12_0
            try clear hcz12_1
            try clear hcz6_0
            try clear hcz6_1
            try clear hfz10_0
            try clear hfz10_1
            try clear hfz12_0
            try clear hfz12_1
            try clear hfz6_0
            try clear hfz6_1
            try clear p2
            obtain ⟨x7_2, x24_2, rfl, HA, HK2, HO_4, HO_5, HO_7, BK593, HB⟩ := hrel
            cases gk with
            | zero => exact absurd HA.out (by simp [impl_PartsOf.l1])
            | succ k2 =>
              have H := HA.out
              clear HA
              simp only [impl_PartsOf.l1] at H
              by_cases c17 : x24_2 < (t598.length : Int)
              · rw [if_pos c17] at H
                have c17b0 : decide (x24_2 < (t598.length : Int)) = true := decide_eq_true c17
                clear c17
                by_cases c18 : 0 ≤ x24_2
                · rw [if_pos c18] at H
                  have c18b0 : decide (0 ≤ x24_2) = true := decide_eq_true c18
                  clear c18
                  by_cases c19 : x24_2 < (t598.length : Int)
                  · rw [if_pos c19] at H
                    have c19b0 : decide (x24_2 < (t598.length : Int)) = true := decide_eq_true c19
                    clear c19
                    by_cases c20 : (rd t598 x24_2) = x18_1
                    · rw [if_pos c20] at H
                      have c20b0 : ((rd t598 x24_2) == x18_1) = true := beq_iff_eq.mpr c20
                      have c20b1 : ((rd t598 x24_2) != x18_1) = false := bne_eq_false_iff_eq.mpr c20
                      clear c20
                      by_cases c21 : x7_2.length < 17592186044416
                      · rw [if_pos c21] at H
                        have LMc21 := Aside0.mk c21
                        clear c21
                        obtain ⟨y605, hy605⟩ : ∃ y_ : List Int, y_ = (x7_2 ++ [x24_2]) := ⟨_, rfl⟩
                        replace H : (impl_PartsOf.l1 k2 x4_1 t598 x18_1 y605 a0_0 x18_1 (t598.length : Int) (wrap64 (x24_2 + 1))) = some (r1, r2) := by first | (rw [hy605]; with_reducible exact H) | (have H2_ := (Option.bind_some _ _).symm.trans H; rw [hy605]; with_reducible exact H2_) | (have H2_ := (Option.bind_some _ _).symm.trans H; with_reducible exact H2_) | with_reducible exact H | (rw [hy605]; exact H) | exact H
                        have Ny605 := Aside0.mk hy605
                        clear hy605
                        have H' := Aside0.mk H
                        clear H
                        have p604 : 0 ≤ (x24_2 : Int) := of_decide_eq_true (by first | (with_reducible assumption) | assumption)
                        have q604 : x24_2 < (t598.length : Int) := of_decide_eq_true (by first | (with_reducible assumption) | assumption)
                        obtain ⟨ad604, e604, hx604_0⟩ := Kd.at_int (Kd.R_reads' HO_5.out).2.2 x24_2 p604 q604
                        cases e604
                        replace p604 := eq_true p604
                        replace q604 := eq_true q604
                        go_wp2_with (first | ((with_reducible refine gate_builtin (b := .append) (xs := #[.tmp 32, .tmp 34]) rfl ?_); at_builtin; refine Kd.R_append (Kd.int .i64) (w0 := w) w.heap.size rfl (.tmp 32) (.tmp 34) 25 2 (.int .i64 0) 8 rfl Try.underlying25 info2 rfl (by decide) (by omega) u7 x7_2 x24_2 [.int .i64 x24_2] (fun k_ => some k_ ≠ (.slice (some ad604) t598.length co16 : Value).ownBlock) (fun _ => False) rfl rfl ?aP (fun _ hk => hk.elim) ?aF ?aO ?aB ?aS ?aL ?_; (case aP => exact rfl); (case aB => exact (by repeat (first | (with_reducible first | exact HB.out | apply below_alloc | apply pw_below_drewN | apply below_drew1 | refine below_set ?_ GE593.out) | exact HB.out))); (case aF => exact (fun k_ hk => Kd.fresh' (Kd.R_lt (by (with_reducible repeat (first | apply Kd.R_alloc | apply Kd.R_drewN | apply Kd.R_drew)); exact HO_5.out)) k_ hk)); (case aO => exact (by (with_reducible repeat (first | apply Kd.R_alloc | apply Kd.R_drewN | apply Kd.R_drew)); exact HO_7.out)); (case aS => exact (below_size (by repeat (first | (with_reducible first | exact HB.out | apply below_alloc | apply pw_below_drewN | apply below_drew1 | refine below_set ?_ GE593.out) | exact HB.out)))); (case aL => have := LMc21.out; omega); intro v606 w22 ho hb hg hat; rw [← Ny605.out] at ho; have n0_ := Aside0.mk (Kd.S_after (ok := (fun k_ => some k_ ≠ (.slice (some ad604) t598.length co16 : Value).ownBlock)) (by (with_reducible repeat (first | apply Kd.S_alloc | apply Kd.S_drewN | apply Kd.S_drew)); exact HO_4.out) hg hat); have n1_ := Aside0.mk (Kd.R_after (ok := (fun _ => True)) (by (with_reducible repeat (first | apply Kd.R_alloc | apply Kd.R_drewN | apply Kd.R_drew)); exact Kd.R_mono HO_5.out (fun _ hk => ⟨trivial, hk⟩)) hg hat); have n2_ := Aside0.mk (blk_grown (g := gb593) (o := .cells #[.int .i64 a0_0, .slice A0_1 l0_1.length c0_1] 29 (0, 0)) (by (with_reducible repeat (first | refine blk_drewN ?_ _ | refine blk_drew ?_ | refine blk_alloc ?_ _)); exact BK593.out) hg (Kd.R_ne HO_7.out BK593.out (by decide))); have n3_ := Aside0.mk (hb); have n4_ := Aside0.mk (ho); clear HO_4; clear HO_5; clear BK593; clear HB; clear HO_7; have HO_4 := n0_; have HO_5 := n1_; have BK593 := n2_; have HB := n3_; have HO607 := n4_; clear n0_ n1_ n2_ n3_ n4_; clear ho hb hg hat))
                        first | go_roundg k2 | (refine Handed.intro k2 ?measure ?_; rotate_left; go_step; (try simp only [add_plain]); (repeat apply Exists.intro); refine ⟨?rel, rfl⟩)
                        case measure => have := HK1.out; have := HK2.out; omega
                        case rel => exact ⟨(y605), (wrap64 (x24_2 + 1)), (by first | rfl | (simp; done) | (simp [*]; done)), H', ⟨by have := HK1.out; have := HK2.out; omega⟩, ⟨by (with_reducible repeat (first | apply Kd.S_alloc | apply Kd.S_drewN | apply Kd.S_drew)); exact HO_4.out⟩, ⟨by (with_reducible repeat (first | apply Kd.R_alloc | apply Kd.R_drewN | apply Kd.R_drew)); exact Kd.R_mono HO_5.out (fun _ hk => hk.2)⟩, ⟨by (with_reducible repeat (first | apply Kd.R_alloc | apply Kd.R_drewN | apply Kd.R_drew)); exact HO607.out⟩, ⟨by (with_reducible repeat (first | refine blk_drewN ?_ _ | refine blk_drew ?_ | refine blk_alloc ?_ _)); exact BK593.out⟩, ⟨by repeat (first | (with_reducible first | exact HB.out | apply below_alloc | apply pw_below_drewN | apply below_drew1 | refine below_set ?_ GE593.out) | exact HB.out)⟩⟩
                      · rw [if_neg c21] at H
                        exact absurd H (by simp)
                    · rw [if_neg c20] at H
                      have c20b0 : ((rd t598 x24_2) == x18_1) = false := beq_eq_false_iff_ne.mpr c20
                      have c20b1 : ((rd t598 x24_2) != x18_1) = true := bne_iff_ne.mpr c20
                      have H' := Aside0.mk H
                      clear H
                      have p604 : 0 ≤ (x24_2 : Int) := of_decide_eq_true (by first | (with_reducible assumption) | assumption)
                      have q604 : x24_2 < (t598.length : Int) := of_decide_eq_true (by first | (with_reducible assumption) | assumption)
                      obtain ⟨ad604, e604, hx604_0⟩ := Kd.at_int (Kd.R_reads' HO_5.out).2.2 x24_2 p604 q604
                      cases e604
                      replace p604 := eq_true p604
                      replace q604 := eq_true q604
                      go_wp2
                      first | go_roundg k2 | (refine Handed.intro k2 ?measure ?_; rotate_left; go_step; (try simp only [add_plain]); (repeat apply Exists.intro); refine ⟨?rel, rfl⟩)
                      case measure => have := HK1.out; have := HK2.out; omega
                      case rel => exact ⟨(x7_2), (wrap64 (x24_2 + 1)), (by first | rfl | (simp; done) | (simp [*]; done)), H', ⟨by have := HK1.out; have := HK2.out; omega⟩, ⟨by (with_reducible repeat (first | apply Kd.S_alloc | apply Kd.S_drewN | apply Kd.S_drew)); exact HO_4.out⟩, ⟨by (with_reducible repeat (first | apply Kd.R_alloc | apply Kd.R_drewN | apply Kd.R_drew)); exact HO_5.out⟩, ⟨by (with_reducible repeat (first | apply Kd.R_alloc | apply Kd.R_drewN | apply Kd.R_drew)); exact HO_7.out⟩, ⟨by (with_reducible repeat (first | refine blk_drewN ?_ _ | refine blk_drew ?_ | refine blk_alloc ?_ _)); exact BK593.out⟩, ⟨by repeat (first | (with_reducible first | exact HB.out | apply below_alloc | apply pw_below_drewN | apply below_drew1 | refine below_set ?_ GE593.out) | exact HB.out)⟩⟩
                  · rw [if_neg c19] at H
                    exact absurd H (by simp)
                · rw [if_neg c18] at H
                  exact absurd H (by simp)
              · rw [if_neg c17] at H
                have c17b0 : decide (x24_2 < (t598.length : Int)) = false := decide_eq_false c17
                clear c17
                by_cases c23 : (x7_2.length : Int) > 0
                · rw [if_pos c23] at H
                  have c23b0 : decide (0 < (x7_2.length : Int)) = true := decide_eq_true c23
                  have c23b1 : decide (0 < x7_2.length) = true := decide_eq_true (by omega)
                  clear c23
                  by_cases c24 : x4_1.length < 5864062014805
                  · rw [if_pos c24] at H
                    have LMc24 := Aside0.mk c24
                    clear c24
                    obtain ⟨y608, hy608⟩ : ∃ y_ : List (List Int), y_ = (x4_1 ++ [x7_2]) := ⟨_, rfl⟩
                    replace H : (impl_PartsOf.l0 k2 y608 t598 a0_0 (wrap64 (x18_1 + 1))) = some (r1, r2) := by first | (rw [hy608]; with_reducible exact H) | (have H2_ := (Option.bind_some _ _).symm.trans H; rw [hy608]; with_reducible exact H2_) | (have H2_ := (Option.bind_some _ _).symm.trans H; with_reducible exact H2_) | with_reducible exact H | (rw [hy608]; exact H) | exact H
                    have Ny608 := Aside0.mk hy608
                    clear hy608
                    have H' := Aside0.mk H
                    clear H
                    obtain ⟨Ao25, co25, eo25⟩ := Kd.R_slice HO_7.out
                    subst eo25
                    go_wp2_with (first | ((with_reducible refine gate_builtin (b := .append) (xs := #[.tmp 40, .tmp 42]) rfl ?_); at_builtin; refine Kd.S_append (Kd.slice 2 (Kd.int .i64)) (w0 := w) w.heap.size rfl (.tmp 40) (.tmp 42) 22 25 (.slice none 0 0) 24 rfl Try.underlying22 info25 rfl (by decide) (by omega) u4 x4_1 x7_2 [.slice Ao25 x7_2.length co25] (fun k_ => some k_ ≠ (.slice Ao16 t598.length co16 : Value).ownBlock) (fun k_ => some k_ = (.slice Ao25 x7_2.length co25 : Value).ownBlock) rfl rfl ?aP (fun k_ hk_ => ((Kd.R_mono (ok' := fun k_ => ((fun k_ => some k_ ≠ (.slice Ao16 t598.length co16 : Value).ownBlock)) k_ ∧ some k_ ≠ (u4 : Value).ownBlock) (Kd.R_apart' (HO_7.out) (Kd.S_typed HO_4.out) (by decide)) (fun k_ hk => ⟨hk.1, hk.2⟩))).1 k_ hk_.symm) ?aF ?aO ?aB ?aS ?aL ?_; (case aP => exact Kd.M_row (Kd.R_mono (Kd.R_tight rfl (Kd.R_mono (ok' := fun k_ => ((fun k_ => some k_ ≠ (.slice Ao16 t598.length co16 : Value).ownBlock)) k_ ∧ some k_ ≠ (u4 : Value).ownBlock) (Kd.R_apart' (HO_7.out) (Kd.S_typed HO_4.out) (by decide)) (fun k_ hk => ⟨hk.1, hk.2⟩))) (fun _ h_ => h_))); (case aB => exact (by repeat (first | (with_reducible first | exact HB.out | apply below_alloc | apply pw_below_drewN | apply below_drew1 | refine below_set ?_ GE593.out) | exact HB.out))); (case aF => exact (fun k_ hk => Kd.fresh' (Kd.R_lt (by (with_reducible repeat (first | apply Kd.R_alloc | apply Kd.R_drewN | apply Kd.R_drew)); exact HO_5.out)) k_ hk)); (case aO => exact (by (with_reducible repeat (first | apply Kd.S_alloc | apply Kd.S_drewN | apply Kd.S_drew)); exact Kd.S_mono HO_4.out (fun k_ hk => ⟨hk.1, fun e_ => hk.2 e_⟩))); (case aS => exact (below_size (by repeat (first | (with_reducible first | exact HB.out | apply below_alloc | apply pw_below_drewN | apply below_drew1 | refine below_set ?_ GE593.out) | exact HB.out)))); (case aL => have := LMc24.out; omega); intro v609 w26 ho hb hg hat; rw [← Ny608.out] at ho; have n0_ := Aside0.mk (Kd.R_over' (by (with_reducible repeat (first | apply Kd.R_alloc | apply Kd.R_drewN | apply Kd.R_drew)); exact HO_5.out) (Kd.S_typed (by (with_reducible repeat (first | apply Kd.S_alloc | apply Kd.S_drewN | apply Kd.S_drew)); exact HO_4.out)) (by decide) hg); have n1_ := Aside0.mk (blk_grown (g := gb593) (o := .cells #[.int .i64 a0_0, .slice A0_1 l0_1.length c0_1] 29 (0, 0)) (by (with_reducible repeat (first | refine blk_drewN ?_ _ | refine blk_drew ?_ | refine blk_alloc ?_ _)); exact BK593.out) hg (Kd.S_ne HO_4.out BK593.out (by decide))); have n2_ := Aside0.mk (hb); have n3_ := Aside0.mk (ho); clear HO_5; clear BK593; clear HB; clear HO_4; clear HO_7; have HO_5 := n0_; have BK593 := n1_; have HB := n2_; have HO610 := n3_; clear n0_ n1_ n2_ n3_; clear ho hb hg hat))
                    first | go_roundg k2 | (refine Handed.intro k2 ?measure ?_; rotate_left; go_step; (try simp only [add_plain]); (repeat apply Exists.intro); refine ⟨?rel, rfl⟩)
                    case measure => have := HK1.out; have := HK2.out; omega
                    case rel => exact ⟨(y608), (wrap64 (x18_1 + 1)), (by first | rfl | (simp; done) | (simp [*]; done)), H', ⟨by have := HK1.out; have := HK2.out; omega⟩, ⟨by (with_reducible repeat (first | apply Kd.S_alloc | apply Kd.S_drewN | apply Kd.S_drew)); exact HO610.out⟩, ⟨by (with_reducible repeat (first | apply Kd.R_alloc | apply Kd.R_drewN | apply Kd.R_drew)); exact Kd.R_mono HO_5.out (fun _ hk => trivial)⟩, ⟨by (with_reducible repeat (first | refine blk_drewN ?_ _ | refine blk_drew ?_ | refine blk_alloc ?_ _)); exact BK593.out⟩, ⟨by repeat (first | (with_reducible first | exact HB.out | apply below_alloc | apply pw_below_drewN | apply below_drew1 | refine below_set ?_ GE593.out) | exact HB.out)⟩⟩
                  · rw [if_neg c24] at H
                    exact absurd H (by simp)
                · rw [if_neg c23] at H
                  have c23b0 : decide (0 < (x7_2.length : Int)) = false := decide_eq_false c23
                  have c23b1 : decide (0 < x7_2.length) = false := decide_eq_false (by omega)
                  clear c23
                  have H' := Aside0.mk H
                  clear H
                  obtain ⟨Ao27, co27, eo27⟩ := Kd.R_slice HO_7.out
                  subst eo27
                  go_wp2
                  first | go_roundg k2 | (refine Handed.intro k2 ?measure ?_; rotate_left; go_step; (try simp only [add_plain]); (repeat apply Exists.intro); refine ⟨?rel, rfl⟩)
                  case measure => have := HK1.out; have := HK2.out; omega
                  case rel => exact ⟨(x4_1), (wrap64 (x18_1 + 1)), (by first | rfl | (simp; done) | (simp [*]; done)), H', ⟨by have := HK1.out; have := HK2.out; omega⟩, ⟨by (with_reducible repeat (first | apply Kd.S_alloc | apply Kd.S_drewN | apply Kd.S_drew)); exact Kd.S_mono HO_4.out (fun _ hk => hk.1)⟩, ⟨by (with_reducible repeat (first | apply Kd.R_alloc | apply Kd.R_drewN | apply Kd.R_drew)); exact Kd.R_mono HO_5.out (fun _ hk => trivial)⟩, ⟨by (with_reducible repeat (first | refine blk_drewN ?_ _ | refine blk_drew ?_ | refine blk_alloc ?_ _)); exact BK593.out⟩, ⟨by repeat (first | (with_reducible first | exact HB.out | apply below_alloc | apply pw_below_drewN | apply below_drew1 | refine below_set ?_ GE593.out) | exact HB.out)⟩⟩
        · rw [if_neg c13] at H
          have c13b0 : decide (x18_1 < a0_0) = false := decide_eq_false c13
          clear c13
          simp only [Option.some.injEq, Prod.mk.injEq] at H
          obtain ⟨rfl, rfl⟩ := H
          go_wp2
          go_ret2
          exact ⟨_, by first | rfl | (simp [errW_none, errW_some] <;> rfl) | (simp [*, errW_none, errW_some] <;> rfl), by (with_reducible repeat (first | apply Kd.S_alloc | apply Kd.S_drewN | apply Kd.S_drew)); exact Kd.S_mono HO_4.out (fun _ hk => trivial), by repeat (first | (with_reducible first | exact HB.out | apply below_alloc | apply pw_below_drewN | apply below_drew1 | refine below_set ?_ GE593.out) | exact HB.out)⟩
  · replace c3 := Bool.eq_false_iff.mpr c3
    subst c3
    have H1 : (some (([] : List (List Int)), 1)) = some (r1, r2) := by rw [if_neg (show ¬ (false = true) by decide)] at H; exact H
    clear H
    have H := H1
    clear H1
    simp only [Option.some.injEq, Prod.mk.injEq] at H
    obtain ⟨rfl, rfl⟩ := H
    go_enter Try.func38, Try.ntmps38
    go_wp2_with (first | ((with_reducible refine gate_dst (N := 1) rfl ?_); refine box_event ?hg (N := 1) ?hd (cs := #[.int .i64 a0_0, .slice A0_1 l0_1.length c0_1]) (t := 29) ?hr ?_; (case hd => rfl); (case hg => rfl); (case hr => first | (go_simp; done) | (go_simp; rfl)); intro gb593 hg w28 hbox hb; have n0_ := Aside0.mk (below_step (by repeat (first | (with_reducible first | exact HB.out | apply below_alloc | apply pw_below_drewN | apply below_drew1) | exact HB.out)) hb); have n1_ := Aside0.mk (hbox); have n2_ := Aside0.mk ((by rw [hg]; exact (below_size (by repeat (first | (with_reducible first | exact HB.out | apply below_alloc | apply pw_below_drewN | apply below_drew1) | exact HB.out))) : w.heap.size ≤ gb593)); have n3_ := Aside0.mk ((by rw [hg]; exact (below_size (by repeat (first | (with_reducible first | exact HB.out | apply below_alloc | apply pw_below_drewN | apply below_drew1) | exact HB.out))) : w.heap.size ≤ gb593)); clear HB; have HB := n0_; have BK593 := n1_; have GW593 := n2_; have GE593 := n3_; clear n0_ n1_ n2_ n3_; clear hb hbox hg; have hcz29_0 : w28.cell? ⟨gb593, 0, none⟩ = some (.int .i64 a0_0) := (blk_cell BK593.out 0).trans rfl; have hcz29_1 : w28.cell? ⟨gb593, 1, none⟩ = some (.slice A0_1 l0_1.length c0_1) := (blk_cell BK593.out 1).trans rfl; have hfz29_0 := blk_frozen BK593.out 0; have hfz29_1 := blk_frozen BK593.out 1) | ((with_reducible refine gate_callee (f := 58) rfl ?_); refine goesL_ (some 11) rfl rfl Try.func58 (by kernel_rfl) rfl #[.agg #[.int .i64 a0_0, .slice A0_1 l0_1.length c0_1]] rfl (by (try simp only [List.map_toArray, List.map_cons, List.map_nil]); first | done | rfl | (simp only [List.length_drop, List.length_take]; rfl)) ?_; (with_reducible refine (impl_IsGraph.calls k a0_0 _ _ l0_1 false _ ?side1 ?side2 A2.out).mono ?_); (case side1 => repeat (first | exact (Kd.C_below HR0_1.out HB.out) | (with_reducible refine Kd.C_alloc ?_ _) | (with_reducible refine Kd.C_drewN ?_ _) | (with_reducible refine Kd.C_drew ?_))); (case side2 => exact HC0_1.out); rintro e w30 ⟨rfl, hb⟩; refine ⟨_, rfl, ?_⟩; have n0_ := Aside0.mk (blk_below (g := gb593) (o := .cells #[.int .i64 a0_0, .slice A0_1 l0_1.length c0_1] 29 (0, 0)) (by (with_reducible repeat (first | refine blk_drewN ?_ _ | refine blk_drew ?_ | refine blk_alloc ?_ _)); exact BK593.out) hb); have n1_ := Aside0.mk (below_step (by repeat (first | (with_reducible first | exact HB.out | apply below_alloc | apply pw_below_drewN | apply below_drew1 | refine below_set ?_ GE593.out) | exact HB.out)) hb); clear BK593; clear HB; have BK593 := n0_; have HB := n1_; clear n0_ n1_; (try clear hb); (try clear hb2); (try clear hk); (try clear hi)))
    go_ret2
    exact ⟨_, by first | rfl | (simp [errW_none, errW_some] <;> rfl) | (simp [*, errW_none, errW_some] <;> rfl), by first | exact Kd.S_nil _ _ _ _ _ | exact Kd.N_nil _ _ _ _ _ | exact Kd.V_nil _ _ _ _ _ | exact Kd.Q_nil _ _ _ _ _ | exact Kd.R_nil _ _ _ _ _, by repeat (first | (with_reducible first | exact HB.out | apply below_alloc | apply pw_below_drewN | apply below_drew1 | refine below_set ?_ GE593.out) | exact HB.out)⟩

/-! ### laws_FnExactPartsOf: function 8 -/
def laws_FnExactPartsOf.f (k : Nat) (a0_0 : Int) (l0_1 : List (List Int)) : Option (Bool) := (laws_szGraph.f k a0_0 l0_1 1048576).bind fun t612 => (if t612 < 0 then (some true) else ((laws_toGraph.f k a0_0 l0_1).bind fun bt613 => ((spec_PartsOf.f k bt613.1 bt613.2).bind fun bt617 => ((laws_toGraph.f k a0_0 l0_1).bind fun bt621 => ((impl_PartsOf.f k bt621.1 bt621.2).bind fun bt626 => ((laws_eqInt64SS.f k bt626.1 bt617.1).bind fun t630 => (if t630 = true then (if bt626.2 = bt617.2 then ((laws_toGraph.f k a0_0 l0_1).bind fun bt631 => ((laws_eqGraph.f k bt621.1 bt621.2 bt631.1 bt631.2).bind fun t635 => (if t635 = true then ((laws_markGraph.f k bt621.1 bt621.2 1).bind fun bt636 => (if bt636.1 < 0 then (some false) else ((laws_eqInt64SS.f k bt626.1 bt617.1).bind fun t638 => (if t638 = true then ((laws_markInt64SS.f k bt626.1 1).bind fun bt639 => ((laws_heldInt64SS.f k bt639.2 1).bind fun t641 => (if t641 < 0 then (some false) else (if t641 = bt639.1 then ((laws_toGraph.f k a0_0 l0_1).bind fun bt642 => ((impl_PartsOf.f k bt642.1 bt642.2).bind fun bt646 => ((laws_eqInt64SS.f k bt646.1 bt617.1).bind fun t650 => (if t650 = true then (if bt646.2 = bt617.2 then ((laws_heldInt64SS.f k bt639.2 1).bind fun t651 => (if t651 < 0 then (some false) else (if t651 = bt639.1 then (some true) else (some false)))) else (some false)) else (some false))))) else (some false))))) else (some false))))) else (some false)))) else (some false)) else (some false))))))))
theorem laws_FnExactPartsOf.mono : ∀ a0 a1 k, LeO (laws_FnExactPartsOf.f k a0 a1) (laws_FnExactPartsOf.f (k + 1) a0 a1) := by
  intro a0 a1 k
  unfold laws_FnExactPartsOf.f
  repeat' first
      | (with_reducible exact impl_PartsOf.mono _ _ _)
      | (with_reducible exact laws_eqGraph.mono _ _ _ _ _)
      | (with_reducible exact laws_eqInt64SS.mono _ _ _)
      | (with_reducible exact laws_heldInt64SS.mono _ _ _)
      | (with_reducible exact laws_markGraph.mono _ _ _ _)
      | (with_reducible exact laws_markInt64SS.mono _ _ _)
      | (with_reducible exact laws_szGraph.mono _ _ _ _)
      | (with_reducible exact laws_toGraph.mono _ _ _)
      | (with_reducible exact spec_PartsOf.mono _ _ _)
      | (with_reducible exact LeO.refl _)
      | (with_reducible exact LeO.none _)
      | (with_reducible refine LeO.ite ?_ ?_)
      | (with_reducible refine LeO.bind ?_ (fun _ => ?_))
      | exact impl_PartsOf.mono _ _ _
      | exact laws_eqGraph.mono _ _ _ _ _
      | exact laws_eqInt64SS.mono _ _ _
      | exact laws_heldInt64SS.mono _ _ _
      | exact laws_markGraph.mono _ _ _ _
      | exact laws_markInt64SS.mono _ _ _
      | exact laws_szGraph.mono _ _ _ _
      | exact laws_toGraph.mono _ _ _
      | exact spec_PartsOf.mono _ _ _
      | exact LeO.none _
      | refine LeO.ite ?_ ?_
      | refine LeO.bind ?_ (fun _ => ?_)
set_option maxHeartbeats 8000000 in
set_option maxRecDepth 100000 in
theorem laws_FnExactPartsOf.calls (k : Nat) (a0_0 : Int) (A0_1 : Option Addr) (c0_1 : Nat) (l0_1 : List (List Int)) (w : World) (hr0_1 : Kd.C (Kd.slice 2 (Kd.int .i64)) w A0_1 l0_1.length l0_1) (hc0_1 : l0_1.length ≤ c0_1) (h : laws_FnExactPartsOf.f k a0_0 l0_1 = some true) :
    Calls Try.prog 8 #[.agg #[.int .i64 a0_0, .slice A0_1 l0_1.length c0_1]] w fun e w' => e = .returned (.bool true) ∧ Below w.heap.size w w' := by
  have hu24 := Try.underlying24
  have hu29 := Try.underlying29
  have HR0_1 := Aside0.mk hr0_1
  have HC0_1 := Aside0.mk hc0_1
  clear hr0_1 hc0_1
  have HB := Aside0.mk (Below.refl w.heap.size w)
  have H : ((laws_szGraph.f k a0_0 l0_1 1048576).bind fun t612 => (if t612 < 0 then (some true) else ((laws_toGraph.f k a0_0 l0_1).bind fun bt613 => ((spec_PartsOf.f k bt613.1 bt613.2).bind fun bt617 => ((laws_toGraph.f k a0_0 l0_1).bind fun bt621 => ((impl_PartsOf.f k bt621.1 bt621.2).bind fun bt626 => ((laws_eqInt64SS.f k bt626.1 bt617.1).bind fun t630 => (if t630 = true then (if bt626.2 = bt617.2 then ((laws_toGraph.f k a0_0 l0_1).bind fun bt631 => ((laws_eqGraph.f k bt621.1 bt621.2 bt631.1 bt631.2).bind fun t635 => (if t635 = true then ((laws_markGraph.f k bt621.1 bt621.2 1).bind fun bt636 => (if bt636.1 < 0 then (some false) else ((laws_eqInt64SS.f k bt626.1 bt617.1).bind fun t638 => (if t638 = true then ((laws_markInt64SS.f k bt626.1 1).bind fun bt639 => ((laws_heldInt64SS.f k bt639.2 1).bind fun t641 => (if t641 < 0 then (some false) else (if t641 = bt639.1 then ((laws_toGraph.f k a0_0 l0_1).bind fun bt642 => ((impl_PartsOf.f k bt642.1 bt642.2).bind fun bt646 => ((laws_eqInt64SS.f k bt646.1 bt617.1).bind fun t650 => (if t650 = true then (if bt646.2 = bt617.2 then ((laws_heldInt64SS.f k bt639.2 1).bind fun t651 => (if t651 < 0 then (some false) else (if t651 = bt639.1 then (some true) else (some false)))) else (some false)) else (some false))))) else (some false))))) else (some false))))) else (some false)))) else (some false)) else (some false))))))))) = some true := h
  clear h
  replace H := Option.bind_eq_some_iff.mp H
  obtain ⟨t612, A20, H⟩ := H
  replace H : (if t612 < 0 then (some true) else ((laws_toGraph.f k a0_0 l0_1).bind fun bt613 => ((spec_PartsOf.f k bt613.1 bt613.2).bind fun bt617 => ((laws_toGraph.f k a0_0 l0_1).bind fun bt621 => ((impl_PartsOf.f k bt621.1 bt621.2).bind fun bt626 => ((laws_eqInt64SS.f k bt626.1 bt617.1).bind fun t630 => (if t630 = true then (if bt626.2 = bt617.2 then ((laws_toGraph.f k a0_0 l0_1).bind fun bt631 => ((laws_eqGraph.f k bt621.1 bt621.2 bt631.1 bt631.2).bind fun t635 => (if t635 = true then ((laws_markGraph.f k bt621.1 bt621.2 1).bind fun bt636 => (if bt636.1 < 0 then (some false) else ((laws_eqInt64SS.f k bt626.1 bt617.1).bind fun t638 => (if t638 = true then ((laws_markInt64SS.f k bt626.1 1).bind fun bt639 => ((laws_heldInt64SS.f k bt639.2 1).bind fun t641 => (if t641 < 0 then (some false) else (if t641 = bt639.1 then ((laws_toGraph.f k a0_0 l0_1).bind fun bt642 => ((impl_PartsOf.f k bt642.1 bt642.2).bind fun bt646 => ((laws_eqInt64SS.f k bt646.1 bt617.1).bind fun t650 => (if t650 = true then (if bt646.2 = bt617.2 then ((laws_heldInt64SS.f k bt639.2 1).bind fun t651 => (if t651 < 0 then (some false) else (if t651 = bt639.1 then (some true) else (some false)))) else (some false)) else (some false))))) else (some false))))) else (some false))))) else (some false)))) else (some false)) else (some false)))))))) = some true := H
  have A2 := Aside0.mk A20
  clear A20
  by_cases c3 : t612 < 0
  · rw [if_pos c3] at H
    have c3b0 : decide (t612 < 0) = true := decide_eq_true c3
    clear c3
    try clear H
    go_enter Try.func8, Try.ntmps8
    go_wp2_with (first | ((with_reducible refine gate_dst (N := 1) rfl ?_); refine box_event ?hg (N := 1) ?hd (cs := #[.int .i64 a0_0, .slice A0_1 l0_1.length c0_1]) (t := 24) ?hr ?_; (case hd => rfl); (case hg => rfl); (case hr => first | (go_simp; done) | (go_simp; rfl)); intro gb611 hg w4 hbox hb; have n0_ := Aside0.mk (hb.size); have n1_ := Aside0.mk ((⟨Nat.le_of_eq hg.symm, blk_lt hbox⟩ : w.heap.size ≤ gb611 ∧ gb611 < w4.heap.size)); have n2_ := Aside0.mk (below_step (by repeat (first | (with_reducible first | exact HB.out | apply below_alloc | apply pw_below_drewN | apply below_drew1) | exact HB.out)) hb); have n3_ := Aside0.mk (hbox); have n4_ := Aside0.mk ((by rw [hg]; exact (below_size (by repeat (first | (with_reducible first | exact HB.out | apply below_alloc | apply pw_below_drewN | apply below_drew1) | exact HB.out))) : w.heap.size ≤ gb611)); have n5_ := Aside0.mk ((by rw [hg]; exact (below_size (by repeat (first | (with_reducible first | exact HB.out | apply below_alloc | apply pw_below_drewN | apply below_drew1) | exact HB.out))) : w.heap.size ≤ gb611)); clear HB; have Zw4 := n0_; have ZB611 := n1_; have HB := n2_; have BK611 := n3_; have GW611 := n4_; have GE611 := n5_; clear n0_ n1_ n2_ n3_ n4_ n5_; clear hb hbox hg; have hcz5_0 : w4.cell? ⟨gb611, 0, none⟩ = some (.int .i64 a0_0) := (blk_cell BK611.out 0).trans rfl; have hcz5_1 : w4.cell? ⟨gb611, 1, none⟩ = some (.slice A0_1 l0_1.length c0_1) := (blk_cell BK611.out 1).trans rfl; have hfz5_0 := blk_frozen BK611.out 0; have hfz5_1 := blk_frozen BK611.out 1) | ((with_reducible refine gate_callee (f := 15) rfl ?_); refine goesL_ (some 16) rfl rfl Try.func15 (by kernel_rfl) rfl #[.agg #[.int .i64 a0_0, .slice A0_1 l0_1.length c0_1], .int .i64 1048576] rfl (by (try simp only [List.map_toArray, List.map_cons, List.map_nil]); first | done | rfl) ?_; (with_reducible refine (laws_szGraph.calls k a0_0 _ _ l0_1 1048576 t612 _ ?side1 ?side2 A2.out).mono ?_); (case side1 => exact (Kd.C_below HR0_1.out HB.out)); (case side2 => exact HC0_1.out); rintro e w6 ⟨rfl, hb⟩; refine ⟨_, rfl, ?_⟩; have n0_ := Aside0.mk (blk_below (g := gb611) (o := .cells #[.int .i64 a0_0, .slice A0_1 l0_1.length c0_1] 24 (0, 0)) (by (with_reducible repeat (first | refine blk_drewN ?_ _ | refine blk_drew ?_ | refine blk_alloc ?_ _)); exact BK611.out) hb); have n1_ := Aside0.mk (below_step HB.out hb); have n2_ := Aside0.mk (hb.size); clear BK611; clear HB; have BK611 := n0_; have HB := n1_; have Zw6 := n2_; clear n0_ n1_ n2_; (try clear hb); (try clear hkp); (try clear hd_)))
    go_ret
    exact ⟨by first | rfl | (simp [errW_none, errW_some] <;> rfl) | (simp [*, errW_none, errW_some] <;> rfl), by repeat (first | (with_reducible first | exact HB.out | apply below_alloc | apply pw_below_drewN | apply below_drew1 | refine below_set ?_ GE611.out) | exact HB.out)⟩
  · rw [if_neg c3] at H
    have c3b0 : decide (t612 < 0) = false := decide_eq_false c3
    clear c3
    replace H := Option.bind_eq_some_iff.mp H
    obtain ⟨⟨t613, t614⟩, A70, H⟩ := H
    replace H : ((spec_PartsOf.f k t613 t614).bind fun bt617 => ((laws_toGraph.f k a0_0 l0_1).bind fun bt621 => ((impl_PartsOf.f k bt621.1 bt621.2).bind fun bt626 => ((laws_eqInt64SS.f k bt626.1 bt617.1).bind fun t630 => (if t630 = true then (if bt626.2 = bt617.2 then ((laws_toGraph.f k a0_0 l0_1).bind fun bt631 => ((laws_eqGraph.f k bt621.1 bt621.2 bt631.1 bt631.2).bind fun t635 => (if t635 = true then ((laws_markGraph.f k bt621.1 bt621.2 1).bind fun bt636 => (if bt636.1 < 0 then (some false) else ((laws_eqInt64SS.f k bt626.1 bt617.1).bind fun t638 => (if t638 = true then ((laws_markInt64SS.f k bt626.1 1).bind fun bt639 => ((laws_heldInt64SS.f k bt639.2 1).bind fun t641 => (if t641 < 0 then (some false) else (if t641 = bt639.1 then ((laws_toGraph.f k a0_0 l0_1).bind fun bt642 => ((impl_PartsOf.f k bt642.1 bt642.2).bind fun bt646 => ((laws_eqInt64SS.f k bt646.1 bt617.1).bind fun t650 => (if t650 = true then (if bt646.2 = bt617.2 then ((laws_heldInt64SS.f k bt639.2 1).bind fun t651 => (if t651 < 0 then (some false) else (if t651 = bt639.1 then (some true) else (some false)))) else (some false)) else (some false))))) else (some false))))) else (some false))))) else (some false)))) else (some false)) else (some false)))))) = some true := H
    have A7 := Aside0.mk A70
    clear A70
    replace H := Option.bind_eq_some_iff.mp H
    obtain ⟨⟨t617, t620⟩, A80, H⟩ := H
    replace H : ((laws_toGraph.f k a0_0 l0_1).bind fun bt621 => ((impl_PartsOf.f k bt621.1 bt621.2).bind fun bt626 => ((laws_eqInt64SS.f k bt626.1 t617).bind fun t630 => (if t630 = true then (if bt626.2 = t620 then ((laws_toGraph.f k a0_0 l0_1).bind fun bt631 => ((laws_eqGraph.f k bt621.1 bt621.2 bt631.1 bt631.2).bind fun t635 => (if t635 = true then ((laws_markGraph.f k bt621.1 bt621.2 1).bind fun bt636 => (if bt636.1 < 0 then (some false) else ((laws_eqInt64SS.f k bt626.1 t617).bind fun t638 => (if t638 = true then ((laws_markInt64SS.f k bt626.1 1).bind fun bt639 => ((laws_heldInt64SS.f k bt639.2 1).bind fun t641 => (if t641 < 0 then (some false) else (if t641 = bt639.1 then ((laws_toGraph.f k a0_0 l0_1).bind fun bt642 => ((impl_PartsOf.f k bt642.1 bt642.2).bind fun bt646 => ((laws_eqInt64SS.f k bt646.1 t617).bind fun t650 => (if t650 = true then (if bt646.2 = t620 then ((laws_heldInt64SS.f k bt639.2 1).bind fun t651 => (if t651 < 0 then (some false) else (if t651 = bt639.1 then (some true) else (some false)))) else (some false)) else (some false))))) else (some false))))) else (some false))))) else (some false)))) else (some false)) else (some false))))) = some true := H
    have A8 := Aside0.mk A80
    clear A80
    replace H := Option.bind_eq_some_iff.mp H
    obtain ⟨⟨t621, t622⟩, A90, H⟩ := H
    replace H : ((impl_PartsOf.f k t621 t622).bind fun bt626 => ((laws_eqInt64SS.f k bt626.1 t617).bind fun t630 => (if t630 = true then (if bt626.2 = t620 then ((laws_toGraph.f k a0_0 l0_1).bind fun bt631 => ((laws_eqGraph.f k t621 t622 bt631.1 bt631.2).bind fun t635 => (if t635 = true then ((laws_markGraph.f k t621 t622 1).bind fun bt636 => (if bt636.1 < 0 then (some false) else ((laws_eqInt64SS.f k bt626.1 t617).bind fun t638 => (if t638 = true then ((laws_markInt64SS.f k bt626.1 1).bind fun bt639 => ((laws_heldInt64SS.f k bt639.2 1).bind fun t641 => (if t641 < 0 then (some false) else (if t641 = bt639.1 then ((laws_toGraph.f k a0_0 l0_1).bind fun bt642 => ((impl_PartsOf.f k bt642.1 bt642.2).bind fun bt646 => ((laws_eqInt64SS.f k bt646.1 t617).bind fun t650 => (if t650 = true then (if bt646.2 = t620 then ((laws_heldInt64SS.f k bt639.2 1).bind fun t651 => (if t651 < 0 then (some false) else (if t651 = bt639.1 then (some true) else (some false)))) else (some false)) else (some false))))) else (some false))))) else (some false))))) else (some false)))) else (some false)) else (some false)))) = some true := H
    have A9 := Aside0.mk A90
    clear A90
    replace H := Option.bind_eq_some_iff.mp H
    obtain ⟨⟨t626, t629⟩, A100, H⟩ := H
    replace H : ((laws_eqInt64SS.f k t626 t617).bind fun t630 => (if t630 = true then (if t629 = t620 then ((laws_toGraph.f k a0_0 l0_1).bind fun bt631 => ((laws_eqGraph.f k t621 t622 bt631.1 bt631.2).bind fun t635 => (if t635 = true then ((laws_markGraph.f k t621 t622 1).bind fun bt636 => (if bt636.1 < 0 then (some false) else ((laws_eqInt64SS.f k t626 t617).bind fun t638 => (if t638 = true then ((laws_markInt64SS.f k t626 1).bind fun bt639 => ((laws_heldInt64SS.f k bt639.2 1).bind fun t641 => (if t641 < 0 then (some false) else (if t641 = bt639.1 then ((laws_toGraph.f k a0_0 l0_1).bind fun bt642 => ((impl_PartsOf.f k bt642.1 bt642.2).bind fun bt646 => ((laws_eqInt64SS.f k bt646.1 t617).bind fun t650 => (if t650 = true then (if bt646.2 = t620 then ((laws_heldInt64SS.f k bt639.2 1).bind fun t651 => (if t651 < 0 then (some false) else (if t651 = bt639.1 then (some true) else (some false)))) else (some false)) else (some false))))) else (some false))))) else (some false))))) else (some false)))) else (some false)) else (some false))) = some true := H
    have A10 := Aside0.mk A100
    clear A100
    replace H := Option.bind_eq_some_iff.mp H
    obtain ⟨t630, A110, H⟩ := H
    replace H : (if t630 = true then (if t629 = t620 then ((laws_toGraph.f k a0_0 l0_1).bind fun bt631 => ((laws_eqGraph.f k t621 t622 bt631.1 bt631.2).bind fun t635 => (if t635 = true then ((laws_markGraph.f k t621 t622 1).bind fun bt636 => (if bt636.1 < 0 then (some false) else ((laws_eqInt64SS.f k t626 t617).bind fun t638 => (if t638 = true then ((laws_markInt64SS.f k t626 1).bind fun bt639 => ((laws_heldInt64SS.f k bt639.2 1).bind fun t641 => (if t641 < 0 then (some false) else (if t641 = bt639.1 then ((laws_toGraph.f k a0_0 l0_1).bind fun bt642 => ((impl_PartsOf.f k bt642.1 bt642.2).bind fun bt646 => ((laws_eqInt64SS.f k bt646.1 t617).bind fun t650 => (if t650 = true then (if bt646.2 = t620 then ((laws_heldInt64SS.f k bt639.2 1).bind fun t651 => (if t651 < 0 then (some false) else (if t651 = bt639.1 then (some true) else (some false)))) else (some false)) else (some false))))) else (some false))))) else (some false))))) else (some false)))) else (some false)) else (some false)) = some true := H
    have A11 := Aside0.mk A110
    clear A110
    by_cases c12 : t630 = true
    · subst c12
      have H1 : (if t629 = t620 then ((laws_toGraph.f k a0_0 l0_1).bind fun bt631 => ((laws_eqGraph.f k t621 t622 bt631.1 bt631.2).bind fun t635 => (if t635 = true then ((laws_markGraph.f k t621 t622 1).bind fun bt636 => (if bt636.1 < 0 then (some false) else ((laws_eqInt64SS.f k t626 t617).bind fun t638 => (if t638 = true then ((laws_markInt64SS.f k t626 1).bind fun bt639 => ((laws_heldInt64SS.f k bt639.2 1).bind fun t641 => (if t641 < 0 then (some false) else (if t641 = bt639.1 then ((laws_toGraph.f k a0_0 l0_1).bind fun bt642 => ((impl_PartsOf.f k bt642.1 bt642.2).bind fun bt646 => ((laws_eqInt64SS.f k bt646.1 t617).bind fun t650 => (if t650 = true then (if bt646.2 = t620 then ((laws_heldInt64SS.f k bt639.2 1).bind fun t651 => (if t651 < 0 then (some false) else (if t651 = bt639.1 then (some true) else (some false)))) else (some false)) else (some false))))) else (some false))))) else (some false))))) else (some false)))) else (some false)) = some true := by rw [if_pos rfl] at H; exact H
      clear H
      have H := H1
      clear H1
      by_cases c13 : t629 = t620
      · rw [if_pos c13] at H
        have c13b0 : (t629 == t620) = true := beq_iff_eq.mpr c13
        have c13b1 : (t629 != t620) = false := bne_eq_false_iff_eq.mpr c13
        clear c13
        replace H := Option.bind_eq_some_iff.mp H
        obtain ⟨⟨t631, t632⟩, A140, H⟩ := H
        replace H : ((laws_eqGraph.f k t621 t622 t631 t632).bind fun t635 => (if t635 = true then ((laws_markGraph.f k t621 t622 1).bind fun bt636 => (if bt636.1 < 0 then (some false) else ((laws_eqInt64SS.f k t626 t617).bind fun t638 => (if t638 = true then ((laws_markInt64SS.f k t626 1).bind fun bt639 => ((laws_heldInt64SS.f k bt639.2 1).bind fun t641 => (if t641 < 0 then (some false) else (if t641 = bt639.1 then ((laws_toGraph.f k a0_0 l0_1).bind fun bt642 => ((impl_PartsOf.f k bt642.1 bt642.2).bind fun bt646 => ((laws_eqInt64SS.f k bt646.1 t617).bind fun t650 => (if t650 = true then (if bt646.2 = t620 then ((laws_heldInt64SS.f k bt639.2 1).bind fun t651 => (if t651 < 0 then (some false) else (if t651 = bt639.1 then (some true) else (some false)))) else (some false)) else (some false))))) else (some false))))) else (some false))))) else (some false))) = some true := H
        have A14 := Aside0.mk A140
        clear A140
        replace H := Option.bind_eq_some_iff.mp H
        obtain ⟨t635, A150, H⟩ := H
        replace H : (if t635 = true then ((laws_markGraph.f k t621 t622 1).bind fun bt636 => (if bt636.1 < 0 then (some false) else ((laws_eqInt64SS.f k t626 t617).bind fun t638 => (if t638 = true then ((laws_markInt64SS.f k t626 1).bind fun bt639 => ((laws_heldInt64SS.f k bt639.2 1).bind fun t641 => (if t641 < 0 then (some false) else (if t641 = bt639.1 then ((laws_toGraph.f k a0_0 l0_1).bind fun bt642 => ((impl_PartsOf.f k bt642.1 bt642.2).bind fun bt646 => ((laws_eqInt64SS.f k bt646.1 t617).bind fun t650 => (if t650 = true then (if bt646.2 = t620 then ((laws_heldInt64SS.f k bt639.2 1).bind fun t651 => (if t651 < 0 then (some false) else (if t651 = bt639.1 then (some true) else (some false)))) else (some false)) else (some false))))) else (some false))))) else (some false))))) else (some false)) = some true := H
        have A15 := Aside0.mk A150
        clear A150
        by_cases c16 : t635 = true
        · subst c16
          have H1 : ((laws_markGraph.f k t621 t622 1).bind fun bt636 => (if bt636.1 < 0 then (some false) else ((laws_eqInt64SS.f k t626 t617).bind fun t638 => (if t638 = true then ((laws_markInt64SS.f k t626 1).bind fun bt639 => ((laws_heldInt64SS.f k bt639.2 1).bind fun t641 => (if t641 < 0 then (some false) else (if t641 = bt639.1 then ((laws_toGraph.f k a0_0 l0_1).bind fun bt642 => ((impl_PartsOf.f k bt642.1 bt642.2).bind fun bt646 => ((laws_eqInt64SS.f k bt646.1 t617).bind fun t650 => (if t650 = true then (if bt646.2 = t620 then ((laws_heldInt64SS.f k bt639.2 1).bind fun t651 => (if t651 < 0 then (some false) else (if t651 = bt639.1 then (some true) else (some false)))) else (some false)) else (some false))))) else (some false))))) else (some false))))) = some true := by rw [if_pos rfl] at H; exact H
          clear H
          have H := H1
          clear H1
          replace H := Option.bind_eq_some_iff.mp H
          obtain ⟨⟨t636, t637⟩, A170, H⟩ := H
          replace H : (if t636 < 0 then (some false) else ((laws_eqInt64SS.f k t626 t617).bind fun t638 => (if t638 = true then ((laws_markInt64SS.f k t626 1).bind fun bt639 => ((laws_heldInt64SS.f k bt639.2 1).bind fun t641 => (if t641 < 0 then (some false) else (if t641 = bt639.1 then ((laws_toGraph.f k a0_0 l0_1).bind fun bt642 => ((impl_PartsOf.f k bt642.1 bt642.2).bind fun bt646 => ((laws_eqInt64SS.f k bt646.1 t617).bind fun t650 => (if t650 = true then (if bt646.2 = t620 then ((laws_heldInt64SS.f k bt639.2 1).bind fun t651 => (if t651 < 0 then (some false) else (if t651 = bt639.1 then (some true) else (some false)))) else (some false)) else (some false))))) else (some false))))) else (some false)))) = some true := H
          have A17 := Aside0.mk A170
          clear A170
          by_cases c18 : t636 < 0
          · rw [if_pos c18] at H
            have c18b0 : decide (t636 < 0) = true := decide_eq_true c18
            clear c18
            exact absurd H (by simp)
          · rw [if_neg c18] at H
            have c18b0 : decide (t636 < 0) = false := decide_eq_false c18
            clear c18
            replace H := Option.bind_eq_some_iff.mp H
            obtain ⟨t638, A190, H⟩ := H
            replace H : (if t638 = true then ((laws_markInt64SS.f k t626 1).bind fun bt639 => ((laws_heldInt64SS.f k bt639.2 1).bind fun t641 => (if t641 < 0 then (some false) else (if t641 = bt639.1 then ((laws_toGraph.f k a0_0 l0_1).bind fun bt642 => ((impl_PartsOf.f k bt642.1 bt642.2).bind fun bt646 => ((laws_eqInt64SS.f k bt646.1 t617).bind fun t650 => (if t650 = true then (if bt646.2 = t620 then ((laws_heldInt64SS.f k bt639.2 1).bind fun t651 => (if t651 < 0 then (some false) else (if t651 = bt639.1 then (some true) else (some false)))) else (some false)) else (some false))))) else (some false))))) else (some false)) = some true := H
            have A19 := Aside0.mk A190
            clear A190
            by_cases c20 : t638 = true
            · subst c20
              have H1 : ((laws_markInt64SS.f k t626 1).bind fun bt639 => ((laws_heldInt64SS.f k bt639.2 1).bind fun t641 => (if t641 < 0 then (some false) else (if t641 = bt639.1 then ((laws_toGraph.f k a0_0 l0_1).bind fun bt642 => ((impl_PartsOf.f k bt642.1 bt642.2).bind fun bt646 => ((laws_eqInt64SS.f k bt646.1 t617).bind fun t650 => (if t650 = true then (if bt646.2 = t620 then ((laws_heldInt64SS.f k bt639.2 1).bind fun t651 => (if t651 < 0 then (some false) else (if t651 = bt639.1 then (some true) else (some false)))) else (some false)) else (some false))))) else (some false))))) = some true := by rw [if_pos rfl] at H; exact H
              clear H
              have H := H1
              clear H1
              replace H := Option.bind_eq_some_iff.mp H
              obtain ⟨⟨t639, t640⟩, A210, H⟩ := H
              replace H : ((laws_heldInt64SS.f k t640 1).bind fun t641 => (if t641 < 0 then (some false) else (if t641 = t639 then ((laws_toGraph.f k a0_0 l0_1).bind fun bt642 => ((impl_PartsOf.f k bt642.1 bt642.2).bind fun bt646 => ((laws_eqInt64SS.f k bt646.1 t617).bind fun t650 => (if t650 = true then (if bt646.2 = t620 then ((laws_heldInt64SS.f k t640 1).bind fun t651 => (if t651 < 0 then (some false) else (if t651 = t639 then (some true) else (some false)))) else (some false)) else (some false))))) else (some false)))) = some true := H
              have A21 := Aside0.mk A210
              clear A210
              replace H := Option.bind_eq_some_iff.mp H
              obtain ⟨t641, A220, H⟩ := H
              replace H : (if t641 < 0 then (some false) else (if t641 = t639 then ((laws_toGraph.f k a0_0 l0_1).bind fun bt642 => ((impl_PartsOf.f k bt642.1 bt642.2).bind fun bt646 => ((laws_eqInt64SS.f k bt646.1 t617).bind fun t650 => (if t650 = true then (if bt646.2 = t620 then ((laws_heldInt64SS.f k t640 1).bind fun t651 => (if t651 < 0 then (some false) else (if t651 = t639 then (some true) else (some false)))) else (some false)) else (some false))))) else (some false))) = some true := H
              have A22 := Aside0.mk A220
              clear A220
              by_cases c23 : t641 < 0
              · rw [if_pos c23] at H
                have c23b0 : decide (t641 < 0) = true := decide_eq_true c23
                clear c23
                exact absurd H (by simp)
              · rw [if_neg c23] at H
                have c23b0 : decide (t641 < 0) = false := decide_eq_false c23
                clear c23
                by_cases c24 : t641 = t639
                · rw [if_pos c24] at H
                  have c24b0 : (t641 == t639) = true := beq_iff_eq.mpr c24
                  have c24b1 : (t641 != t639) = false := bne_eq_false_iff_eq.mpr c24
                  clear c24
                  replace H := Option.bind_eq_some_iff.mp H
                  obtain ⟨⟨t642, t643⟩, A250, H⟩ := H
                  replace H : ((impl_PartsOf.f k t642 t643).bind fun bt646 => ((laws_eqInt64SS.f k bt646.1 t617).bind fun t650 => (if t650 = true then (if bt646.2 = t620 then ((laws_heldInt64SS.f k t640 1).bind fun t651 => (if t651 < 0 then (some false) else (if t651 = t639 then (some true) else (some false)))) else (some false)) else (some false)))) = some true := H
                  have A25 := Aside0.mk A250
                  clear A250
                  replace H := Option.bind_eq_some_iff.mp H
                  obtain ⟨⟨t646, t649⟩, A260, H⟩ := H
                  replace H : ((laws_eqInt64SS.f k t646 t617).bind fun t650 => (if t650 = true then (if t649 = t620 then ((laws_heldInt64SS.f k t640 1).bind fun t651 => (if t651 < 0 then (some false) else (if t651 = t639 then (some true) else (some false)))) else (some false)) else (some false))) = some true := H
                  have A26 := Aside0.mk A260
                  clear A260
                  replace H := Option.bind_eq_some_iff.mp H
                  obtain ⟨t650, A270, H⟩ := H
                  replace H : (if t650 = true then (if t649 = t620 then ((laws_heldInt64SS.f k t640 1).bind fun t651 => (if t651 < 0 then (some false) else (if t651 = t639 then (some true) else (some false)))) else (some false)) else (some false)) = some true := H
                  have A27 := Aside0.mk A270
                  clear A270
                  by_cases c28 : t650 = true
                  · subst c28
                    have H1 : (if t649 = t620 then ((laws_heldInt64SS.f k t640 1).bind fun t651 => (if t651 < 0 then (some false) else (if t651 = t639 then (some true) else (some false)))) else (some false)) = some true := by rw [if_pos rfl] at H; exact H
                    clear H
                    have H := H1
                    clear H1
                    by_cases c29 : t649 = t620
                    · rw [if_pos c29] at H
                      have c29b0 : (t649 == t620) = true := beq_iff_eq.mpr c29
                      have c29b1 : (t649 != t620) = false := bne_eq_false_iff_eq.mpr c29
                      clear c29
                      replace H := Option.bind_eq_some_iff.mp H
                      obtain ⟨t651, A300, H⟩ := H
                      replace H : (if t651 < 0 then (some false) else (if t651 = t639 then (some true) else (some false))) = some true := H
                      have A30 := Aside0.mk A300
                      clear A300
                      by_cases c31 : t651 < 0
                      · rw [if_pos c31] at H
                        have c31b0 : decide (t651 < 0) = true := decide_eq_true c31
                        clear c31
                        exact absurd H (by simp)
                      · rw [if_neg c31] at H
                        have c31b0 : decide (t651 < 0) = false := decide_eq_false c31
                        clear c31
                        by_cases c32 : t651 = t639
                        · rw [if_pos c32] at H
                          have c32b0 : (t651 == t639) = true := beq_iff_eq.mpr c32
                          have c32b1 : (t651 != t639) = false := bne_eq_false_iff_eq.mpr c32
                          clear c32
                          try clear H
                          go_enter Try.func8, Try.ntmps8
                          try go_wp2_with (first | ((with_reducible refine gate_dst (N := 1) rfl ?_); refine box_event ?hg (N := 1) ?hd (cs := #[.int .i64 a0_0, .slice A0_1 l0_1.length c0_1]) (t := 24) ?hr ?_; (case hd => rfl); (case hg => rfl); (case hr => first | (go_simp; done) | (go_simp; rfl)); intro gb611 hg w33 hbox hb; have n0_ := Aside0.mk (hb.size); have n1_ := Aside0.mk ((⟨Nat.le_of_eq hg.symm, blk_lt hbox⟩ : w.heap.size ≤ gb611 ∧ gb611 < w33.heap.size)); have n2_ := Aside0.mk (below_step (by repeat (first | (with_reducible first | exact HB.out | apply below_alloc | apply pw_below_drewN | apply below_drew1) | exact HB.out)) hb); have n3_ := Aside0.mk (hbox); have n4_ := Aside0.mk ((by rw [hg]; exact (below_size (by repeat (first | (with_reducible first | exact HB.out | apply below_alloc | apply pw_below_drewN | apply below_drew1) | exact HB.out))) : w.heap.size ≤ gb611)); have n5_ := Aside0.mk ((by rw [hg]; exact (below_size (by repeat (first | (with_reducible first | exact HB.out | apply below_alloc | apply pw_below_drewN | apply below_drew1) | exact HB.out))) : w.heap.size ≤ gb611)); clear HB; have Zw33 := n0_; have ZB611 := n1_; have HB := n2_; have BK611 := n3_; have GW611 := n4_; have GE611 := n5_; clear n0_ n1_ n2_ n3_ n4_ n5_; clear hb hbox hg; have hcz34_0 : w33.cell? ⟨gb611, 0, none⟩ = some (.int .i64 a0_0) := (blk_cell BK611.out 0).trans rfl; have hcz34_1 : w33.cell? ⟨gb611, 1, none⟩ = some (.slice A0_1 l0_1.length c0_1) := (blk_cell BK611.out 1).trans rfl; have hfz34_0 := blk_frozen BK611.out 0; have hfz34_1 := blk_frozen BK611.out 1) | ((with_reducible refine gate_callee (f := 15) rfl ?_); refine goesL_ (some 16) rfl rfl Try.func15 (by kernel_rfl) rfl #[.agg #[.int .i64 a0_0, .slice A0_1 l0_1.length c0_1], .int .i64 1048576] rfl (by (try simp only [List.map_toArray, List.map_cons, List.map_nil]); first | done | rfl) ?_; (with_reducible refine (laws_szGraph.calls k a0_0 _ _ l0_1 1048576 t612 _ ?side1 ?side2 A2.out).mono ?_); (case side1 => exact (Kd.C_below HR0_1.out HB.out)); (case side2 => exact HC0_1.out); rintro e w35 ⟨rfl, hb⟩; refine ⟨_, rfl, ?_⟩; have n0_ := Aside0.mk (blk_below (g := gb611) (o := .cells #[.int .i64 a0_0, .slice A0_1 l0_1.length c0_1] 24 (0, 0)) (by (with_reducible repeat (first | refine blk_drewN ?_ _ | refine blk_drew ?_ | refine blk_alloc ?_ _)); exact BK611.out) hb); have n1_ := Aside0.mk (below_step HB.out hb); have n2_ := Aside0.mk (hb.size); clear BK611; clear HB; have BK611 := n0_; have HB := n1_; have Zw35 := n2_; clear n0_ n1_ n2_; (try clear hb); (try clear hkp); (try clear hd_); have hcz36_0 : w35.cell? ⟨gb611, 0, none⟩ = some (.int .i64 a0_0) := (blk_cell BK611.out 0).trans rfl; have hcz36_1 : w35.cell? ⟨gb611, 1, none⟩ = some (.slice A0_1 l0_1.length c0_1) := (blk_cell BK611.out 1).trans rfl; have hfz36_0 := blk_frozen BK611.out 0; have hfz36_1 := blk_frozen BK611.out 1) | ((with_reducible refine gate_callee (f := 17) rfl ?_); refine goesL_ (some 21) rfl rfl Try.func17 (by kernel_rfl) rfl #[.agg #[.int .i64 a0_0, .slice A0_1 l0_1.length c0_1]] rfl (by (try simp only [List.map_toArray, List.map_cons, List.map_nil]); first | done | rfl) ?_; (with_reducible refine (laws_toGraph.calls k a0_0 _ _ l0_1 t613 t614 _ ?side1 ?side2 A7.out).mono ?_); (case side1 => exact (Kd.C_below HR0_1.out HB.out)); (case side2 => exact HC0_1.out); rintro e w37 ⟨v615, rfl, ho0, hb⟩; refine ⟨_, rfl, ?_⟩; have n0_ := Aside0.mk (blk_below (g := gb611) (o := .cells #[.int .i64 a0_0, .slice A0_1 l0_1.length c0_1] 24 (0, 0)) (by (with_reducible repeat (first | refine blk_drewN ?_ _ | refine blk_drew ?_ | refine blk_alloc ?_ _)); exact BK611.out) hb); have n1_ := Aside0.mk (Kd.S_lower (Kd.S_mono (Kd.S_bound ho0) (fun k_ hk_ => (⟨hk_.2.1, hk_.2.2.1⟩ : w35.heap.size ≤ k_ ∧ k_ < w37.heap.size))) HB.out.size); have n2_ := Aside0.mk (below_step HB.out hb); have n3_ := Aside0.mk (hb.size); clear BK611; clear HB; have BK611 := n0_; have HO616 := n1_; have HB := n2_; have Zw37 := n3_; clear n0_ n1_ n2_ n3_; (try clear hb); (try clear hkp); (try clear hd_); (try clear ho0); obtain ⟨Ao38, co38, eo38⟩ := Kd.S_slice HO616.out; subst eo38) | ((with_reducible refine gate_callee (f := 37) rfl ?_); refine goesL_ (some 22) rfl rfl Try.func37 (by kernel_rfl) rfl #[.agg #[.int .i64 t613, .slice Ao38 t614.length co38]] rfl (by (try simp only [List.map_toArray, List.map_cons, List.map_nil]); first | done | rfl) ?_; (with_reducible refine (spec_PartsOf.calls k t613 _ _ t614 t617 t620 _ ?side1 ?side2 A8.out).mono ?_); (case side1 => exact (Kd.S_reads' HO616.out).2.2); (case side2 => (have e_ := Kd.S_reads' HO616.out; have e1_ := e_.1; have e2_ := e_.2.1; omega)); rintro e w39 ⟨v618, rfl, ho0, hb⟩; refine ⟨_, rfl, ?_⟩; have n0_ := Aside0.mk (blk_below (g := gb611) (o := .cells #[.int .i64 a0_0, .slice A0_1 l0_1.length c0_1] 24 (0, 0)) (by (with_reducible repeat (first | refine blk_drewN ?_ _ | refine blk_drew ?_ | refine blk_alloc ?_ _)); exact BK611.out) hb); have n1_ := Aside0.mk (Kd.S_below HO616.out hb); have n2_ := Aside0.mk (Kd.S_lower (Kd.S_mono (Kd.S_bound ho0) (fun k_ hk_ => (⟨hk_.2.1, hk_.2.2.1⟩ : w37.heap.size ≤ k_ ∧ k_ < w39.heap.size))) HB.out.size); have n3_ := Aside0.mk (below_step HB.out hb); have n4_ := Aside0.mk (hb.size); clear BK611; clear HO616; clear HB; have BK611 := n0_; have HO616 := n1_; have HO619 := n2_; have HB := n3_; have Zw39 := n4_; clear n0_ n1_ n2_ n3_ n4_; (try clear hb); (try clear hkp); (try clear hd_); (try clear ho0); obtain ⟨Ao40, co40, eo40⟩ := Kd.S_slice HO619.out; subst eo40; have hcz41_0 : w39.cell? ⟨gb611, 0, none⟩ = some (.int .i64 a0_0) := (blk_cell BK611.out 0).trans rfl; have hcz41_1 : w39.cell? ⟨gb611, 1, none⟩ = some (.slice A0_1 l0_1.length c0_1) := (blk_cell BK611.out 1).trans rfl; have hfz41_0 := blk_frozen BK611.out 0; have hfz41_1 := blk_frozen BK611.out 1) | ((with_reducible refine gate_callee (f := 17) rfl ?_); refine goesL_ (some 26) rfl rfl Try.func17 (by kernel_rfl) rfl #[.agg #[.int .i64 a0_0, .slice A0_1 l0_1.length c0_1]] rfl (by (try simp only [List.map_toArray, List.map_cons, List.map_nil]); first | done | rfl) ?_; (with_reducible refine (laws_toGraph.calls k a0_0 _ _ l0_1 t621 t622 _ ?side1 ?side2 A9.out).mono ?_); (case side1 => exact (Kd.C_below HR0_1.out HB.out)); (case side2 => exact HC0_1.out); rintro e w42 ⟨v623, rfl, ho0, hb⟩; refine ⟨_, rfl, ?_⟩; have n0_ := Aside0.mk (blk_below (g := gb611) (o := .cells #[.int .i64 a0_0, .slice A0_1 l0_1.length c0_1] 24 (0, 0)) (by (with_reducible repeat (first | refine blk_drewN ?_ _ | refine blk_drew ?_ | refine blk_alloc ?_ _)); exact BK611.out) hb); have n1_ := Aside0.mk (Kd.S_below HO616.out hb); have n2_ := Aside0.mk (Kd.S_below HO619.out hb); have n3_ := Aside0.mk (Kd.S_lower (Kd.S_mono (Kd.S_bound ho0) (fun k_ hk_ => (⟨hk_.2.1, hk_.2.2.1⟩ : w39.heap.size ≤ k_ ∧ k_ < w42.heap.size))) HB.out.size); have n4_ := Aside0.mk (below_step HB.out hb); have n5_ := Aside0.mk (hb.size); clear BK611; clear HO616; clear HO619; clear HB; have BK611 := n0_; have HO616 := n1_; have HO619 := n2_; have HO624 := n3_; have HB := n4_; have Zw42 := n5_; clear n0_ n1_ n2_ n3_ n4_ n5_; (try clear hb); (try clear hkp); (try clear hd_); (try clear ho0); obtain ⟨Ao43, co43, eo43⟩ := Kd.S_slice HO624.out; subst eo43) | ((with_reducible refine gate_dst (N := 6) rfl ?_); refine box_event ?hg (N := 6) ?hd (cs := #[.int .i64 0, .slice none 0 0]) (t := 29) ?hr ?_; (case hd => rfl); (case hg => rfl); (case hr => first | (go_simp; done) | (go_simp; rfl)); intro gb625 hg w44 hbox hb; have n0_ := Aside0.mk (Kd.S_below HO616.out hb); have n1_ := Aside0.mk (Kd.S_below HO619.out hb); have n2_ := Aside0.mk (Kd.S_below HO624.out hb); have n3_ := Aside0.mk (blk_below (g := gb611) (o := .cells #[.int .i64 a0_0, .slice A0_1 l0_1.length c0_1] 24 (0, 0)) (by (with_reducible repeat (first | refine blk_drewN ?_ _ | refine blk_drew ?_ | refine blk_alloc ?_ _)); exact BK611.out) hb); have n4_ := Aside0.mk (hb.size); have n5_ := Aside0.mk ((⟨Nat.le_of_eq hg.symm, blk_lt hbox⟩ : w42.heap.size ≤ gb625 ∧ gb625 < w44.heap.size)); have n6_ := Aside0.mk (below_step (by repeat (first | (with_reducible first | exact HB.out | apply below_alloc | apply pw_below_drewN | apply below_drew1 | refine below_set ?_ GE611.out) | exact HB.out)) hb); have n7_ := Aside0.mk (hbox); have n8_ := Aside0.mk ((by rw [hg]; exact (below_size (by repeat (first | (with_reducible first | exact HB.out | apply below_alloc | apply pw_below_drewN | apply below_drew1 | refine below_set ?_ GE611.out) | exact HB.out))) : w.heap.size ≤ gb625)); have n9_ := Aside0.mk ((by rw [hg]; exact (below_size (by repeat (first | (with_reducible first | exact HB.out | apply below_alloc | apply pw_below_drewN | apply below_drew1 | refine below_set ?_ GE611.out) | exact HB.out))) : w.heap.size ≤ gb625)); have n10_ := Aside0.mk ((by rw [hg]; exact Nat.ne_of_lt (blk_lt (g := gb611) (o := .cells #[.int .i64 a0_0, .slice A0_1 l0_1.length c0_1] 24 (0, 0)) (by (with_reducible repeat (first | refine blk_drewN ?_ _ | refine blk_drew ?_ | refine blk_alloc ?_ _)); exact BK611.out)) : gb611 ≠ gb625)); have n11_ := Aside0.mk ((by rw [hg]; exact Nat.ne_of_gt (blk_lt (g := gb611) (o := .cells #[.int .i64 a0_0, .slice A0_1 l0_1.length c0_1] 24 (0, 0)) (by (with_reducible repeat (first | refine blk_drewN ?_ _ | refine blk_drew ?_ | refine blk_alloc ?_ _)); exact BK611.out)) : gb625 ≠ gb611)); clear HO616; clear HO619; clear HO624; clear BK611; clear HB; have HO616 := n0_; have HO619 := n1_; have HO624 := n2_; have BK611 := n3_; have Zw44 := n4_; have ZB625 := n5_; have HB := n6_; have BK625 := n7_; have GW625 := n8_; have GE625 := n9_; have NB611_625 := n10_; have NB625_611 := n11_; clear n0_ n1_ n2_ n3_ n4_ n5_ n6_ n7_ n8_ n9_ n10_ n11_; clear hb hbox hg; have hnb45 := NB625_611.out; have hnc45 := NB611_625.out; have hcz46_0 : w44.cell? ⟨gb625, 0, none⟩ = some (.int .i64 0) := (blk_cell BK625.out 0).trans rfl; have hcz46_1 : w44.cell? ⟨gb625, 1, none⟩ = some (.slice none 0 0) := (blk_cell BK625.out 1).trans rfl; have hfz46_0 := blk_frozen BK625.out 0; have hfz46_1 := blk_frozen BK625.out 1) | ((with_reducible refine gate_callee (f := 38) rfl ?_); have n0_ := Aside0.mk (show ((w44.setCell ⟨gb625, 0, none⟩ (.int .i64 t621)).setCell ⟨gb625, 1, none⟩ (.slice Ao43 t622.length co43)).heap[gb611]? = some (.cells #[.int .i64 a0_0, .slice A0_1 l0_1.length c0_1] 24 (0, 0)) from (by (with_reducible repeat (first | refine blk_drewN ?_ _ | refine blk_drew ?_ | refine blk_alloc ?_ _)); refine blk_far ?_ NB611_625.out _; (with_reducible repeat (first | refine blk_drewN ?_ _ | refine blk_drew ?_ | refine blk_alloc ?_ _)); refine blk_far ?_ NB611_625.out _; (with_reducible repeat (first | refine blk_drewN ?_ _ | refine blk_drew ?_ | refine blk_alloc ?_ _)); exact BK611.out)); have n1_ := Aside0.mk (show Kd.S (Kd.slice 2 (Kd.int .i64)) 25 ((w44.setCell ⟨gb625, 0, none⟩ (.int .i64 t621)).setCell ⟨gb625, 1, none⟩ (.slice Ao43 t622.length co43)) w.heap.size (fun k_ => w35.heap.size ≤ k_ ∧ k_ < w37.heap.size) (.slice Ao38 t614.length co38) t614 from (Kd.S_far (Kd.S_far HO616.out (fun k_ ho_ => (show k_ ≠ gb625 from by have h1_ := ho_.1; have h2_ := ho_.2; have h3_ := ZB625.out.1; have h4_ := ZB625.out.2; have z0_ := Zw33.out; have z1_ := Zw35.out; have z2_ := Zw37.out; have z3_ := Zw39.out; have z4_ := Zw42.out; have z5_ := Zw44.out; omega)) _) (fun k_ ho_ => (show k_ ≠ gb625 from by have h1_ := ho_.1; have h2_ := ho_.2; have h3_ := ZB625.out.1; have h4_ := ZB625.out.2; have z0_ := Zw33.out; have z1_ := Zw35.out; have z2_ := Zw37.out; have z3_ := Zw39.out; have z4_ := Zw42.out; have z5_ := Zw44.out; omega)) _)); have n2_ := Aside0.mk (show Kd.S (Kd.slice 2 (Kd.int .i64)) 25 ((w44.setCell ⟨gb625, 0, none⟩ (.int .i64 t621)).setCell ⟨gb625, 1, none⟩ (.slice Ao43 t622.length co43)) w.heap.size (fun k_ => w37.heap.size ≤ k_ ∧ k_ < w39.heap.size) (.slice Ao40 t617.length co40) t617 from (Kd.S_far (Kd.S_far HO619.out (fun k_ ho_ => (show k_ ≠ gb625 from by have h1_ := ho_.1; have h2_ := ho_.2; have h3_ := ZB625.out.1; have h4_ := ZB625.out.2; have z0_ := Zw33.out; have z1_ := Zw35.out; have z2_ := Zw37.out; have z3_ := Zw39.out; have z4_ := Zw42.out; have z5_ := Zw44.out; omega)) _) (fun k_ ho_ => (show k_ ≠ gb625 from by have h1_ := ho_.1; have h2_ := ho_.2; have h3_ := ZB625.out.1; have h4_ := ZB625.out.2; have z0_ := Zw33.out; have z1_ := Zw35.out; have z2_ := Zw37.out; have z3_ := Zw39.out; have z4_ := Zw42.out; have z5_ := Zw44.out; omega)) _)); have n3_ := Aside0.mk (show Kd.S (Kd.slice 2 (Kd.int .i64)) 25 ((w44.setCell ⟨gb625, 0, none⟩ (.int .i64 t621)).setCell ⟨gb625, 1, none⟩ (.slice Ao43 t622.length co43)) w.heap.size (fun k_ => w39.heap.size ≤ k_ ∧ k_ < w42.heap.size) (.slice Ao43 t622.length co43) t622 from (Kd.S_far (Kd.S_far HO624.out (fun k_ ho_ => (show k_ ≠ gb625 from by have h1_ := ho_.1; have h2_ := ho_.2; have h3_ := ZB625.out.1; have h4_ := ZB625.out.2; have z0_ := Zw33.out; have z1_ := Zw35.out; have z2_ := Zw37.out; have z3_ := Zw39.out; have z4_ := Zw42.out; have z5_ := Zw44.out; omega)) _) (fun k_ ho_ => (show k_ ≠ gb625 from by have h1_ := ho_.1; have h2_ := ho_.2; have h3_ := ZB625.out.1; have h4_ := ZB625.out.2; have z0_ := Zw33.out; have z1_ := Zw35.out; have z2_ := Zw37.out; have z3_ := Zw39.out; have z4_ := Zw42.out; have z5_ := Zw44.out; omega)) _)); have n4_ := Aside0.mk (show ((w44.setCell ⟨gb625, 0, none⟩ (.int .i64 t621)).setCell ⟨gb625, 1, none⟩ (.slice Ao43 t622.length co43)).heap[gb625]? = some (.cells #[.int .i64 t621, .slice Ao43 t622.length co43] 29 (0, 0)) from (by (with_reducible repeat (first | refine blk_drewN ?_ _ | refine blk_drew ?_ | refine blk_alloc ?_ _)); refine blk_put (cs := #[.int .i64 t621, .slice none 0 0]) ?_ 1 _ rfl; (with_reducible repeat (first | refine blk_drewN ?_ _ | refine blk_drew ?_ | refine blk_alloc ?_ _)); refine blk_put (cs := #[.int .i64 0, .slice none 0 0]) ?_ 0 _ rfl; (with_reducible repeat (first | refine blk_drewN ?_ _ | refine blk_drew ?_ | refine blk_alloc ?_ _)); exact BK625.out)); have n5_ := Aside0.mk (show Below w.heap.size w ((w44.setCell ⟨gb625, 0, none⟩ (.int .i64 t621)).setCell ⟨gb625, 1, none⟩ (.slice Ao43 t622.length co43)) from (below_set (below_set HB.out GE625.out) GE625.out)); have n6_ := Aside0.mk (show w44.heap.size ≤ ((w44.setCell ⟨gb625, 0, none⟩ (.int .i64 t621)).setCell ⟨gb625, 1, none⟩ (.slice Ao43 t622.length co43)).heap.size from (Kept.setCell (Kept.setCell (Kept.refl w44 (fun _ => True)) (.inl trivial) _) (.inl trivial) _).1); clear BK611; clear HO616; clear HO619; clear HO624; clear BK625; clear HB; generalize hW_ : ((w44.setCell ⟨gb625, 0, none⟩ (.int .i64 t621)).setCell ⟨gb625, 1, none⟩ (.slice Ao43 t622.length co43)) = w47 at n0_ n1_ n2_ n3_ n4_ n5_ n6_ ⊢; clear hW_; have BK611 := n0_; have HO616 := n1_; have HO619 := n2_; have HO624 := n3_; have BK625 := n4_; have HB := n5_; have Zw47 := n6_; clear n0_ n1_ n2_ n3_ n4_ n5_ n6_; refine goesL_ (some 29) rfl rfl Try.func38 (by kernel_rfl) rfl #[.agg #[.int .i64 t621, .slice Ao43 t622.length co43]] rfl (by (try simp only [List.map_toArray, List.map_cons, List.map_nil]); first | done | rfl) ?_; (with_reducible refine (impl_PartsOf.calls k t621 _ _ t622 t626 t629 _ ?side1 ?side2 A10.out).mono ?_); (case side1 => exact (Kd.S_reads' HO624.out).2.2); (case side2 => (have e_ := Kd.S_reads' HO624.out; have e1_ := e_.1; have e2_ := e_.2.1; omega)); rintro e w48 ⟨v627, rfl, ho0, hb⟩; refine ⟨_, rfl, ?_⟩; have n0_ := Aside0.mk (blk_below (g := gb611) (o := .cells #[.int .i64 a0_0, .slice A0_1 l0_1.length c0_1] 24 (0, 0)) (by (with_reducible repeat (first | refine blk_drewN ?_ _ | refine blk_drew ?_ | refine blk_alloc ?_ _)); exact BK611.out) hb); have n1_ := Aside0.mk (Kd.S_below HO616.out hb); have n2_ := Aside0.mk (Kd.S_below HO619.out hb); have n3_ := Aside0.mk (Kd.S_below HO624.out hb); have n4_ := Aside0.mk (blk_below (g := gb625) (o := .cells #[.int .i64 t621, .slice Ao43 t622.length co43] 29 (0, 0)) (by (with_reducible repeat (first | refine blk_drewN ?_ _ | refine blk_drew ?_ | refine blk_alloc ?_ _)); exact BK625.out) hb); have n5_ := Aside0.mk (Kd.S_lower (Kd.S_mono (Kd.S_bound ho0) (fun k_ hk_ => (⟨hk_.2.1, hk_.2.2.1⟩ : w47.heap.size ≤ k_ ∧ k_ < w48.heap.size))) HB.out.size); have n6_ := Aside0.mk (below_step HB.out hb); have n7_ := Aside0.mk (hb.size); clear BK611; clear HO616; clear HO619; clear HO624; clear BK625; clear HB; have BK611 := n0_; have HO616 := n1_; have HO619 := n2_; have HO624 := n3_; have BK625 := n4_; have HO628 := n5_; have HB := n6_; have Zw48 := n7_; clear n0_ n1_ n2_ n3_ n4_ n5_ n6_ n7_; (try clear hb); (try clear hkp); (try clear hd_); (try clear ho0); obtain ⟨Ao49, co49, eo49⟩ := Kd.S_slice HO628.out; subst eo49) | ((with_reducible refine gate_callee (f := 24) rfl ?_); refine goesL_ (some 34) rfl rfl Try.func24 (by kernel_rfl) rfl #[.slice Ao49 t626.length co49, .slice Ao40 t617.length co40] rfl (by (try simp only [List.map_toArray, List.map_cons, List.map_nil]); first | done | rfl) ?_; (with_reducible refine (laws_eqInt64SS.calls k _ _ t626 _ _ t617 true _ ?side1 ?side2 ?side3 ?side4 A11.out).mono ?_); (case side1 => exact (Kd.S_reads' HO628.out).2.2); (case side2 => (have e_ := Kd.S_reads' HO628.out; have e1_ := e_.1; have e2_ := e_.2.1; omega)); (case side3 => exact (Kd.S_reads' HO619.out).2.2); (case side4 => (have e_ := Kd.S_reads' HO619.out; have e1_ := e_.1; have e2_ := e_.2.1; omega)); rintro e w50 ⟨rfl, hd_⟩; refine ⟨_, rfl, ?_⟩; have hb := hd_.below; have n0_ := Aside0.mk (blk_below (g := gb611) (o := .cells #[.int .i64 a0_0, .slice A0_1 l0_1.length c0_1] 24 (0, 0)) (by (with_reducible repeat (first | refine blk_drewN ?_ _ | refine blk_drew ?_ | refine blk_alloc ?_ _)); exact BK611.out) hb); have n1_ := Aside0.mk (Kd.S_below HO616.out hb); have n2_ := Aside0.mk (Kd.S_below HO619.out hb); have n3_ := Aside0.mk (Kd.S_below HO624.out hb); have n4_ := Aside0.mk (blk_below (g := gb625) (o := .cells #[.int .i64 t621, .slice Ao43 t622.length co43] 29 (0, 0)) (by (with_reducible repeat (first | refine blk_drewN ?_ _ | refine blk_drew ?_ | refine blk_alloc ?_ _)); exact BK625.out) hb); have n5_ := Aside0.mk (Kd.S_below HO628.out hb); have n6_ := Aside0.mk (below_step HB.out hb); have n7_ := Aside0.mk (hb.size); clear BK611; clear HO616; clear HO619; clear HO624; clear BK625; clear HO628; clear HB; have BK611 := n0_; have HO616 := n1_; have HO619 := n2_; have HO624 := n3_; have BK625 := n4_; have HO628 := n5_; have HB := n6_; have Zw50 := n7_; clear n0_ n1_ n2_ n3_ n4_ n5_ n6_ n7_; (try clear hb); (try clear hkp); (try clear hd_)))
                          have n0_ := Aside0.mk ((show w50.heap.size ≤ w50.drew.heap.size from Nat.le_refl _))
                          have n1_ := Aside0.mk (Kd.S_drew HO616.out)
                          have n2_ := Aside0.mk (Kd.S_drew HO619.out)
                          have n3_ := Aside0.mk (Kd.S_drew HO624.out)
                          have n4_ := Aside0.mk (Kd.S_drew HO628.out)
                          have n5_ := Aside0.mk (blk_drew BK611.out)
                          have n6_ := Aside0.mk (blk_drew BK625.out)
                          have n7_ := Aside0.mk (below_drew1 HB.out)
                          clear HO616
                          clear HO619
                          clear HO624
                          clear HO628
                          clear BK611
                          clear BK625
                          clear HB
                          have Zw51 := n0_
                          have HO616 := n1_
                          have HO619 := n2_
                          have HO624 := n3_
                          have HO628 := n4_
                          have BK611 := n5_
                          have BK625 := n6_
                          have HB := n7_
                          clear n0_ n1_ n2_ n3_ n4_ n5_ n6_ n7_
                          refine start_ (n := 5) (S := fun w' => w'.cell? ⟨gb625, 0, none⟩ = some (.int .i64 t621) ∧ w'.cell? ⟨gb625, 1, none⟩ = some (.slice Ao43 t622.length co43) ∧ w'.cell? ⟨gb611, 0, none⟩ = some (.int .i64 a0_0) ∧ w'.cell? ⟨gb611, 1, none⟩ = some (.slice A0_1 l0_1.length c0_1)) (ds := []) #[false, false, false, false, false] (by kernel_rfl) rfl rfl ⟨(blk_cell BK625.out 0).trans rfl, (blk_cell BK625.out 1).trans rfl, (blk_cell BK611.out 0).trans rfl, (blk_cell BK611.out 1).trans rfl⟩ (fun hHeld => ?_)
                          generalize w50.drew = w51 at HO616 HO619 HO624 HO628 BK611 BK625 HB Zw51 hHeld ⊢
                          refine take_ (i := 0) (N := some 41) (v := ?_) (a' := ?_) #[true, false, false, false, false] rfl rfl (by kernel_rfl) (fun _ _ _ h => h) (Or.inl ⟨by rfl, ?_⟩) hHeld ?_ ?_
                          rotate_left
                          · rintro w' ⟨s0, s1, s2, s3⟩
                            go_simp
                            with_reducible rfl
                          rotate_left
                          · simp only [Act.put, List.setIfInBounds_toArray, List.set_cons_zero, List.set_cons_succ, i64_w, i32_w]
                            rfl
                          refine take_ (i := 1) (N := some 42) (v := ?_) (a' := ?_) #[true, true, false, false, false] rfl rfl (by kernel_rfl) (fun _ _ _ h => h) (Or.inl ⟨by rfl, ?_⟩) hHeld ?_ ?_
                          rotate_left
                          · rintro w' ⟨s0, s1, s2, s3⟩
                            go_simp
                            with_reducible rfl
                          rotate_left
                          · simp only [Act.put, List.setIfInBounds_toArray, List.set_cons_zero, List.set_cons_succ, i64_w, i32_w]
                            rfl
                          refine one_ (i := 2) (N := some 43) #[true, true, true, false, false] rfl rfl (by kernel_rfl) (by decide) (fun K hK => ?_)
                          refine goes_ Try.func17 (by kernel_rfl) rfl #[.agg #[.int .i64 a0_0, .slice A0_1 l0_1.length c0_1]] (by rfl) rfl rfl (by (try simp only [List.map_toArray, List.map_cons, List.map_nil]); first | done | rfl | (simp only [List.length_drop, List.length_take]; rfl)) ?_
                          with_reducible refine (laws_toGraph.calls k a0_0 _ _ l0_1 t631 t632 _ ?side1 ?side2 A14.out).mono ?_
                          (case side1 => exact (Kd.C_below HR0_1.out HB.out))
                          (case side2 => exact HC0_1.out)
                          rintro e w52 ⟨v633, rfl, ho0, hb⟩
                          refine ⟨_, rfl, ?_⟩
                          have n0_ := Aside0.mk (blk_below (g := gb611) (o := .cells #[.int .i64 a0_0, .slice A0_1 l0_1.length c0_1] 24 (0, 0)) (by (with_reducible repeat (first | refine blk_drewN ?_ _ | refine blk_drew ?_ | refine blk_alloc ?_ _)); exact BK611.out) hb)
                          have n1_ := Aside0.mk (Kd.S_below HO616.out hb)
                          have n2_ := Aside0.mk (Kd.S_below HO619.out hb)
                          have n3_ := Aside0.mk (Kd.S_below HO624.out hb)
                          have n4_ := Aside0.mk (blk_below (g := gb625) (o := .cells #[.int .i64 t621, .slice Ao43 t622.length co43] 29 (0, 0)) (by (with_reducible repeat (first | refine blk_drewN ?_ _ | refine blk_drew ?_ | refine blk_alloc ?_ _)); exact BK625.out) hb)
                          have n5_ := Aside0.mk (Kd.S_below HO628.out hb)
                          have n6_ := Aside0.mk (Kd.S_lower (Kd.S_mono (Kd.S_bound ho0) (fun k_ hk_ => (⟨hk_.2.1, hk_.2.2.1⟩ : w51.heap.size ≤ k_ ∧ k_ < w52.heap.size))) HB.out.size)
                          have n7_ := Aside0.mk (below_step HB.out hb)
                          have n8_ := Aside0.mk (hb.size)
                          clear BK611
                          clear HO616
                          clear HO619
                          clear HO624
                          clear BK625
                          clear HO628
                          clear HB
                          have BK611 := n0_
                          have HO616 := n1_
                          have HO619 := n2_
                          have HO624 := n3_
                          have BK625 := n4_
                          have HO628 := n5_
                          have HO634 := n6_
                          have HB := n7_
                          have Zw52 := n8_
                          clear n0_ n1_ n2_ n3_ n4_ n5_ n6_ n7_ n8_
                          (try clear hb)
                          (try clear hkp)
                          (try clear hd_)
                          (try clear ho0)
                          obtain ⟨Ao53, co53, eo53⟩ := Kd.S_slice HO634.out
                          subst eo53
                          refine hK.out _ _ ⟨(blk_cell BK625.out 0).trans rfl, (blk_cell BK625.out 1).trans rfl, (blk_cell BK611.out 0).trans rfl, (blk_cell BK611.out 1).trans rfl⟩ (fun hHeld => ?_)
                          clear hK K
                          refine norm_ (a' := ?_) ?_ ?_
                          rotate_left
                          · show Act.put _ (some 43) _ = _
                            simp only [Act.put, List.setIfInBounds_toArray, List.set_cons_zero, List.set_cons_succ, i64_w, i32_w]
                            rfl
                          refine one_ (i := 3) (N := some 44) #[true, true, true, true, false] rfl rfl (by kernel_rfl) (by decide) (fun K hK => ?_)
                          refine goes_ Try.func20 (by kernel_rfl) rfl #[.agg #[.int .i64 t621, .slice Ao43 t622.length co43], .agg #[.int .i64 t631, .slice Ao53 t632.length co53]] (by rfl) rfl rfl (by (try simp only [List.map_toArray, List.map_cons, List.map_nil]); first | done | rfl | (simp only [List.length_drop, List.length_take]; rfl)) ?_
                          with_reducible refine (laws_eqGraph.calls k t621 _ _ t622 t631 _ _ t632 true _ ?side1 ?side2 ?side3 ?side4 A15.out).mono ?_
                          (case side1 => exact (Kd.S_reads' HO624.out).2.2)
                          (case side2 => (have e_ := Kd.S_reads' HO624.out; have e1_ := e_.1; have e2_ := e_.2.1; omega))
                          (case side3 => exact (Kd.S_reads' HO634.out).2.2)
                          (case side4 => (have e_ := Kd.S_reads' HO634.out; have e1_ := e_.1; have e2_ := e_.2.1; omega))
                          rintro e w54 ⟨rfl, hb⟩
                          refine ⟨_, rfl, ?_⟩
                          have n0_ := Aside0.mk (blk_below (g := gb611) (o := .cells #[.int .i64 a0_0, .slice A0_1 l0_1.length c0_1] 24 (0, 0)) (by (with_reducible repeat (first | refine blk_drewN ?_ _ | refine blk_drew ?_ | refine blk_alloc ?_ _)); exact BK611.out) hb)
                          have n1_ := Aside0.mk (Kd.S_below HO616.out hb)
                          have n2_ := Aside0.mk (Kd.S_below HO619.out hb)
                          have n3_ := Aside0.mk (Kd.S_below HO624.out hb)
                          have n4_ := Aside0.mk (blk_below (g := gb625) (o := .cells #[.int .i64 t621, .slice Ao43 t622.length co43] 29 (0, 0)) (by (with_reducible repeat (first | refine blk_drewN ?_ _ | refine blk_drew ?_ | refine blk_alloc ?_ _)); exact BK625.out) hb)
                          have n5_ := Aside0.mk (Kd.S_below HO628.out hb)
                          have n6_ := Aside0.mk (Kd.S_below HO634.out hb)
                          have n7_ := Aside0.mk (below_step HB.out hb)
                          have n8_ := Aside0.mk (hb.size)
                          clear BK611
                          clear HO616
                          clear HO619
                          clear HO624
                          clear BK625
                          clear HO628
                          clear HO634
                          clear HB
                          have BK611 := n0_
                          have HO616 := n1_
                          have HO619 := n2_
                          have HO624 := n3_
                          have BK625 := n4_
                          have HO628 := n5_
                          have HO634 := n6_
                          have HB := n7_
                          have Zw54 := n8_
                          clear n0_ n1_ n2_ n3_ n4_ n5_ n6_ n7_ n8_
                          (try clear hb)
                          (try clear hkp)
                          (try clear hd_)
                          refine hK.out _ _ ⟨(blk_cell BK625.out 0).trans rfl, (blk_cell BK625.out 1).trans rfl, (blk_cell BK611.out 0).trans rfl, (blk_cell BK611.out 1).trans rfl⟩ (fun hHeld => ?_)
                          clear hK K
                          refine norm_ (a' := ?_) ?_ ?_
                          rotate_left
                          · show Act.put _ (some 44) _ = _
                            simp only [Act.put, List.setIfInBounds_toArray, List.set_cons_zero, List.set_cons_succ, i64_w, i32_w]
                            rfl
                          refine pure_ (i := 4) (N := some 45) (v := ?_) (a' := ?_) #[true, true, true, true, true] rfl rfl (by kernel_rfl) (fun _ _ _ h => h) (Or.inl ⟨by rfl, ?_⟩) ?_ ?_
                          rotate_left
                          · intro w'
                            go_simp
                            with_reducible rfl
                          rotate_left
                          · simp only [Act.put, List.setIfInBounds_toArray, List.set_cons_zero, List.set_cons_succ, i64_w, i32_w]
                            rfl
                          refine done_ (by kernel_rfl) ?_
                          have hcz55_0 : w54.cell? ⟨gb625, 0, none⟩ = some (.int .i64 t621) := (blk_cell BK625.out 0).trans rfl
                          have hcz55_1 : w54.cell? ⟨gb625, 1, none⟩ = some (.slice Ao43 t622.length co43) := (blk_cell BK625.out 1).trans rfl
                          have hfz55_0 := blk_frozen BK625.out 0
                          have hfz55_1 := blk_frozen BK625.out 1
                          try go_wp2_with (first | ((with_reducible refine gate_callee (f := 25) rfl ?_); refine goesL_ (some 48) rfl rfl Try.func25 (by kernel_rfl) rfl #[.agg #[.int .i64 t621, .slice Ao43 t622.length co43], .int .i64 1] rfl (by (try simp only [List.map_toArray, List.map_cons, List.map_nil]); first | done | rfl) ?_; (with_reducible refine (laws_markGraph.calls k t621 (fun k_ => w39.heap.size ≤ k_ ∧ k_ < w42.heap.size) (.slice Ao43 t622.length co43) t622 1 t636 t637 w _ ?side1 ?side2 A17.out).mono ?_); (case side1 => exact HB.out); (case side2 => exact HO624.out); rintro e w56 ⟨rfl, hy0, hb, hkp⟩; refine ⟨_, rfl, ?_⟩; have n0_ := Aside0.mk (blk_kept (by (with_reducible repeat (first | refine blk_drewN ?_ _ | refine blk_drew ?_ | refine blk_alloc ?_ _)); exact BK611.out) hkp (fun hs_ => by have h1_ := ZB611.out.1; have h2_ := ZB611.out.2; have z0_ := Zw33.out; have z1_ := Zw35.out; have z2_ := Zw37.out; have z3_ := Zw39.out; have z4_ := Zw42.out; have z5_ := Zw44.out; have z6_ := Zw47.out; have z7_ := Zw48.out; have z8_ := Zw50.out; have z9_ := Zw51.out; have z10_ := Zw52.out; have z11_ := Zw54.out; have h3_ := hs_.1; have h4_ := hs_.2; omega)); have n1_ := Aside0.mk (Kd.S_step HO616.out (fun k_ ho_ hl_ => hkp.2 k_ hl_ (fun hs_ => by have h1_ := ho_.1; have h2_ := ho_.2; have z0_ := Zw33.out; have z1_ := Zw35.out; have z2_ := Zw37.out; have z3_ := Zw39.out; have z4_ := Zw42.out; have z5_ := Zw44.out; have z6_ := Zw47.out; have z7_ := Zw48.out; have z8_ := Zw50.out; have z9_ := Zw51.out; have z10_ := Zw52.out; have z11_ := Zw54.out; have h3_ := hs_.1; have h4_ := hs_.2; omega))); have n2_ := Aside0.mk (Kd.S_step HO619.out (fun k_ ho_ hl_ => hkp.2 k_ hl_ (fun hs_ => by have h1_ := ho_.1; have h2_ := ho_.2; have z0_ := Zw33.out; have z1_ := Zw35.out; have z2_ := Zw37.out; have z3_ := Zw39.out; have z4_ := Zw42.out; have z5_ := Zw44.out; have z6_ := Zw47.out; have z7_ := Zw48.out; have z8_ := Zw50.out; have z9_ := Zw51.out; have z10_ := Zw52.out; have z11_ := Zw54.out; have h3_ := hs_.1; have h4_ := hs_.2; omega))); have n3_ := Aside0.mk (hy0); have n4_ := Aside0.mk (blk_kept (by (with_reducible repeat (first | refine blk_drewN ?_ _ | refine blk_drew ?_ | refine blk_alloc ?_ _)); exact BK625.out) hkp (fun hs_ => by have h1_ := ZB625.out.1; have h2_ := ZB625.out.2; have z0_ := Zw33.out; have z1_ := Zw35.out; have z2_ := Zw37.out; have z3_ := Zw39.out; have z4_ := Zw42.out; have z5_ := Zw44.out; have z6_ := Zw47.out; have z7_ := Zw48.out; have z8_ := Zw50.out; have z9_ := Zw51.out; have z10_ := Zw52.out; have z11_ := Zw54.out; have h3_ := hs_.1; have h4_ := hs_.2; omega)); have n5_ := Aside0.mk (Kd.S_step HO628.out (fun k_ ho_ hl_ => hkp.2 k_ hl_ (fun hs_ => by have h1_ := ho_.1; have h2_ := ho_.2; have z0_ := Zw33.out; have z1_ := Zw35.out; have z2_ := Zw37.out; have z3_ := Zw39.out; have z4_ := Zw42.out; have z5_ := Zw44.out; have z6_ := Zw47.out; have z7_ := Zw48.out; have z8_ := Zw50.out; have z9_ := Zw51.out; have z10_ := Zw52.out; have z11_ := Zw54.out; have h3_ := hs_.1; have h4_ := hs_.2; omega))); have n6_ := Aside0.mk (Kd.S_step HO634.out (fun k_ ho_ hl_ => hkp.2 k_ hl_ (fun hs_ => by have h1_ := ho_.1; have h2_ := ho_.2; have z0_ := Zw33.out; have z1_ := Zw35.out; have z2_ := Zw37.out; have z3_ := Zw39.out; have z4_ := Zw42.out; have z5_ := Zw44.out; have z6_ := Zw47.out; have z7_ := Zw48.out; have z8_ := Zw50.out; have z9_ := Zw51.out; have z10_ := Zw52.out; have z11_ := Zw54.out; have h3_ := hs_.1; have h4_ := hs_.2; omega))); have n7_ := Aside0.mk (hb); have n8_ := Aside0.mk (hkp.1); clear BK611; clear HO616; clear HO619; clear HO624; clear BK625; clear HO628; clear HO634; clear HB; have BK611 := n0_; have HO616 := n1_; have HO619 := n2_; have HO624 := n3_; have BK625 := n4_; have HO628 := n5_; have HO634 := n6_; have HB := n7_; have Zw56 := n8_; clear n0_ n1_ n2_ n3_ n4_ n5_ n6_ n7_ n8_; (try clear hb); (try clear hkp); (try clear hd_); (try clear hy0)) | (go_at_call 24; (with_reducible refine (laws_eqInt64SS.calls k _ _ t626 _ _ t617 true _ ?side1 ?side2 ?side3 ?side4 A19.out).mono ?_); (case side1 => exact (Kd.S_reads' HO628.out).2.2); (case side2 => (have e_ := Kd.S_reads' HO628.out; have e1_ := e_.1; have e2_ := e_.2.1; omega)); (case side3 => exact (Kd.S_reads' HO619.out).2.2); (case side4 => (have e_ := Kd.S_reads' HO619.out; have e1_ := e_.1; have e2_ := e_.2.1; omega)); rintro e w57 ⟨rfl, hd_⟩; have hb := hd_.below; have n0_ := Aside0.mk (blk_below (g := gb611) (o := .cells #[.int .i64 a0_0, .slice A0_1 l0_1.length c0_1] 24 (0, 0)) (by (with_reducible repeat (first | refine blk_drewN ?_ _ | refine blk_drew ?_ | refine blk_alloc ?_ _)); exact BK611.out) hb); have n1_ := Aside0.mk (Kd.S_below HO616.out hb); have n2_ := Aside0.mk (Kd.S_below HO619.out hb); have n3_ := Aside0.mk (Kd.S_below HO624.out hb); have n4_ := Aside0.mk (blk_below (g := gb625) (o := .cells #[.int .i64 t621, .slice Ao43 t622.length co43] 29 (0, 0)) (by (with_reducible repeat (first | refine blk_drewN ?_ _ | refine blk_drew ?_ | refine blk_alloc ?_ _)); exact BK625.out) hb); have n5_ := Aside0.mk (Kd.S_below HO628.out hb); have n6_ := Aside0.mk (Kd.S_below HO634.out hb); have n7_ := Aside0.mk (below_step HB.out hb); have n8_ := Aside0.mk (hb.size); clear BK611; clear HO616; clear HO619; clear HO624; clear BK625; clear HO628; clear HO634; clear HB; have BK611 := n0_; have HO616 := n1_; have HO619 := n2_; have HO624 := n3_; have BK625 := n4_; have HO628 := n5_; have HO634 := n6_; have HB := n7_; have Zw57 := n8_; clear n0_ n1_ n2_ n3_ n4_ n5_ n6_ n7_ n8_; (try clear hb); (try clear hkp); (try clear hd_)) | ((with_reducible refine gate_callee (f := 26) rfl ?_); refine goesL_ (some 64) rfl rfl Try.func26 (by kernel_rfl) rfl #[.slice Ao49 t626.length co49, .int .i64 1] rfl (by (try simp only [List.map_toArray, List.map_cons, List.map_nil]); first | done | rfl) ?_; (with_reducible refine (laws_markInt64SS.calls k (fun k_ => w47.heap.size ≤ k_ ∧ k_ < w48.heap.size) (.slice Ao49 t626.length co49) t626 1 t639 t640 w _ ?side1 ?side2 A21.out).mono ?_); (case side1 => exact HB.out); (case side2 => exact HO628.out); rintro e w58 ⟨rfl, hy0, hb, hkp⟩; refine ⟨_, rfl, ?_⟩; have n0_ := Aside0.mk (blk_kept (by (with_reducible repeat (first | refine blk_drewN ?_ _ | refine blk_drew ?_ | refine blk_alloc ?_ _)); exact BK611.out) hkp (fun hs_ => by have h1_ := ZB611.out.1; have h2_ := ZB611.out.2; have z0_ := Zw33.out; have z1_ := Zw35.out; have z2_ := Zw37.out; have z3_ := Zw39.out; have z4_ := Zw42.out; have z5_ := Zw44.out; have z6_ := Zw47.out; have z7_ := Zw48.out; have z8_ := Zw50.out; have z9_ := Zw51.out; have z10_ := Zw52.out; have z11_ := Zw54.out; have z12_ := Zw56.out; have z13_ := Zw57.out; have h3_ := hs_.1; have h4_ := hs_.2; omega)); have n1_ := Aside0.mk (Kd.S_step HO616.out (fun k_ ho_ hl_ => hkp.2 k_ hl_ (fun hs_ => by have h1_ := ho_.1; have h2_ := ho_.2; have z0_ := Zw33.out; have z1_ := Zw35.out; have z2_ := Zw37.out; have z3_ := Zw39.out; have z4_ := Zw42.out; have z5_ := Zw44.out; have z6_ := Zw47.out; have z7_ := Zw48.out; have z8_ := Zw50.out; have z9_ := Zw51.out; have z10_ := Zw52.out; have z11_ := Zw54.out; have z12_ := Zw56.out; have z13_ := Zw57.out; have h3_ := hs_.1; have h4_ := hs_.2; omega))); have n2_ := Aside0.mk (Kd.S_step HO619.out (fun k_ ho_ hl_ => hkp.2 k_ hl_ (fun hs_ => by have h1_ := ho_.1; have h2_ := ho_.2; have z0_ := Zw33.out; have z1_ := Zw35.out; have z2_ := Zw37.out; have z3_ := Zw39.out; have z4_ := Zw42.out; have z5_ := Zw44.out; have z6_ := Zw47.out; have z7_ := Zw48.out; have z8_ := Zw50.out; have z9_ := Zw51.out; have z10_ := Zw52.out; have z11_ := Zw54.out; have z12_ := Zw56.out; have z13_ := Zw57.out; have h3_ := hs_.1; have h4_ := hs_.2; omega))); have n3_ := Aside0.mk (Kd.S_step HO624.out (fun k_ ho_ hl_ => hkp.2 k_ hl_ (fun hs_ => by have h1_ := ho_.1; have h2_ := ho_.2; have z0_ := Zw33.out; have z1_ := Zw35.out; have z2_ := Zw37.out; have z3_ := Zw39.out; have z4_ := Zw42.out; have z5_ := Zw44.out; have z6_ := Zw47.out; have z7_ := Zw48.out; have z8_ := Zw50.out; have z9_ := Zw51.out; have z10_ := Zw52.out; have z11_ := Zw54.out; have z12_ := Zw56.out; have z13_ := Zw57.out; have h3_ := hs_.1; have h4_ := hs_.2; omega))); have n4_ := Aside0.mk (blk_kept (by (with_reducible repeat (first | refine blk_drewN ?_ _ | refine blk_drew ?_ | refine blk_alloc ?_ _)); exact BK625.out) hkp (fun hs_ => by have h1_ := ZB625.out.1; have h2_ := ZB625.out.2; have z0_ := Zw33.out; have z1_ := Zw35.out; have z2_ := Zw37.out; have z3_ := Zw39.out; have z4_ := Zw42.out; have z5_ := Zw44.out; have z6_ := Zw47.out; have z7_ := Zw48.out; have z8_ := Zw50.out; have z9_ := Zw51.out; have z10_ := Zw52.out; have z11_ := Zw54.out; have z12_ := Zw56.out; have z13_ := Zw57.out; have h3_ := hs_.1; have h4_ := hs_.2; omega)); have n5_ := Aside0.mk (hy0); have n6_ := Aside0.mk (Kd.S_step HO634.out (fun k_ ho_ hl_ => hkp.2 k_ hl_ (fun hs_ => by have h1_ := ho_.1; have h2_ := ho_.2; have z0_ := Zw33.out; have z1_ := Zw35.out; have z2_ := Zw37.out; have z3_ := Zw39.out; have z4_ := Zw42.out; have z5_ := Zw44.out; have z6_ := Zw47.out; have z7_ := Zw48.out; have z8_ := Zw50.out; have z9_ := Zw51.out; have z10_ := Zw52.out; have z11_ := Zw54.out; have z12_ := Zw56.out; have z13_ := Zw57.out; have h3_ := hs_.1; have h4_ := hs_.2; omega))); have n7_ := Aside0.mk (hb); have n8_ := Aside0.mk (hkp.1); clear BK611; clear HO616; clear HO619; clear HO624; clear BK625; clear HO628; clear HO634; clear HB; have BK611 := n0_; have HO616 := n1_; have HO619 := n2_; have HO624 := n3_; have BK625 := n4_; have HO628 := n5_; have HO634 := n6_; have HB := n7_; have Zw58 := n8_; clear n0_ n1_ n2_ n3_ n4_ n5_ n6_ n7_ n8_; (try clear hb); (try clear hkp); (try clear hd_); (try clear hy0)) | ((with_reducible refine gate_callee (f := 27) rfl ?_); refine goesL_ (some 67) rfl rfl Try.func27 (by kernel_rfl) rfl #[.slice Ao49 t626.length co49, .int .i64 1] rfl (by (try simp only [List.map_toArray, List.map_cons, List.map_nil]); first | done | rfl) ?_; refine calls_of_args (args' := #[.slice Ao49 t640.length co49, .int .i64 1]) (by first | rfl | (rw [show t626.length = t640.length from (Kd.S_reads' HO628.out).1] <;> rfl) | (simp only [show t626.length = t640.length from (Kd.S_reads' HO628.out).1])) ?_; (with_reducible refine (laws_heldInt64SS.calls k _ _ t640 1 t641 _ ?side1 ?side2 A22.out).mono ?_); (case side1 => exact (Kd.S_reads' HO628.out).2.2); (case side2 => (have e_ := Kd.S_reads' HO628.out; have e1_ := e_.1; have e2_ := e_.2.1; omega)); rintro e w59 ⟨rfl, hd_⟩; refine ⟨_, rfl, ?_⟩; have hb := hd_.below; have n0_ := Aside0.mk (blk_below (g := gb611) (o := .cells #[.int .i64 a0_0, .slice A0_1 l0_1.length c0_1] 24 (0, 0)) (by (with_reducible repeat (first | refine blk_drewN ?_ _ | refine blk_drew ?_ | refine blk_alloc ?_ _)); exact BK611.out) hb); have n1_ := Aside0.mk (Kd.S_below HO616.out hb); have n2_ := Aside0.mk (Kd.S_below HO619.out hb); have n3_ := Aside0.mk (Kd.S_below HO624.out hb); have n4_ := Aside0.mk (blk_below (g := gb625) (o := .cells #[.int .i64 t621, .slice Ao43 t622.length co43] 29 (0, 0)) (by (with_reducible repeat (first | refine blk_drewN ?_ _ | refine blk_drew ?_ | refine blk_alloc ?_ _)); exact BK625.out) hb); have n5_ := Aside0.mk (Kd.S_below HO628.out hb); have n6_ := Aside0.mk (Kd.S_below HO634.out hb); have n7_ := Aside0.mk (below_step HB.out hb); have n8_ := Aside0.mk (hb.size); clear BK611; clear HO616; clear HO619; clear HO624; clear BK625; clear HO628; clear HO634; clear HB; have BK611 := n0_; have HO616 := n1_; have HO619 := n2_; have HO624 := n3_; have BK625 := n4_; have HO628 := n5_; have HO634 := n6_; have HB := n7_; have Zw59 := n8_; clear n0_ n1_ n2_ n3_ n4_ n5_ n6_ n7_ n8_; (try clear hb); (try clear hkp); (try clear hd_); have hcz60_0 : w59.cell? ⟨gb611, 0, none⟩ = some (.int .i64 a0_0) := (blk_cell BK611.out 0).trans rfl; have hcz60_1 : w59.cell? ⟨gb611, 1, none⟩ = some (.slice A0_1 l0_1.length c0_1) := (blk_cell BK611.out 1).trans rfl; have hfz60_0 := blk_frozen BK611.out 0; have hfz60_1 := blk_frozen BK611.out 1) | ((with_reducible refine gate_callee (f := 17) rfl ?_); refine goesL_ (some 75) rfl rfl Try.func17 (by kernel_rfl) rfl #[.agg #[.int .i64 a0_0, .slice A0_1 l0_1.length c0_1]] rfl (by (try simp only [List.map_toArray, List.map_cons, List.map_nil]); first | done | rfl) ?_; (with_reducible refine (laws_toGraph.calls k a0_0 _ _ l0_1 t642 t643 _ ?side1 ?side2 A25.out).mono ?_); (case side1 => exact (Kd.C_below HR0_1.out HB.out)); (case side2 => exact HC0_1.out); rintro e w61 ⟨v644, rfl, ho0, hb⟩; refine ⟨_, rfl, ?_⟩; have n0_ := Aside0.mk (blk_below (g := gb611) (o := .cells #[.int .i64 a0_0, .slice A0_1 l0_1.length c0_1] 24 (0, 0)) (by (with_reducible repeat (first | refine blk_drewN ?_ _ | refine blk_drew ?_ | refine blk_alloc ?_ _)); exact BK611.out) hb); have n1_ := Aside0.mk (Kd.S_below HO616.out hb); have n2_ := Aside0.mk (Kd.S_below HO619.out hb); have n3_ := Aside0.mk (Kd.S_below HO624.out hb); have n4_ := Aside0.mk (blk_below (g := gb625) (o := .cells #[.int .i64 t621, .slice Ao43 t622.length co43] 29 (0, 0)) (by (with_reducible repeat (first | refine blk_drewN ?_ _ | refine blk_drew ?_ | refine blk_alloc ?_ _)); exact BK625.out) hb); have n5_ := Aside0.mk (Kd.S_below HO628.out hb); have n6_ := Aside0.mk (Kd.S_below HO634.out hb); have n7_ := Aside0.mk (Kd.S_lower (Kd.S_mono (Kd.S_bound ho0) (fun k_ hk_ => (⟨hk_.2.1, hk_.2.2.1⟩ : w59.heap.size ≤ k_ ∧ k_ < w61.heap.size))) HB.out.size); have n8_ := Aside0.mk (below_step HB.out hb); have n9_ := Aside0.mk (hb.size); clear BK611; clear HO616; clear HO619; clear HO624; clear BK625; clear HO628; clear HO634; clear HB; have BK611 := n0_; have HO616 := n1_; have HO619 := n2_; have HO624 := n3_; have BK625 := n4_; have HO628 := n5_; have HO634 := n6_; have HO645 := n7_; have HB := n8_; have Zw61 := n9_; clear n0_ n1_ n2_ n3_ n4_ n5_ n6_ n7_ n8_ n9_; (try clear hb); (try clear hkp); (try clear hd_); (try clear ho0); obtain ⟨Ao62, co62, eo62⟩ := Kd.S_slice HO645.out; subst eo62) | ((with_reducible refine gate_callee (f := 38) rfl ?_); refine goesL_ (some 76) rfl rfl Try.func38 (by kernel_rfl) rfl #[.agg #[.int .i64 t642, .slice Ao62 t643.length co62]] rfl (by (try simp only [List.map_toArray, List.map_cons, List.map_nil]); first | done | rfl) ?_; (with_reducible refine (impl_PartsOf.calls k t642 _ _ t643 t646 t649 _ ?side1 ?side2 A26.out).mono ?_); (case side1 => exact (Kd.S_reads' HO645.out).2.2); (case side2 => (have e_ := Kd.S_reads' HO645.out; have e1_ := e_.1; have e2_ := e_.2.1; omega)); rintro e w63 ⟨v647, rfl, ho0, hb⟩; refine ⟨_, rfl, ?_⟩; have n0_ := Aside0.mk (blk_below (g := gb611) (o := .cells #[.int .i64 a0_0, .slice A0_1 l0_1.length c0_1] 24 (0, 0)) (by (with_reducible repeat (first | refine blk_drewN ?_ _ | refine blk_drew ?_ | refine blk_alloc ?_ _)); exact BK611.out) hb); have n1_ := Aside0.mk (Kd.S_below HO616.out hb); have n2_ := Aside0.mk (Kd.S_below HO619.out hb); have n3_ := Aside0.mk (Kd.S_below HO624.out hb); have n4_ := Aside0.mk (blk_below (g := gb625) (o := .cells #[.int .i64 t621, .slice Ao43 t622.length co43] 29 (0, 0)) (by (with_reducible repeat (first | refine blk_drewN ?_ _ | refine blk_drew ?_ | refine blk_alloc ?_ _)); exact BK625.out) hb); have n5_ := Aside0.mk (Kd.S_below HO628.out hb); have n6_ := Aside0.mk (Kd.S_below HO634.out hb); have n7_ := Aside0.mk (Kd.S_below HO645.out hb); have n8_ := Aside0.mk (Kd.S_lower (Kd.S_mono (Kd.S_bound ho0) (fun k_ hk_ => (⟨hk_.2.1, hk_.2.2.1⟩ : w61.heap.size ≤ k_ ∧ k_ < w63.heap.size))) HB.out.size); have n9_ := Aside0.mk (below_step HB.out hb); have n10_ := Aside0.mk (hb.size); clear BK611; clear HO616; clear HO619; clear HO624; clear BK625; clear HO628; clear HO634; clear HO645; clear HB; have BK611 := n0_; have HO616 := n1_; have HO619 := n2_; have HO624 := n3_; have BK625 := n4_; have HO628 := n5_; have HO634 := n6_; have HO645 := n7_; have HO648 := n8_; have HB := n9_; have Zw63 := n10_; clear n0_ n1_ n2_ n3_ n4_ n5_ n6_ n7_ n8_ n9_ n10_; (try clear hb); (try clear hkp); (try clear hd_); (try clear ho0); obtain ⟨Ao64, co64, eo64⟩ := Kd.S_slice HO648.out; subst eo64) | ((with_reducible refine gate_callee (f := 24) rfl ?_); refine goesL_ (some 81) rfl rfl Try.func24 (by kernel_rfl) rfl #[.slice Ao64 t646.length co64, .slice Ao40 t617.length co40] rfl (by (try simp only [List.map_toArray, List.map_cons, List.map_nil]); first | done | rfl) ?_; (with_reducible refine (laws_eqInt64SS.calls k _ _ t646 _ _ t617 true _ ?side1 ?side2 ?side3 ?side4 A27.out).mono ?_); (case side1 => exact (Kd.S_reads' HO648.out).2.2); (case side2 => (have e_ := Kd.S_reads' HO648.out; have e1_ := e_.1; have e2_ := e_.2.1; omega)); (case side3 => exact (Kd.S_reads' HO619.out).2.2); (case side4 => (have e_ := Kd.S_reads' HO619.out; have e1_ := e_.1; have e2_ := e_.2.1; omega)); rintro e w65 ⟨rfl, hd_⟩; refine ⟨_, rfl, ?_⟩; have hb := hd_.below; have n0_ := Aside0.mk (blk_below (g := gb611) (o := .cells #[.int .i64 a0_0, .slice A0_1 l0_1.length c0_1] 24 (0, 0)) (by (with_reducible repeat (first | refine blk_drewN ?_ _ | refine blk_drew ?_ | refine blk_alloc ?_ _)); exact BK611.out) hb); have n1_ := Aside0.mk (Kd.S_below HO616.out hb); have n2_ := Aside0.mk (Kd.S_below HO619.out hb); have n3_ := Aside0.mk (Kd.S_below HO624.out hb); have n4_ := Aside0.mk (blk_below (g := gb625) (o := .cells #[.int .i64 t621, .slice Ao43 t622.length co43] 29 (0, 0)) (by (with_reducible repeat (first | refine blk_drewN ?_ _ | refine blk_drew ?_ | refine blk_alloc ?_ _)); exact BK625.out) hb); have n5_ := Aside0.mk (Kd.S_below HO628.out hb); have n6_ := Aside0.mk (Kd.S_below HO634.out hb); have n7_ := Aside0.mk (Kd.S_below HO645.out hb); have n8_ := Aside0.mk (Kd.S_below HO648.out hb); have n9_ := Aside0.mk (below_step HB.out hb); have n10_ := Aside0.mk (hb.size); clear BK611; clear HO616; clear HO619; clear HO624; clear BK625; clear HO628; clear HO634; clear HO645; clear HO648; clear HB; have BK611 := n0_; have HO616 := n1_; have HO619 := n2_; have HO624 := n3_; have BK625 := n4_; have HO628 := n5_; have HO634 := n6_; have HO645 := n7_; have HO648 := n8_; have HB := n9_; have Zw65 := n10_; clear n0_ n1_ n2_ n3_ n4_ n5_ n6_ n7_ n8_ n9_ n10_; (try clear hb); (try clear hkp); (try clear hd_)) | ((with_reducible refine gate_callee (f := 27) rfl ?_); refine goesL_ (some 90) rfl rfl Try.func27 (by kernel_rfl) rfl #[.slice Ao49 t626.length co49, .int .i64 1] rfl (by (try simp only [List.map_toArray, List.map_cons, List.map_nil]); first | done | rfl) ?_; refine calls_of_args (args' := #[.slice Ao49 t640.length co49, .int .i64 1]) (by first | rfl | (rw [show t626.length = t640.length from (Kd.S_reads' HO628.out).1] <;> rfl) | (simp only [show t626.length = t640.length from (Kd.S_reads' HO628.out).1])) ?_; (with_reducible refine (laws_heldInt64SS.calls k _ _ t640 1 t651 _ ?side1 ?side2 A30.out).mono ?_); (case side1 => exact (Kd.S_reads' HO628.out).2.2); (case side2 => (have e_ := Kd.S_reads' HO628.out; have e1_ := e_.1; have e2_ := e_.2.1; omega)); rintro e w66 ⟨rfl, hd_⟩; refine ⟨_, rfl, ?_⟩; have hb := hd_.below; have n0_ := Aside0.mk (blk_below (g := gb611) (o := .cells #[.int .i64 a0_0, .slice A0_1 l0_1.length c0_1] 24 (0, 0)) (by (with_reducible repeat (first | refine blk_drewN ?_ _ | refine blk_drew ?_ | refine blk_alloc ?_ _)); exact BK611.out) hb); have n1_ := Aside0.mk (Kd.S_below HO616.out hb); have n2_ := Aside0.mk (Kd.S_below HO619.out hb); have n3_ := Aside0.mk (Kd.S_below HO624.out hb); have n4_ := Aside0.mk (blk_below (g := gb625) (o := .cells #[.int .i64 t621, .slice Ao43 t622.length co43] 29 (0, 0)) (by (with_reducible repeat (first | refine blk_drewN ?_ _ | refine blk_drew ?_ | refine blk_alloc ?_ _)); exact BK625.out) hb); have n5_ := Aside0.mk (Kd.S_below HO628.out hb); have n6_ := Aside0.mk (Kd.S_below HO634.out hb); have n7_ := Aside0.mk (Kd.S_below HO645.out hb); have n8_ := Aside0.mk (Kd.S_below HO648.out hb); have n9_ := Aside0.mk (below_step HB.out hb); have n10_ := Aside0.mk (hb.size); clear BK611; clear HO616; clear HO619; clear HO624; clear BK625; clear HO628; clear HO634; clear HO645; clear HO648; clear HB; have BK611 := n0_; have HO616 := n1_; have HO619 := n2_; have HO624 := n3_; have BK625 := n4_; have HO628 := n5_; have HO634 := n6_; have HO645 := n7_; have HO648 := n8_; have HB := n9_; have Zw66 := n10_; clear n0_ n1_ n2_ n3_ n4_ n5_ n6_ n7_ n8_ n9_ n10_; (try clear hb); (try clear hkp); (try clear hd_)))
                          go_ret
                          exact ⟨by first | rfl | (simp [errW_none, errW_some] <;> rfl) | (simp [*, errW_none, errW_some] <;> rfl), by repeat (first | (with_reducible first | exact HB.out | apply below_alloc | apply pw_below_drewN | apply below_drew1 | refine below_set ?_ GE611.out | refine below_set ?_ GE625.out) | exact HB.out)⟩
                        · rw [if_neg c32] at H
                          have c32b0 : (t651 == t639) = false := beq_eq_false_iff_ne.mpr c32
                          have c32b1 : (t651 != t639) = true := bne_iff_ne.mpr c32
                          exact absurd H (by simp)
                    · rw [if_neg c29] at H
                      have c29b0 : (t649 == t620) = false := beq_eq_false_iff_ne.mpr c29
                      have c29b1 : (t649 != t620) = true := bne_iff_ne.mpr c29
                      exact absurd H (by simp)
                  · replace c28 := Bool.eq_false_iff.mpr c28
                    subst c28
                    have H1 : (some false) = some true := by rw [if_neg (show ¬ (false = true) by decide)] at H; exact H
                    clear H
                    have H := H1
                    clear H1
                    exact absurd H (by simp)
                · rw [if_neg c24] at H
                  have c24b0 : (t641 == t639) = false := beq_eq_false_iff_ne.mpr c24
                  have c24b1 : (t641 != t639) = true := bne_iff_ne.mpr c24
                  exact absurd H (by simp)
            · replace c20 := Bool.eq_false_iff.mpr c20
              subst c20
              have H1 : (some false) = some true := by rw [if_neg (show ¬ (false = true) by decide)] at H; exact H
              clear H
              have H := H1
              clear H1
              exact absurd H (by simp)
        · replace c16 := Bool.eq_false_iff.mpr c16
          subst c16
          have H1 : (some false) = some true := by rw [if_neg (show ¬ (false = true) by decide)] at H; exact H
          clear H
          have H := H1
          clear H1
          exact absurd H (by simp)
      · rw [if_neg c13] at H
        have c13b0 : (t629 == t620) = false := beq_eq_false_iff_ne.mpr c13
        have c13b1 : (t629 != t620) = true := bne_iff_ne.mpr c13
        exact absurd H (by simp)
    · replace c12 := Bool.eq_false_iff.mpr c12
      subst c12
      have H1 : (some false) = some true := by rw [if_neg (show ¬ (false = true) by decide)] at H; exact H
      clear H
      have H := H1
      clear H1
      exact absurd H (by simp)

/-- THE ONE PURE STATEMENT of laws_FnExactPartsOf: yours. -/
def laws_FnExactPartsOf.Pure : Prop := ∀ (a0_0 : Int) (l0_1 : List (List Int)), (Lit.int .i64 a0_0).wf = true → l0_1.length ≤ maxLen → (∀ r ∈ l0_1, r.length ≤ maxLen ∧ ∀ y ∈ r, (Lit.int .i64 y).wf = true) → ∃ k, laws_FnExactPartsOf.f k a0_0 l0_1 = some true
theorem laws_FnExactPartsOf.walk (P : laws_FnExactPartsOf.Pure) (a0_0 : Int) (A0_1 : Option Addr) (c0_1 : Nat) (l0_1 : List (List Int)) (w : World) (hw0_0 : (Lit.int .i64 a0_0).wf = true) (hm0_1 : l0_1.length ≤ maxLen) (hw0_1 : (∀ r ∈ l0_1, r.length ≤ maxLen ∧ ∀ y ∈ r, (Lit.int .i64 y).wf = true)) (hr0_1 : Kd.C (Kd.slice 2 (Kd.int .i64)) w A0_1 l0_1.length l0_1) (hc0_1 : l0_1.length ≤ c0_1) :
    Calls Try.prog 8 #[.agg #[.int .i64 a0_0, .slice A0_1 l0_1.length c0_1]] w fun e w' => e = .returned (.bool true) ∧ Below w.heap.size w w' := by
  obtain ⟨k, h⟩ := P a0_0 l0_1 hw0_0 hm0_1 hw0_1
  refine (laws_FnExactPartsOf.calls k a0_0 _ _ l0_1 w hr0_1 hc0_1 h).mono ?_
  rintro e w' ⟨rfl, hd⟩
  exact ⟨rfl, hd⟩

end Go.Proofs.Ytedhnaljedonfaa.G
