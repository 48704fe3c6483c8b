/- The printed functions that this law reaches, and their contracts: part 4. -/
-- printed by this repo's wip/printer out of the kit's print with its own changes
import Derived.Test.YtedhnaljedonfaaC3
namespace Go.Proofs.Ytedhnaljedonfaa.G
open Go.RowKit Go.Proofs.YtedhnaljedonfaaW.PrintWords Go.Proofs.YtedhnaljedonfaaW.PrintLast Go.Proofs.YtedhnaljedonfaaW.PrintMore
attribute [local go_sem] max2_int min2_int max_two min_two max_three min_three max_four min_four   -- for this text's walks alone
set_option linter.unusedVariables false
set_option linter.unusedSimpArgs false

/-! ### spec_l04Walk: function 86 -/
mutual
def spec_l04Walk.j0 : Nat → List Int → Bool → Int → List (List Int) → Int → List (List Int) → Option (List Int × Int)
 | 0, _, _, _, _, _, _ => none
 | k + 1, x1, x16, x923000, x923001, x923002, x923003 => if x16 = true then (some (([] : List Int), 2)) else ((spec_l02Closed.f k x923000 x923001 x1).bind fun t925 => (if t925 = true then (spec_l04Walk.l0 k x1 (([] : List Int)) 0 x923000 x923001 x923002 x923003) else (some (([] : List Int), 5))))
def spec_l04Walk.l0 : Nat → List Int → List Int → Int → Int → List (List Int) → Int → List (List Int) → Option (List Int × Int)
 | 0, _, _, _, _, _, _, _ => none
 | k + 1, x1, x6, x7, x923000, x923001, x923002, x923003 => if x7 < x923002 then (spec_l04Walk.l1 k x1 x6 x7 x7 0 x923000 x923001 x923002 x923003) else (some (x6, 0))
def spec_l04Walk.l1 : Nat → List Int → List Int → Int → Int → Int → Int → List (List Int) → Int → List (List Int) → Option (List Int × Int)
 | 0, _, _, _, _, _, _, _, _, _ => none
 | k + 1, x1, x6, x7, x8, x9, x923000, x923001, x923002, x923003 => if x9 < (x1.length : Int) then (if 0 ≤ x9 then (if 0 ≤ (wrap64 (Int.tdiv (rd x1 x9) 2)) then (if (wrap64 (Int.tdiv (rd x1 x9) 2)) < (x923003.length : Int) then (if (Int.tmod (rd x1 x9) 2) = 0 then (if 0 ≤ x8 then (if x8 < ((rd_L1 x923003 (wrap64 (Int.tdiv (rd x1 x9) 2))).length : Int) then (spec_l04Walk.l1 k x1 x6 x7 (rd (rd_L1 x923003 (wrap64 (Int.tdiv (rd x1 x9) 2))) x8) (wrap64 (x9 + 1)) x923000 x923001 x923002 x923003) else (none)) else (none)) else (spec_l04Walk.l2 k x1 x6 x7 x8 x9 (rd_L1 x923003 (wrap64 (Int.tdiv (rd x1 x9) 2))) 0 x923000 x923001 x923002 x923003)) else (none)) else (none)) else (none)) else (if x6.length < 17592186044416 then (spec_l04Walk.l0 k x1 (x6 ++ [x8]) (wrap64 (x7 + 1)) x923000 x923001 x923002 x923003) else (none))
def spec_l04Walk.l2 : Nat → List Int → List Int → Int → Int → Int → List Int → Int → Int → List (List Int) → Int → List (List Int) → Option (List Int × Int)
 | 0, _, _, _, _, _, _, _, _, _, _, _ => none
 | k + 1, x1, x6, x7, x8, x9, x10, x11, x923000, x923001, x923002, x923003 => if 0 ≤ x11 then (if x11 < (x10.length : Int) then (if (rd x10 x11) = x8 then (spec_l04Walk.l1 k x1 x6 x7 x11 (wrap64 (x9 + 1)) x923000 x923001 x923002 x923003) else (spec_l04Walk.l2 k x1 x6 x7 x8 x9 x10 (wrap64 (x11 + 1)) x923000 x923001 x923002 x923003)) else (none)) else (none)
end
def spec_l04Walk.f (k : Nat) (a0_0 : Int) (l0_1 : List (List Int)) (a0_2 : Int) (l0_3 : List (List Int)) (l1 : List Int) : Option (List Int × Int) := (spec_l04Is.f k a0_0 l0_1 a0_2 l0_3).bind fun t923 => (if t923 = true then (if (l1.length : Int) = 0 then (spec_l04Walk.j0 k l1 true a0_0 l0_1 a0_2 l0_3) else ((spec_l02Directed.f k a0_0 l0_1 l1).bind fun t924 => (spec_l04Walk.j0 k l1 (!t924) a0_0 l0_1 a0_2 l0_3))) else (some (([] : List Int), 1)))
theorem spec_l04Walk.mono_l : ∀ k, (∀ y0 y1 y2 y3 y4 y5, LeO (spec_l04Walk.j0 k y0 y1 y2 y3 y4 y5) (spec_l04Walk.j0 (k + 1) y0 y1 y2 y3 y4 y5)) ∧ (∀ y0 y1 y2 y3 y4 y5 y6, LeO (spec_l04Walk.l0 k y0 y1 y2 y3 y4 y5 y6) (spec_l04Walk.l0 (k + 1) y0 y1 y2 y3 y4 y5 y6)) ∧ (∀ y0 y1 y2 y3 y4 y5 y6 y7 y8, LeO (spec_l04Walk.l1 k y0 y1 y2 y3 y4 y5 y6 y7 y8) (spec_l04Walk.l1 (k + 1) y0 y1 y2 y3 y4 y5 y6 y7 y8)) ∧ (∀ y0 y1 y2 y3 y4 y5 y6 y7 y8 y9 y10, LeO (spec_l04Walk.l2 k y0 y1 y2 y3 y4 y5 y6 y7 y8 y9 y10) (spec_l04Walk.l2 (k + 1) y0 y1 y2 y3 y4 y5 y6 y7 y8 y9 y10))
 | 0 => ⟨fun _ _ _ _ _ _ r h => by simp [spec_l04Walk.j0] at h, fun _ _ _ _ _ _ _ r h => by simp [spec_l04Walk.l0] at h, fun _ _ _ _ _ _ _ _ _ r h => by simp [spec_l04Walk.l1] at h, fun _ _ _ _ _ _ _ _ _ _ _ r h => by simp [spec_l04Walk.l2] at h⟩
 | k + 1 => by
  obtain ⟨ih0, ih1, ih2, ih3⟩ := spec_l04Walk.mono_l k
  refine ⟨?_, ?_, ?_, ?_⟩
  ·intro y0 y1 y2 y3 y4 y5
   unfold spec_l04Walk.j0
   repeat' first
   | (with_reducible exact ih0 _ _ _ _ _ _)
   | (with_reducible exact ih1 _ _ _ _ _ _ _)
   | (with_reducible exact ih2 _ _ _ _ _ _ _ _ _)
   | (with_reducible exact ih3 _ _ _ _ _ _ _ _ _ _ _)
   | (with_reducible exact spec_l02Closed.mono _ _ _ _)
   | (with_reducible exact spec_l02Directed.mono _ _ _ _)
   | (with_reducible exact spec_l04Is.mono _ _ _ _ _)
   | (with_reducible exact LeO.refl _)
   | (with_reducible exact LeO.none _)
   | (with_reducible refine LeO.ite ?_ ?_)
   | (with_reducible refine LeO.bind ?_ (fun _ => ?_))
  ·intro y0 y1 y2 y3 y4 y5 y6
   unfold spec_l04Walk.l0
   repeat' first
   | (with_reducible exact ih0 _ _ _ _ _ _)
   | (with_reducible exact ih1 _ _ _ _ _ _ _)
   | (with_reducible exact ih2 _ _ _ _ _ _ _ _ _)
   | (with_reducible exact ih3 _ _ _ _ _ _ _ _ _ _ _)
   | (with_reducible exact spec_l02Closed.mono _ _ _ _)
   | (with_reducible exact spec_l02Directed.mono _ _ _ _)
   | (with_reducible exact spec_l04Is.mono _ _ _ _ _)
   | (with_reducible exact LeO.refl _)
   | (with_reducible exact LeO.none _)
   | (with_reducible refine LeO.ite ?_ ?_)
   | (with_reducible refine LeO.bind ?_ (fun _ => ?_))
  ·intro y0 y1 y2 y3 y4 y5 y6 y7 y8
   unfold spec_l04Walk.l1
   repeat' first
   | (with_reducible exact ih0 _ _ _ _ _ _)
   | (with_reducible exact ih1 _ _ _ _ _ _ _)
   | (with_reducible exact ih2 _ _ _ _ _ _ _ _ _)
   | (with_reducible exact ih3 _ _ _ _ _ _ _ _ _ _ _)
   | (with_reducible exact spec_l02Closed.mono _ _ _ _)
   | (with_reducible exact spec_l02Directed.mono _ _ _ _)
   | (with_reducible exact spec_l04Is.mono _ _ _ _ _)
   | (with_reducible exact LeO.refl _)
   | (with_reducible exact LeO.none _)
   | (with_reducible refine LeO.ite ?_ ?_)
   | (with_reducible refine LeO.bind ?_ (fun _ => ?_))
  ·intro y0 y1 y2 y3 y4 y5 y6 y7 y8 y9 y10
   unfold spec_l04Walk.l2
   repeat' first
   | (with_reducible exact ih0 _ _ _ _ _ _)
   | (with_reducible exact ih1 _ _ _ _ _ _ _)
   | (with_reducible exact ih2 _ _ _ _ _ _ _ _ _)
   | (with_reducible exact ih3 _ _ _ _ _ _ _ _ _ _ _)
   | (with_reducible exact spec_l02Closed.mono _ _ _ _)
   | (with_reducible exact spec_l02Directed.mono _ _ _ _)
   | (with_reducible exact spec_l04Is.mono _ _ _ _ _)
   | (with_reducible exact LeO.refl _)
   | (with_reducible exact LeO.none _)
   | (with_reducible refine LeO.ite ?_ ?_)
   | (with_reducible refine LeO.bind ?_ (fun _ => ?_))
theorem spec_l04Walk.mono : ∀ a0 a1 a2 a3 a4 k, LeO (spec_l04Walk.f k a0 a1 a2 a3 a4) (spec_l04Walk.f (k + 1) a0 a1 a2 a3 a4) := by
 intro a0 a1 a2 a3 a4 k
 obtain ⟨ih0, ih1, ih2, ih3⟩ := spec_l04Walk.mono_l k
 unfold spec_l04Walk.f
 repeat' first
   | (with_reducible exact ih0 _ _ _ _ _ _)
   | (with_reducible exact ih1 _ _ _ _ _ _ _)
   | (with_reducible exact ih2 _ _ _ _ _ _ _ _ _)
   | (with_reducible exact ih3 _ _ _ _ _ _ _ _ _ _ _)
   | (with_reducible exact spec_l02Closed.mono _ _ _ _)
   | (with_reducible exact spec_l02Directed.mono _ _ _ _)
   | (with_reducible exact spec_l04Is.mono _ _ _ _ _)
   | (with_reducible exact LeO.refl _)
   | (with_reducible exact LeO.none _)
   | (with_reducible refine LeO.ite ?_ ?_)
   | (with_reducible refine LeO.bind ?_ (fun _ => ?_))
set_option maxHeartbeats 8000000 in
set_option maxRecDepth 100000 in
theorem spec_l04Walk.calls (k : Nat) (a0_0 : Int) (A0_1 : Option Addr) (c0_1 : Nat) (l0_1 : List (List Int)) (a0_2 : Int) (A0_3 : Option Addr) (c0_3 : Nat) (l0_3 : List (List Int)) (A1 : Option Addr) (c1 : Nat) (l1 : List Int) (r1 : List Int) (r2 : Int) (w : World) (hr0_1 : Kd.C (Kd.slice 2 (Kd.int .i64)) w A0_1 l0_1.length l0_1) (hc0_1 : l0_1.length ≤ c0_1) (hr0_3 : Kd.C (Kd.slice 2 (Kd.int .i64)) w A0_3 l0_3.length l0_3) (hc0_3 : l0_3.length ≤ c0_3) (hr1 : Kd.C (Kd.int .i64) w A1 l1.length l1) (hc1 : l1.length ≤ c1) (h : spec_l04Walk.f k a0_0 l0_1 a0_2 l0_3 l1 = some (r1, r2)) :
  Calls Try.prog 86 #[.agg #[.int .i64 a0_0, .slice A0_1 l0_1.length c0_1, .int .i64 a0_2, .slice A0_3 l0_3.length c0_3], .slice A1 l1.length c1] w fun e w' => ∃ v0_ : Value, e = .returned (.tuple #[v0_, .int .i64 r2]) ∧ Kd.R (Kd.int .i64) 2 w' w.heap.size (fun _ => True) v0_ r1 ∧ Below w.heap.size w w' := by
 have hu46 := Try.underlying46
 have hu29 := Try.underlying29
 have HR0_1 := Aside0.mk hr0_1
 have HC0_1 := Aside0.mk hc0_1
 clear hr0_1 hc0_1
 have HR0_3 := Aside0.mk hr0_3
 have HC0_3 := Aside0.mk hc0_3
 clear hr0_3 hc0_3
 have HR1 := Aside0.mk hr1
 have HC1 := Aside0.mk hc1
 clear hr1 hc1
 have HB := Aside0.mk (Below.refl w.heap.size w)
 have H : ((spec_l04Is.f k a0_0 l0_1 a0_2 l0_3).bind fun t923 => (if t923 = true then (if (l1.length : Int) = 0 then (spec_l04Walk.j0 k l1 true a0_0 l0_1 a0_2 l0_3) else ((spec_l02Directed.f k a0_0 l0_1 l1).bind fun t924 => (spec_l04Walk.j0 k l1 (!t924) a0_0 l0_1 a0_2 l0_3))) else (some (([] : List Int), 1)))) = some (r1, r2) := h
 clear h
 replace H := Option.bind_eq_some_iff.mp H
 obtain ⟨t923, A30, H⟩ := H
 replace H : (if t923 = true then (if (l1.length : Int) = 0 then (spec_l04Walk.j0 k l1 true a0_0 l0_1 a0_2 l0_3) else ((spec_l02Directed.f k a0_0 l0_1 l1).bind fun t924 => (spec_l04Walk.j0 k l1 (!t924) a0_0 l0_1 a0_2 l0_3))) else (some (([] : List Int), 1))) = some (r1, r2) := H
 have A3 := Aside0.mk A30
 clear A30
 by_cases c4 : t923 = true
 ·subst c4
  have H1 : (if (l1.length : Int) = 0 then (spec_l04Walk.j0 k l1 true a0_0 l0_1 a0_2 l0_3) else ((spec_l02Directed.f k a0_0 l0_1 l1).bind fun t924 => (spec_l04Walk.j0 k l1 (!t924) a0_0 l0_1 a0_2 l0_3))) = some (r1, r2) := by rw [if_pos rfl] at H; exact H
  clear H
  have H := H1
  clear H1
  have HC5 := Aside0.mk H
  clear H
  go_enter Try.func86, Try.ntmps86
  go_upto_region 3 with (first | ((with_reducible refine gate_dst (N := 2) rfl ?_); refine box_event ?hg (N := 2) ?hd (cs := #[.int .i64 a0_0, .slice A0_1 l0_1.length c0_1, .int .i64 a0_2, .slice A0_3 l0_3.length c0_3]) (t := 46) ?hr ?_; (case hd => rfl); (case hg => rfl); (case hr => first | (go_simp; done) | (go_simp; rfl)); intro gb922 hg w6 hbox hb; have n0_ := Aside0.mk (below_step (by repeat (first | (with_reducible first | exact HB.out | apply below_alloc | apply pw_below_drewN | apply below_drew1) | exact HB.out)) hb); have n1_ := Aside0.mk (hbox); have n2_ := Aside0.mk ((by rw [hg]; exact (below_size (by repeat (first | (with_reducible first | exact HB.out | apply below_alloc | apply pw_below_drewN | apply below_drew1) | exact HB.out))) : w.heap.size ≤ gb922)); have n3_ := Aside0.mk ((by rw [hg]; exact (below_size (by repeat (first | (with_reducible first | exact HB.out | apply below_alloc | apply pw_below_drewN | apply below_drew1) | exact HB.out))) : w.heap.size ≤ gb922)); clear HB; have HB := n0_; have BK922 := n1_; have GW922 := n2_; have GE922 := n3_; clear n0_ n1_ n2_ n3_; clear hb hbox hg; have hcz7_0 : w6.cell? ⟨gb922, 0, none⟩ = some (.int .i64 a0_0) := (blk_cell BK922.out 0).trans rfl; have hcz7_1 : w6.cell? ⟨gb922, 1, none⟩ = some (.slice A0_1 l0_1.length c0_1) := (blk_cell BK922.out 1).trans rfl; have hcz7_2 : w6.cell? ⟨gb922, 2, none⟩ = some (.int .i64 a0_2) := (blk_cell BK922.out 2).trans rfl; have hcz7_3 : w6.cell? ⟨gb922, 3, none⟩ = some (.slice A0_3 l0_3.length c0_3) := (blk_cell BK922.out 3).trans rfl; have hfz7_0 := blk_frozen BK922.out 0; have hfz7_1 := blk_frozen BK922.out 1; have hfz7_2 := blk_frozen BK922.out 2; have hfz7_3 := blk_frozen BK922.out 3) | (go_at_call 70; (with_reducible refine (spec_l04Is.calls k a0_0 _ _ l0_1 a0_2 _ _ l0_3 true _ ?side1 ?side2 ?side3 ?side4 A3.out).mono ?_); (case side1 => repeat (first | exact (Kd.C_below HR0_1.out HB.out) | (with_reducible refine Kd.C_alloc ?_ _) | (with_reducible refine Kd.C_drewN ?_ _) | (with_reducible refine Kd.C_drew ?_))); (case side2 => exact HC0_1.out); (case side3 => repeat (first | exact (Kd.C_below HR0_3.out HB.out) | (with_reducible refine Kd.C_alloc ?_ _) | (with_reducible refine Kd.C_drewN ?_ _) | (with_reducible refine Kd.C_drew ?_))); (case side4 => exact HC0_3.out); rintro e w8 ⟨rfl, hb⟩; have n0_ := Aside0.mk (blk_below (g := gb922) (o := .cells #[.int .i64 a0_0, .slice A0_1 l0_1.length c0_1, .int .i64 a0_2, .slice A0_3 l0_3.length c0_3] 46 (0, 0)) (by (with_reducible repeat (first | refine blk_drewN ?_ _ | refine blk_drew ?_ | refine blk_alloc ?_ _)); exact BK922.out) hb); have n1_ := Aside0.mk (below_step (by repeat (first | (with_reducible first | exact HB.out | apply below_alloc | apply pw_below_drewN | apply below_drew1 | refine below_set ?_ GE922.out) | exact HB.out)) hb); clear BK922; clear HB; have BK922 := n0_; have HB := n1_; clear n0_ n1_; (try clear hb); (try clear hb2); (try clear hk); (try clear hi)))
  repeat (go_quiet (first | ((with_reducible refine gate_dst (N := 2) rfl ?_); refine box_event ?hg (N := 2) ?hd (cs := #[.int .i64 a0_0, .slice A0_1 l0_1.length c0_1, .int .i64 a0_2, .slice A0_3 l0_3.length c0_3]) (t := 46) ?hr ?_; (case hd => rfl); (case hg => rfl); (case hr => first | (go_simp; done) | (go_simp; rfl)); intro gb922 hg w6 hbox hb; have n0_ := Aside0.mk (below_step (by repeat (first | (with_reducible first | exact HB.out | apply below_alloc | apply pw_below_drewN | apply below_drew1) | exact HB.out)) hb); have n1_ := Aside0.mk (hbox); have n2_ := Aside0.mk ((by rw [hg]; exact (below_size (by repeat (first | (with_reducible first | exact HB.out | apply below_alloc | apply pw_below_drewN | apply below_drew1) | exact HB.out))) : w.heap.size ≤ gb922)); have n3_ := Aside0.mk ((by rw [hg]; exact (below_size (by repeat (first | (with_reducible first | exact HB.out | apply below_alloc | apply pw_below_drewN | apply below_drew1) | exact HB.out))) : w.heap.size ≤ gb922)); clear HB; have HB := n0_; have BK922 := n1_; have GW922 := n2_; have GE922 := n3_; clear n0_ n1_ n2_ n3_; clear hb hbox hg; have hcz7_0 : w6.cell? ⟨gb922, 0, none⟩ = some (.int .i64 a0_0) := (blk_cell BK922.out 0).trans rfl; have hcz7_1 : w6.cell? ⟨gb922, 1, none⟩ = some (.slice A0_1 l0_1.length c0_1) := (blk_cell BK922.out 1).trans rfl; have hcz7_2 : w6.cell? ⟨gb922, 2, none⟩ = some (.int .i64 a0_2) := (blk_cell BK922.out 2).trans rfl; have hcz7_3 : w6.cell? ⟨gb922, 3, none⟩ = some (.slice A0_3 l0_3.length c0_3) := (blk_cell BK922.out 3).trans rfl; have hfz7_0 := blk_frozen BK922.out 0; have hfz7_1 := blk_frozen BK922.out 1; have hfz7_2 := blk_frozen BK922.out 2; have hfz7_3 := blk_frozen BK922.out 3) | (go_at_call 70; (with_reducible refine (spec_l04Is.calls k a0_0 _ _ l0_1 a0_2 _ _ l0_3 true _ ?side1 ?side2 ?side3 ?side4 A3.out).mono ?_); (case side1 => repeat (first | exact (Kd.C_below HR0_1.out HB.out) | (with_reducible refine Kd.C_alloc ?_ _) | (with_reducible refine Kd.C_drewN ?_ _) | (with_reducible refine Kd.C_drew ?_))); (case side2 => exact HC0_1.out); (case side3 => repeat (first | exact (Kd.C_below HR0_3.out HB.out) | (with_reducible refine Kd.C_alloc ?_ _) | (with_reducible refine Kd.C_drewN ?_ _) | (with_reducible refine Kd.C_drew ?_))); (case side4 => exact HC0_3.out); rintro e w8 ⟨rfl, hb⟩; have n0_ := Aside0.mk (blk_below (g := gb922) (o := .cells #[.int .i64 a0_0, .slice A0_1 l0_1.length c0_1, .int .i64 a0_2, .slice A0_3 l0_3.length c0_3] 46 (0, 0)) (by (with_reducible repeat (first | refine blk_drewN ?_ _ | refine blk_drew ?_ | refine blk_alloc ?_ _)); exact BK922.out) hb); have n1_ := Aside0.mk (below_step (by repeat (first | (with_reducible first | exact HB.out | apply below_alloc | apply pw_below_drewN | apply below_drew1 | refine below_set ?_ GE922.out) | exact HB.out)) hb); clear BK922; clear HB; have BK922 := n0_; have HB := n1_; clear n0_ n1_; (try clear hb); (try clear hb2); (try clear hk); (try clear hi))); go_upto_region 3 with (first | ((with_reducible refine gate_dst (N := 2) rfl ?_); refine box_event ?hg (N := 2) ?hd (cs := #[.int .i64 a0_0, .slice A0_1 l0_1.length c0_1, .int .i64 a0_2, .slice A0_3 l0_3.length c0_3]) (t := 46) ?hr ?_; (case hd => rfl); (case hg => rfl); (case hr => first | (go_simp; done) | (go_simp; rfl)); intro gb922 hg w6 hbox hb; have n0_ := Aside0.mk (below_step (by repeat (first | (with_reducible first | exact HB.out | apply below_alloc | apply pw_below_drewN | apply below_drew1) | exact HB.out)) hb); have n1_ := Aside0.mk (hbox); have n2_ := Aside0.mk ((by rw [hg]; exact (below_size (by repeat (first | (with_reducible first | exact HB.out | apply below_alloc | apply pw_below_drewN | apply below_drew1) | exact HB.out))) : w.heap.size ≤ gb922)); have n3_ := Aside0.mk ((by rw [hg]; exact (below_size (by repeat (first | (with_reducible first | exact HB.out | apply below_alloc | apply pw_below_drewN | apply below_drew1) | exact HB.out))) : w.heap.size ≤ gb922)); clear HB; have HB := n0_; have BK922 := n1_; have GW922 := n2_; have GE922 := n3_; clear n0_ n1_ n2_ n3_; clear hb hbox hg; have hcz7_0 : w6.cell? ⟨gb922, 0, none⟩ = some (.int .i64 a0_0) := (blk_cell BK922.out 0).trans rfl; have hcz7_1 : w6.cell? ⟨gb922, 1, none⟩ = some (.slice A0_1 l0_1.length c0_1) := (blk_cell BK922.out 1).trans rfl; have hcz7_2 : w6.cell? ⟨gb922, 2, none⟩ = some (.int .i64 a0_2) := (blk_cell BK922.out 2).trans rfl; have hcz7_3 : w6.cell? ⟨gb922, 3, none⟩ = some (.slice A0_3 l0_3.length c0_3) := (blk_cell BK922.out 3).trans rfl; have hfz7_0 := blk_frozen BK922.out 0; have hfz7_1 := blk_frozen BK922.out 1; have hfz7_2 := blk_frozen BK922.out 2; have hfz7_3 := blk_frozen BK922.out 3) | (go_at_call 70; (with_reducible refine (spec_l04Is.calls k a0_0 _ _ l0_1 a0_2 _ _ l0_3 true _ ?side1 ?side2 ?side3 ?side4 A3.out).mono ?_); (case side1 => repeat (first | exact (Kd.C_below HR0_1.out HB.out) | (with_reducible refine Kd.C_alloc ?_ _) | (with_reducible refine Kd.C_drewN ?_ _) | (with_reducible refine Kd.C_drew ?_))); (case side2 => exact HC0_1.out); (case side3 => repeat (first | exact (Kd.C_below HR0_3.out HB.out) | (with_reducible refine Kd.C_alloc ?_ _) | (with_reducible refine Kd.C_drewN ?_ _) | (with_reducible refine Kd.C_drew ?_))); (case side4 => exact HC0_3.out); rintro e w8 ⟨rfl, hb⟩; have n0_ := Aside0.mk (blk_below (g := gb922) (o := .cells #[.int .i64 a0_0, .slice A0_1 l0_1.length c0_1, .int .i64 a0_2, .slice A0_3 l0_3.length c0_3] 46 (0, 0)) (by (with_reducible repeat (first | refine blk_drewN ?_ _ | refine blk_drew ?_ | refine blk_alloc ?_ _)); exact BK922.out) hb); have n1_ := Aside0.mk (below_step (by repeat (first | (with_reducible first | exact HB.out | apply below_alloc | apply pw_below_drewN | apply below_drew1 | refine below_set ?_ GE922.out) | exact HB.out)) hb); clear BK922; clear HB; have BK922 := n0_; have HB := n1_; clear n0_ n1_; (try clear hb); (try clear hb2); (try clear hk); (try clear hi))))
  (try simp only [Act.put, List.setIfInBounds_toArray, List.set_cons_zero, List.set_cons_succ])
  go_cut [16] (fun v16 wc => ∃ (kq : Nat) (x16_4 : Bool), v16 = .bool x16_4 ∧ Aside0 (spec_l04Walk.j0 kq l1 x16_4 a0_0 l0_1 a0_2 l0_3 = some (r1, r2)) ∧ Aside0 (kq ≤ k) ∧ Aside0 (wc.heap[gb922]? = some (.cells #[.int .i64 a0_0, (.slice A0_1 l0_1.length c0_1), .int .i64 a0_2, (.slice A0_3 l0_3.length c0_3)] 46 (0, 0))) ∧ Aside0 (Below w.heap.size w wc))
  case first =>
   have H := HC5.out
   clear HC5
   by_cases c9 : (l1.length : Int) = 0
   ·rw [if_pos c9] at H
    have c9b0 : ((l1.length : Int) == 0) = true := beq_iff_eq.mpr c9
    have c9b1 : ((l1.length : Int) != 0) = false := bne_eq_false_iff_eq.mpr c9
    clear c9
    (first | rw [c9b0] | (simp only [i64_w, i32_w]; rw [c9b0]) | skip)
    have H' := Aside0.mk H
    clear H
    go_wp2
    repeat (go_quiet (fail); try go_wp2)
    go_meet
    case rel => exact ⟨_, (true), (by first | rfl | (simp; done) | (simp [*]; done)), H', ⟨by first | omega | exact Nat.le_refl _⟩, ⟨by (with_reducible repeat (first | refine blk_drewN ?_ _ | refine blk_drew ?_ | refine blk_alloc ?_ _)); exact BK922.out⟩, ⟨by repeat (first | (with_reducible first | exact HB.out | apply below_alloc | apply pw_below_drewN | apply below_drew1 | refine below_set ?_ GE922.out) | exact HB.out)⟩⟩
   ·rw [if_neg c9] at H
    have c9b0 : ((l1.length : Int) == 0) = false := beq_eq_false_iff_ne.mpr c9
    have c9b1 : ((l1.length : Int) != 0) = true := bne_iff_ne.mpr c9
    have c9b2 : ¬ (l1 = []) := fun h_ => c9 (by rw [h_]; rfl)
    (first | rw [c9b0] | (simp only [i64_w, i32_w]; rw [c9b0]) | skip)
    replace H := Option.bind_eq_some_iff.mp H
    obtain ⟨t924, A100, H⟩ := H
    replace H : (spec_l04Walk.j0 k l1 (!t924) a0_0 l0_1 a0_2 l0_3) = some (r1, r2) := H
    have A10 := Aside0.mk A100
    clear A100
    have H' := Aside0.mk H
    clear H
    have hcz11_0 : w8.cell? ⟨gb922, 0, none⟩ = some (.int .i64 a0_0) := (blk_cell BK922.out 0).trans rfl
    have hcz11_1 : w8.cell? ⟨gb922, 1, none⟩ = some (.slice A0_1 l0_1.length c0_1) := (blk_cell BK922.out 1).trans rfl
    have hcz11_2 : w8.cell? ⟨gb922, 2, none⟩ = some (.int .i64 a0_2) := (blk_cell BK922.out 2).trans rfl
    have hcz11_3 : w8.cell? ⟨gb922, 3, none⟩ = some (.slice A0_3 l0_3.length c0_3) := (blk_cell BK922.out 3).trans rfl
    have hfz11_0 := blk_frozen BK922.out 0
    have hfz11_1 := blk_frozen BK922.out 1
    have hfz11_2 := blk_frozen BK922.out 2
    have hfz11_3 := blk_frozen BK922.out 3
    go_wp2_with (first | (go_at_call 62; (with_reducible refine (spec_l02Directed.calls k a0_0 _ _ l0_1 _ _ l1 t924 _ ?side1 ?side2 ?side3 ?side4 A10.out).mono ?_); (case side1 => repeat (first | exact (Kd.C_below HR0_1.out HB.out) | (with_reducible refine Kd.C_alloc ?_ _) | (with_reducible refine Kd.C_drewN ?_ _) | (with_reducible refine Kd.C_drew ?_))); (case side2 => exact HC0_1.out); (case side3 => repeat (first | exact (Kd.C_below HR1.out HB.out) | (with_reducible refine Kd.C_alloc ?_ _) | (with_reducible refine Kd.C_drewN ?_ _) | (with_reducible refine Kd.C_drew ?_))); (case side4 => exact HC1.out); rintro e w12 ⟨rfl, hb⟩; have n0_ := Aside0.mk (blk_below (g := gb922) (o := .cells #[.int .i64 a0_0, .slice A0_1 l0_1.length c0_1, .int .i64 a0_2, .slice A0_3 l0_3.length c0_3] 46 (0, 0)) (by (with_reducible repeat (first | refine blk_drewN ?_ _ | refine blk_drew ?_ | refine blk_alloc ?_ _)); exact BK922.out) hb); have n1_ := Aside0.mk (below_step (by repeat (first | (with_reducible first | exact HB.out | apply below_alloc | apply pw_below_drewN | apply below_drew1 | refine below_set ?_ GE922.out) | exact HB.out)) hb); clear BK922; clear HB; have BK922 := n0_; have HB := n1_; clear n0_ n1_; (try clear hb); (try clear hb2); (try clear hk); (try clear hi)))
    repeat (go_quiet (first | (go_at_call 62; (with_reducible refine (spec_l02Directed.calls k a0_0 _ _ l0_1 _ _ l1 t924 _ ?side1 ?side2 ?side3 ?side4 A10.out).mono ?_); (case side1 => repeat (first | exact (Kd.C_below HR0_1.out HB.out) | (with_reducible refine Kd.C_alloc ?_ _) | (with_reducible refine Kd.C_drewN ?_ _) | (with_reducible refine Kd.C_drew ?_))); (case side2 => exact HC0_1.out); (case side3 => repeat (first | exact (Kd.C_below HR1.out HB.out) | (with_reducible refine Kd.C_alloc ?_ _) | (with_reducible refine Kd.C_drewN ?_ _) | (with_reducible refine Kd.C_drew ?_))); (case side4 => exact HC1.out); rintro e w12 ⟨rfl, hb⟩; have n0_ := Aside0.mk (blk_below (g := gb922) (o := .cells #[.int .i64 a0_0, .slice A0_1 l0_1.length c0_1, .int .i64 a0_2, .slice A0_3 l0_3.length c0_3] 46 (0, 0)) (by (with_reducible repeat (first | refine blk_drewN ?_ _ | refine blk_drew ?_ | refine blk_alloc ?_ _)); exact BK922.out) hb); have n1_ := Aside0.mk (below_step (by repeat (first | (with_reducible first | exact HB.out | apply below_alloc | apply pw_below_drewN | apply below_drew1 | refine below_set ?_ GE922.out) | exact HB.out)) hb); clear BK922; clear HB; have BK922 := n0_; have HB := n1_; clear n0_ n1_; (try clear hb); (try clear hb2); (try clear hk); (try clear hi))); try go_wp2_with (first | (go_at_call 62; (with_reducible refine (spec_l02Directed.calls k a0_0 _ _ l0_1 _ _ l1 t924 _ ?side1 ?side2 ?side3 ?side4 A10.out).mono ?_); (case side1 => repeat (first | exact (Kd.C_below HR0_1.out HB.out) | (with_reducible refine Kd.C_alloc ?_ _) | (with_reducible refine Kd.C_drewN ?_ _) | (with_reducible refine Kd.C_drew ?_))); (case side2 => exact HC0_1.out); (case side3 => repeat (first | exact (Kd.C_below HR1.out HB.out) | (with_reducible refine Kd.C_alloc ?_ _) | (with_reducible refine Kd.C_drewN ?_ _) | (with_reducible refine Kd.C_drew ?_))); (case side4 => exact HC1.out); rintro e w12 ⟨rfl, hb⟩; have n0_ := Aside0.mk (blk_below (g := gb922) (o := .cells #[.int .i64 a0_0, .slice A0_1 l0_1.length c0_1, .int .i64 a0_2, .slice A0_3 l0_3.length c0_3] 46 (0, 0)) (by (with_reducible repeat (first | refine blk_drewN ?_ _ | refine blk_drew ?_ | refine blk_alloc ?_ _)); exact BK922.out) hb); have n1_ := Aside0.mk (below_step (by repeat (first | (with_reducible first | exact HB.out | apply below_alloc | apply pw_below_drewN | apply below_drew1 | refine below_set ?_ GE922.out) | exact HB.out)) hb); clear BK922; clear HB; have BK922 := n0_; have HB := n1_; clear n0_ n1_; (try clear hb); (try clear hb2); (try clear hk); (try clear hi))))
    go_meet
    case rel => exact ⟨_, (!t924), (by first | rfl | (simp; done) | (simp [*]; done)), H', ⟨by first | omega | exact Nat.le_refl _⟩, ⟨by (with_reducible repeat (first | refine blk_drewN ?_ _ | refine blk_drew ?_ | refine blk_alloc ?_ _)); exact BK922.out⟩, ⟨by repeat (first | (with_reducible first | exact HB.out | apply below_alloc | apply pw_below_drewN | apply below_drew1 | refine below_set ?_ GE922.out) | exact HB.out)⟩⟩
  case rest =>
   clear HC5
   try clear c1
   try clear p2
   try clear c4
   try clear c8
   try clear c9
   try clear c9b0
   try clear c9b1
   try clear c9b2
   try clear hcz11_0
   try clear hcz11_1
   try clear hcz11_2
   try clear hcz11_3
   try clear hcz7_0
   try clear hcz7_1
   try clear hcz7_2
   try clear hcz7_3
   try clear hfz11_0
   try clear hfz11_1
   try clear hfz11_2
   try clear hfz11_3
   try clear hfz7_0
   try clear hfz7_1
   try clear hfz7_2
   try clear hfz7_3
   obtain ⟨kq, x16_4, rfl, HA, HJ4, BK922, HB⟩ := hcut
   cases kq with
   | zero => exact absurd HA.out (by simp [spec_l04Walk.j0])
   | succ kj4 =>
    have H := HA.out
    clear HA
    simp only [spec_l04Walk.j0] at H
    by_cases c13 : x16_4 = true
    ·subst c13
     have H1 : (some (([] : List Int), 2)) = some (r1, r2) := by rw [if_pos rfl] at H; exact H
     clear H
     have H := H1
     clear H1
     simp only [Option.some.injEq, Prod.mk.injEq] at H
     obtain ⟨rfl, rfl⟩ := H
     go_wp2
     repeat (go_quiet (fail); try go_wp2)
     go_ret2
     exact ⟨_, by first | rfl | (simp [errW_none, errW_some] <;> rfl) | (simp [*, errW_none, errW_some] <;> rfl), by first | exact Kd.R_nil _ _ _ _ _ | exact Kd.N_nil _ _ _ _ _ | exact Kd.V_nil _ _ _ _ _ | exact Kd.Q_nil _ _ _ _ _ | exact Kd.S_nil _ _ _ _ _, by repeat (first | (with_reducible first | exact HB.out | apply below_alloc | apply pw_below_drewN | apply below_drew1 | refine below_set ?_ GE922.out) | exact HB.out)⟩
    ·replace c13 := Bool.eq_false_iff.mpr c13
     subst c13
     have H1 : ((spec_l02Closed.f kj4 a0_0 l0_1 l1).bind fun t925 => (if t925 = true then (spec_l04Walk.l0 kj4 l1 (([] : List Int)) 0 a0_0 l0_1 a0_2 l0_3) else (some (([] : List Int), 5)))) = some (r1, r2) := by rw [if_neg (show ¬ (false = true) by decide)] at H; exact H
     clear H
     have H := H1
     clear H1
     replace H := Option.bind_eq_some_iff.mp H
     obtain ⟨t925, A140, H⟩ := H
     replace H : (if t925 = true then (spec_l04Walk.l0 kj4 l1 (([] : List Int)) 0 a0_0 l0_1 a0_2 l0_3) else (some (([] : List Int), 5))) = some (r1, r2) := H
     have A14 := Aside0.mk A140
     clear A140
     by_cases c15 : t925 = true
     ·subst c15
      have H1 : (spec_l04Walk.l0 kj4 l1 (([] : List Int)) 0 a0_0 l0_1 a0_2 l0_3) = some (r1, r2) := by rw [if_pos rfl] at H; exact H
      clear H
      have H := H1
      clear H1
      obtain ⟨y926, hy926⟩ : ∃ y_ : List Int, y_ = (([] : List Int)) := ⟨_, rfl⟩
      replace H : (spec_l04Walk.l0 kj4 l1 y926 0 a0_0 l0_1 a0_2 l0_3) = some (r1, r2) := by first | (rw [hy926]; with_reducible exact H) | (have H2_ := (Option.bind_some _ _).symm.trans H; rw [hy926]; with_reducible exact H2_) | (have H2_ := (Option.bind_some _ _).symm.trans H; with_reducible exact H2_) | with_reducible exact H | (rw [hy926]; exact H) | exact H
      have Ny926 := Aside0.mk hy926
      clear hy926
      have H' := Aside0.mk H
      clear H
      have hcz16_0 : wc.cell? ⟨gb922, 0, none⟩ = some (.int .i64 a0_0) := (blk_cell BK922.out 0).trans rfl
      have hcz16_1 : wc.cell? ⟨gb922, 1, none⟩ = some (.slice A0_1 l0_1.length c0_1) := (blk_cell BK922.out 1).trans rfl
      have hcz16_2 : wc.cell? ⟨gb922, 2, none⟩ = some (.int .i64 a0_2) := (blk_cell BK922.out 2).trans rfl
      have hcz16_3 : wc.cell? ⟨gb922, 3, none⟩ = some (.slice A0_3 l0_3.length c0_3) := (blk_cell BK922.out 3).trans rfl
      have hfz16_0 := blk_frozen BK922.out 0
      have hfz16_1 := blk_frozen BK922.out 1
      have hfz16_2 := blk_frozen BK922.out 2
      have hfz16_3 := blk_frozen BK922.out 3
      go_wp2_with (first | (go_at_call 63; (with_reducible refine (spec_l02Closed.calls kj4 a0_0 _ _ l0_1 _ _ l1 true _ ?side1 ?side2 ?side3 ?side4 A14.out).mono ?_); (case side1 => repeat (first | exact (Kd.C_below HR0_1.out HB.out) | (with_reducible refine Kd.C_alloc ?_ _) | (with_reducible refine Kd.C_drewN ?_ _) | (with_reducible refine Kd.C_drew ?_))); (case side2 => exact HC0_1.out); (case side3 => repeat (first | exact (Kd.C_below HR1.out HB.out) | (with_reducible refine Kd.C_alloc ?_ _) | (with_reducible refine Kd.C_drewN ?_ _) | (with_reducible refine Kd.C_drew ?_))); (case side4 => exact HC1.out); rintro e w17 ⟨rfl, hb⟩; have n0_ := Aside0.mk (blk_below (g := gb922) (o := .cells #[.int .i64 a0_0, .slice A0_1 l0_1.length c0_1, .int .i64 a0_2, .slice A0_3 l0_3.length c0_3] 46 (0, 0)) (by (with_reducible repeat (first | refine blk_drewN ?_ _ | refine blk_drew ?_ | refine blk_alloc ?_ _)); exact BK922.out) hb); have n1_ := Aside0.mk (below_step (by repeat (first | (with_reducible first | exact HB.out | apply below_alloc | apply pw_below_drewN | apply below_drew1 | refine below_set ?_ GE922.out) | exact HB.out)) hb); clear BK922; clear HB; have BK922 := n0_; have HB := n1_; clear n0_ n1_; (try clear hb); (try clear hb2); (try clear hk); (try clear hi)) | ((with_reducible refine gate_dst (N := 33) rfl ?_); refine Kd.R_lit (Kd.int .i64) _ 2 ?hg (N := 33) ?hd (xs := ([] : List Int)) (inner := []) (ok := fun _ => True) (okp := fun _ => True) ?hr ?hp (fun _ hk => hk) trivial (Below.refl _ _) (Nat.le_refl _) (by simp) ?_; (case hd => rfl); (case hg => rfl); (case hr => first | (go_simp; done) | (go_simp; rfl)); (case hp => exact (Reps.none _ _)); intro v927 w18 ho19 hb hg_ hnew_; clear hg_ hnew_; (first | rw [← Ny926.out] at ho19 | (simp only [Int.reduceToNat] at ho19; rw [← Ny926.out] at ho19)); have n0_ := Aside0.mk (Kd.R_lower ho19 (below_size (by repeat (first | (with_reducible first | exact HB.out | apply below_alloc | apply pw_below_drewN | apply below_drew1 | refine below_set ?_ GE922.out) | exact HB.out)))); have n1_ := Aside0.mk (blk_below (g := gb922) (o := .cells #[.int .i64 a0_0, .slice A0_1 l0_1.length c0_1, .int .i64 a0_2, .slice A0_3 l0_3.length c0_3] 46 (0, 0)) (by (with_reducible repeat (first | refine blk_drewN ?_ _ | refine blk_drew ?_ | refine blk_alloc ?_ _)); exact BK922.out) hb); have n2_ := Aside0.mk (below_step (by repeat (first | (with_reducible first | exact HB.out | apply below_alloc | apply pw_below_drewN | apply below_drew1 | refine below_set ?_ GE922.out) | exact HB.out)) hb); clear BK922; clear HB; have HO928 := n0_; have BK922 := n1_; have HB := n2_; clear n0_ n1_ n2_; clear hb ho19))
      repeat (go_quiet (first | (go_at_call 63; (with_reducible refine (spec_l02Closed.calls kj4 a0_0 _ _ l0_1 _ _ l1 true _ ?side1 ?side2 ?side3 ?side4 A14.out).mono ?_); (case side1 => repeat (first | exact (Kd.C_below HR0_1.out HB.out) | (with_reducible refine Kd.C_alloc ?_ _) | (with_reducible refine Kd.C_drewN ?_ _) | (with_reducible refine Kd.C_drew ?_))); (case side2 => exact HC0_1.out); (case side3 => repeat (first | exact (Kd.C_below HR1.out HB.out) | (with_reducible refine Kd.C_alloc ?_ _) | (with_reducible refine Kd.C_drewN ?_ _) | (with_reducible refine Kd.C_drew ?_))); (case side4 => exact HC1.out); rintro e w17 ⟨rfl, hb⟩; have n0_ := Aside0.mk (blk_below (g := gb922) (o := .cells #[.int .i64 a0_0, .slice A0_1 l0_1.length c0_1, .int .i64 a0_2, .slice A0_3 l0_3.length c0_3] 46 (0, 0)) (by (with_reducible repeat (first | refine blk_drewN ?_ _ | refine blk_drew ?_ | refine blk_alloc ?_ _)); exact BK922.out) hb); have n1_ := Aside0.mk (below_step (by repeat (first | (with_reducible first | exact HB.out | apply below_alloc | apply pw_below_drewN | apply below_drew1 | refine below_set ?_ GE922.out) | exact HB.out)) hb); clear BK922; clear HB; have BK922 := n0_; have HB := n1_; clear n0_ n1_; (try clear hb); (try clear hb2); (try clear hk); (try clear hi)) | ((with_reducible refine gate_dst (N := 33) rfl ?_); refine Kd.R_lit (Kd.int .i64) _ 2 ?hg (N := 33) ?hd (xs := ([] : List Int)) (inner := []) (ok := fun _ => True) (okp := fun _ => True) ?hr ?hp (fun _ hk => hk) trivial (Below.refl _ _) (Nat.le_refl _) (by simp) ?_; (case hd => rfl); (case hg => rfl); (case hr => first | (go_simp; done) | (go_simp; rfl)); (case hp => exact (Reps.none _ _)); intro v927 w18 ho19 hb hg_ hnew_; clear hg_ hnew_; (first | rw [← Ny926.out] at ho19 | (simp only [Int.reduceToNat] at ho19; rw [← Ny926.out] at ho19)); have n0_ := Aside0.mk (Kd.R_lower ho19 (below_size (by repeat (first | (with_reducible first | exact HB.out | apply below_alloc | apply pw_below_drewN | apply below_drew1 | refine below_set ?_ GE922.out) | exact HB.out)))); have n1_ := Aside0.mk (blk_below (g := gb922) (o := .cells #[.int .i64 a0_0, .slice A0_1 l0_1.length c0_1, .int .i64 a0_2, .slice A0_3 l0_3.length c0_3] 46 (0, 0)) (by (with_reducible repeat (first | refine blk_drewN ?_ _ | refine blk_drew ?_ | refine blk_alloc ?_ _)); exact BK922.out) hb); have n2_ := Aside0.mk (below_step (by repeat (first | (with_reducible first | exact HB.out | apply below_alloc | apply pw_below_drewN | apply below_drew1 | refine below_set ?_ GE922.out) | exact HB.out)) hb); clear BK922; clear HB; have HO928 := n0_; have BK922 := n1_; have HB := n2_; clear n0_ n1_ n2_; clear hb ho19)); try go_wp2_with (first | (go_at_call 63; (with_reducible refine (spec_l02Closed.calls kj4 a0_0 _ _ l0_1 _ _ l1 true _ ?side1 ?side2 ?side3 ?side4 A14.out).mono ?_); (case side1 => repeat (first | exact (Kd.C_below HR0_1.out HB.out) | (with_reducible refine Kd.C_alloc ?_ _) | (with_reducible refine Kd.C_drewN ?_ _) | (with_reducible refine Kd.C_drew ?_))); (case side2 => exact HC0_1.out); (case side3 => repeat (first | exact (Kd.C_below HR1.out HB.out) | (with_reducible refine Kd.C_alloc ?_ _) | (with_reducible refine Kd.C_drewN ?_ _) | (with_reducible refine Kd.C_drew ?_))); (case side4 => exact HC1.out); rintro e w17 ⟨rfl, hb⟩; have n0_ := Aside0.mk (blk_below (g := gb922) (o := .cells #[.int .i64 a0_0, .slice A0_1 l0_1.length c0_1, .int .i64 a0_2, .slice A0_3 l0_3.length c0_3] 46 (0, 0)) (by (with_reducible repeat (first | refine blk_drewN ?_ _ | refine blk_drew ?_ | refine blk_alloc ?_ _)); exact BK922.out) hb); have n1_ := Aside0.mk (below_step (by repeat (first | (with_reducible first | exact HB.out | apply below_alloc | apply pw_below_drewN | apply below_drew1 | refine below_set ?_ GE922.out) | exact HB.out)) hb); clear BK922; clear HB; have BK922 := n0_; have HB := n1_; clear n0_ n1_; (try clear hb); (try clear hb2); (try clear hk); (try clear hi)) | ((with_reducible refine gate_dst (N := 33) rfl ?_); refine Kd.R_lit (Kd.int .i64) _ 2 ?hg (N := 33) ?hd (xs := ([] : List Int)) (inner := []) (ok := fun _ => True) (okp := fun _ => True) ?hr ?hp (fun _ hk => hk) trivial (Below.refl _ _) (Nat.le_refl _) (by simp) ?_; (case hd => rfl); (case hg => rfl); (case hr => first | (go_simp; done) | (go_simp; rfl)); (case hp => exact (Reps.none _ _)); intro v927 w18 ho19 hb hg_ hnew_; clear hg_ hnew_; (first | rw [← Ny926.out] at ho19 | (simp only [Int.reduceToNat] at ho19; rw [← Ny926.out] at ho19)); have n0_ := Aside0.mk (Kd.R_lower ho19 (below_size (by repeat (first | (with_reducible first | exact HB.out | apply below_alloc | apply pw_below_drewN | apply below_drew1 | refine below_set ?_ GE922.out) | exact HB.out)))); have n1_ := Aside0.mk (blk_below (g := gb922) (o := .cells #[.int .i64 a0_0, .slice A0_1 l0_1.length c0_1, .int .i64 a0_2, .slice A0_3 l0_3.length c0_3] 46 (0, 0)) (by (with_reducible repeat (first | refine blk_drewN ?_ _ | refine blk_drew ?_ | refine blk_alloc ?_ _)); exact BK922.out) hb); have n2_ := Aside0.mk (below_step (by repeat (first | (with_reducible first | exact HB.out | apply below_alloc | apply pw_below_drewN | apply below_drew1 | refine below_set ?_ GE922.out) | exact HB.out)) hb); clear BK922; clear HB; have HO928 := n0_; have BK922 := n1_; have HB := n2_; clear n0_ n1_ n2_; clear hb ho19)))
      go_loopg [6, 7] kj4 (fun kq v6 v7 w' => ∃ (x6_2 : List Int) (x7_2 : Int), v7 = .int .i64 x7_2 ∧ Aside0 (spec_l04Walk.l0 kq l1 x6_2 x7_2 a0_0 l0_1 a0_2 l0_3 = some (r1, r2)) ∧ Aside0 (kq ≤ kj4) ∧ Aside0 (Kd.R (Kd.int .i64) 2 w' w.heap.size (fun _ => True) v6 x6_2) ∧ Aside0 (w'.heap[gb922]? = some (.cells #[.int .i64 a0_0, (.slice A0_1 l0_1.length c0_1), .int .i64 a0_2, (.slice A0_3 l0_3.length c0_3)] 46 (0, 0))) ∧ Aside0 (Below w.heap.size w w'))
      case atStart => exact ⟨(y926), (0), (by first | rfl | (simp; done) | (simp [*]; done)), H', ⟨Nat.le_refl _⟩, ⟨by (with_reducible repeat (first | apply Kd.R_alloc | apply Kd.R_drewN | apply Kd.R_drew)); exact HO928.out⟩, ⟨by (with_reducible repeat (first | refine blk_drewN ?_ _ | refine blk_drew ?_ | refine blk_alloc ?_ _)); exact BK922.out⟩, ⟨by repeat (first | (with_reducible first | exact HB.out | apply below_alloc | apply pw_below_drewN | apply below_drew1 | refine below_set ?_ GE922.out) | exact HB.out)⟩⟩
      case round =>
       clear H'
       try clear c1
       try clear p2
       try clear c4
       try clear c8
       try clear c9
       try clear c9b0
       try clear c9b1
       try clear c9b2
       try clear c13
       try clear c15
       try clear hcz11_0
       try clear hcz11_1
       try clear hcz11_2
       try clear hcz11_3
       try clear hcz16_0
       try clear hcz16_1
       try clear hcz16_2
       try clear hcz16_3
       try clear hcz7_0
       try clear hcz7_1
       try clear hcz7_2
       try clear hcz7_3
       try clear hfz11_0
       try clear hfz11_1
       try clear hfz11_2
       try clear hfz11_3
       try clear hfz16_0
       try clear hfz16_1
       try clear hfz16_2
       try clear hfz16_3
       try clear hfz7_0
       try clear hfz7_1
       try clear hfz7_2
       try clear hfz7_3
       try clear p2
       obtain ⟨x6_2, x7_2, rfl, HA, HK2, HO_6, BK922, HB⟩ := hrel
       cases gk with
       | zero => exact absurd HA.out (by simp [spec_l04Walk.l0])
       | succ k2 =>
        have H := HA.out
        clear HA
        simp only [spec_l04Walk.l0] at H
        by_cases c20 : x7_2 < a0_2
        ·rw [if_pos c20] at H
         have c20b0 : decide (x7_2 < a0_2) = true := decide_eq_true c20
         clear c20
         have H' := Aside0.mk H
         clear H
         have hcz21_0 : wr.cell? ⟨gb922, 0, none⟩ = some (.int .i64 a0_0) := (blk_cell BK922.out 0).trans rfl
         have hcz21_1 : wr.cell? ⟨gb922, 1, none⟩ = some (.slice A0_1 l0_1.length c0_1) := (blk_cell BK922.out 1).trans rfl
         have hcz21_2 : wr.cell? ⟨gb922, 2, none⟩ = some (.int .i64 a0_2) := (blk_cell BK922.out 2).trans rfl
         have hcz21_3 : wr.cell? ⟨gb922, 3, none⟩ = some (.slice A0_3 l0_3.length c0_3) := (blk_cell BK922.out 3).trans rfl
         have hfz21_0 := blk_frozen BK922.out 0
         have hfz21_1 := blk_frozen BK922.out 1
         have hfz21_2 := blk_frozen BK922.out 2
         have hfz21_3 := blk_frozen BK922.out 3
         go_wp2
         repeat (go_quiet (fail); try go_wp2)
         go_loopg [8, 9] k2 (fun kq v8 v9 w' => ∃ (x8_3 : Int) (x9_3 : Int), v8 = .int .i64 x8_3 ∧ v9 = .int .i64 x9_3 ∧ Aside0 (spec_l04Walk.l1 kq l1 x6_2 x7_2 x8_3 x9_3 a0_0 l0_1 a0_2 l0_3 = some (r1, r2)) ∧ Aside0 (kq ≤ k2) ∧ Aside0 (Kd.R (Kd.int .i64) 2 w' w.heap.size (fun _ => True) u6 x6_2) ∧ Aside0 (w'.heap[gb922]? = some (.cells #[.int .i64 a0_0, (.slice A0_1 l0_1.length c0_1), .int .i64 a0_2, (.slice A0_3 l0_3.length c0_3)] 46 (0, 0))) ∧ Aside0 (Below w.heap.size w w'))
         case atStart => exact ⟨(x7_2), (0), (by first | rfl | (simp; done) | (simp [*]; done)), (by first | rfl | (simp; done) | (simp [*]; done)), H', ⟨Nat.le_refl _⟩, ⟨by (with_reducible repeat (first | apply Kd.R_alloc | apply Kd.R_drewN | apply Kd.R_drew)); exact HO_6.out⟩, ⟨by (with_reducible repeat (first | refine blk_drewN ?_ _ | refine blk_drew ?_ | refine blk_alloc ?_ _)); exact BK922.out⟩, ⟨by repeat (first | (with_reducible first | exact HB.out | apply below_alloc | apply pw_below_drewN | apply below_drew1 | refine below_set ?_ GE922.out) | exact HB.out)⟩⟩
         case round =>
          clear H'
          try clear c1
          try clear c2
          try clear p2
          try clear c4
          try clear c8
          try clear c9
          try clear c9b0
          try clear c9b1
          try clear c9b2
          try clear c13
          try clear c15
          try clear c20
          try clear c20b0
          try clear hcz11_0
          try clear hcz11_1
          try clear hcz11_2
          try clear hcz11_3
          try clear hcz16_0
          try clear hcz16_1
          try clear hcz16_2
          try clear hcz16_3
          try clear hcz21_0
          try clear hcz21_1
          try clear hcz21_2
          try clear hcz21_3
          try clear hcz7_0
          try clear hcz7_1
          try clear hcz7_2
          try clear hcz7_3
          try clear hfz11_0
          try clear hfz11_1
          try clear hfz11_2
          try clear hfz11_3
          try clear hfz16_0
          try clear hfz16_1
          try clear hfz16_2
          try clear hfz16_3
          try clear hfz21_0
          try clear hfz21_1
          try clear hfz21_2
          try clear hfz21_3
          try clear hfz7_0
          try clear hfz7_1
          try clear hfz7_2
          try clear hfz7_3
          try clear p2
          obtain ⟨x8_3, x9_3, rfl, rfl, HA, HK3, HO_6, BK922, HB⟩ := hrel
          cases gk with
          | zero => exact absurd HA.out (by simp [spec_l04Walk.l1])
          | succ k3 =>
           have H := HA.out
           clear HA
           simp only [spec_l04Walk.l1] at H
           by_cases c22 : x9_3 < (l1.length : Int)
           ·rw [if_pos c22] at H
            have c22b0 : decide (x9_3 < (l1.length : Int)) = true := decide_eq_true c22
            clear c22
            by_cases c23 : 0 ≤ x9_3
            ·rw [if_pos c23] at H
             have c23b0 : decide (0 ≤ x9_3) = true := decide_eq_true c23
             clear c23
             obtain ⟨ji24, hji24⟩ : ∃ j_ : Int, (wrap64 (Int.tdiv (rd l1 x9_3) 2)) = j_ := ⟨_, rfl⟩
             (try rw [hji24])
             replace H : (if 0 ≤ (ji24) then (if (ji24) < (l0_3.length : Int) then (if (Int.tmod (rd l1 x9_3) 2) = 0 then (if 0 ≤ x8_3 then (if x8_3 < ((rd_L1 l0_3 (ji24)).length : Int) then (spec_l04Walk.l1 k3 l1 x6_2 x7_2 (rd (rd_L1 l0_3 (ji24)) x8_3) (wrap64 (x9_3 + 1)) a0_0 l0_1 a0_2 l0_3) else (none)) else (none)) else (spec_l04Walk.l2 k3 l1 x6_2 x7_2 x8_3 x9_3 (rd_L1 l0_3 (ji24)) 0 a0_0 l0_1 a0_2 l0_3)) else (none)) else (none)) = some (r1, r2) := by first | (rw [hji24] at H; exact H) | (simp only [hji24] at H ⊢; exact H)
             have hji24w : (IntKind.i64.wrap (Int.tdiv (rd l1 x9_3) 2)) = ji24 := (i64_w _).trans hji24
             by_cases c25 : 0 ≤ (ji24)
             ·rw [if_pos c25] at H
              have c25b0 : decide (0 ≤ (ji24)) = true := decide_eq_true c25
              clear c25
              by_cases c26 : (ji24) < (l0_3.length : Int)
              ·rw [if_pos c26] at H
               have c26b0 : decide ((ji24) < (l0_3.length : Int)) = true := decide_eq_true c26
               clear c26
               by_cases c27 : (Int.tmod (rd l1 x9_3) 2) = 0
               ·rw [if_pos c27] at H
                have c27b0 : ((Int.tmod (rd l1 x9_3) 2) == 0) = true := beq_iff_eq.mpr c27
                have c27b1 : ((Int.tmod (rd l1 x9_3) 2) != 0) = false := bne_eq_false_iff_eq.mpr c27
                clear c27
                by_cases c28 : 0 ≤ x8_3
                ·rw [if_pos c28] at H
                 have c28b0 : decide (0 ≤ x8_3) = true := decide_eq_true c28
                 clear c28
                 by_cases c29 : x8_3 < ((rd_L1 l0_3 (ji24)).length : Int)
                 ·rw [if_pos c29] at H
                  have c29b0 : decide (x8_3 < ((rd_L1 l0_3 (ji24)).length : Int)) = true := decide_eq_true c29
                  clear c29
                  have H' := Aside0.mk H
                  clear H
                  have hcz30_0 : wr.cell? ⟨gb922, 0, none⟩ = some (.int .i64 a0_0) := (blk_cell BK922.out 0).trans rfl
                  have hcz30_1 : wr.cell? ⟨gb922, 1, none⟩ = some (.slice A0_1 l0_1.length c0_1) := (blk_cell BK922.out 1).trans rfl
                  have hcz30_2 : wr.cell? ⟨gb922, 2, none⟩ = some (.int .i64 a0_2) := (blk_cell BK922.out 2).trans rfl
                  have hcz30_3 : wr.cell? ⟨gb922, 3, none⟩ = some (.slice A0_3 l0_3.length c0_3) := (blk_cell BK922.out 3).trans rfl
                  have hfz30_0 := blk_frozen BK922.out 0
                  have hfz30_1 := blk_frozen BK922.out 1
                  have hfz30_2 := blk_frozen BK922.out 2
                  have hfz30_3 := blk_frozen BK922.out 3
                  have p932 : 0 ≤ (x9_3 : Int) := of_decide_eq_true (by assumption)
                  have q932 : x9_3 < (l1.length : Int) := of_decide_eq_true (by assumption)
                  obtain ⟨ad932, e932, hx932_0⟩ := Kd.at_int HR1.out x9_3 p932 q932
                  cases e932
                  replace hx932_0 := (HB.out.cell (World.block_lt_of_cell? w _ hx932_0)).trans hx932_0
                  replace p932 := eq_true p932
                  replace q932 := eq_true q932
                  have p933 : 0 ≤ ((ji24) : Int) := of_decide_eq_true (by assumption)
                  have q933 : (ji24) < (l0_3.length : Int) := of_decide_eq_true (by assumption)
                  obtain ⟨ad933, A933_0, c933_0, e933, hx933_0, hl933_0, hi933_0⟩ := at_L1 HR0_3.out (ji24) p933 q933
                  cases e933
                  replace hx933_0 := (HB.out.cell (World.block_lt_of_cell? w _ hx933_0)).trans hx933_0
                  have HR933_0 := Aside0.mk hi933_0
                  have HC933_0 := Aside0.mk hl933_0
                  clear hi933_0 hl933_0
                  replace p933 := eq_true p933
                  replace q933 := eq_true q933
                  have p934 : 0 ≤ (x9_3 : Int) := of_decide_eq_true (by assumption)
                  have q934 : x9_3 < (l1.length : Int) := of_decide_eq_true (by assumption)
                  obtain ⟨ad934, e934, hx934_0⟩ := Kd.at_int HR1.out x9_3 p934 q934
                  obtain rfl : ad932 = ad934 := (by injection e934)
                  replace hx934_0 := (HB.out.cell (World.block_lt_of_cell? w _ hx934_0)).trans hx934_0
                  replace p934 := eq_true p934
                  replace q934 := eq_true q934
                  have p935 : 0 ≤ (x8_3 : Int) := of_decide_eq_true (by assumption)
                  have q935 : x8_3 < ((rd_L1 l0_3 (ji24)).length : Int) := of_decide_eq_true (by assumption)
                  obtain ⟨ad935, e935, hx935_0⟩ := Kd.at_int HR933_0.out x8_3 p935 q935
                  cases e935
                  replace hx935_0 := (HB.out.cell (World.block_lt_of_cell? w _ hx935_0)).trans hx935_0
                  replace p935 := eq_true p935
                  replace q935 := eq_true q935
                  go_wp2
                  repeat (go_quiet (fail); try go_wp2)
                  first | (first | go_roundg k3 | (refine Handed.intro k3 ?measure ?_; rotate_left; go_step; (try simp only [add_plain]); (repeat apply Exists.intro); refine ⟨?rel, rfl⟩)) | ((try subst hji24); (first | go_roundg k3 | (refine Handed.intro k3 ?measure ?_; rotate_left; go_step; (try simp only [add_plain]); (repeat apply Exists.intro); refine ⟨?rel, rfl⟩)))
                  case measure => have := HJ4.out; have := HK2.out; have := HK3.out; omega
                  case rel => exact ⟨(rd (rd_L1 l0_3 (ji24)) x8_3), (wrap64 (x9_3 + 1)), (by first | rfl | (simp; done) | (simp only [← hji24] <;> (first | rfl | simp)) | (simp [*]; done)), (by first | rfl | (simp; done) | (simp [*]; done)), H', ⟨by have := HJ4.out; have := HK2.out; have := HK3.out; omega⟩, ⟨by (with_reducible repeat (first | apply Kd.R_alloc | apply Kd.R_drewN | apply Kd.R_drew)); exact HO_6.out⟩, ⟨by (with_reducible repeat (first | refine blk_drewN ?_ _ | refine blk_drew ?_ | refine blk_alloc ?_ _)); exact BK922.out⟩, ⟨by repeat (first | (with_reducible first | exact HB.out | apply below_alloc | apply pw_below_drewN | apply below_drew1 | refine below_set ?_ GE922.out) | exact HB.out)⟩⟩
                 ·rw [if_neg c29] at H
                  exact absurd H (by simp)
                ·rw [if_neg c28] at H
                 exact absurd H (by simp)
               ·rw [if_neg c27] at H
                have c27b0 : ((Int.tmod (rd l1 x9_3) 2) == 0) = false := beq_eq_false_iff_ne.mpr c27
                have c27b1 : ((Int.tmod (rd l1 x9_3) 2) != 0) = true := bne_iff_ne.mpr c27
                have H' := Aside0.mk H
                clear H
                have hcz31_0 : wr.cell? ⟨gb922, 0, none⟩ = some (.int .i64 a0_0) := (blk_cell BK922.out 0).trans rfl
                have hcz31_1 : wr.cell? ⟨gb922, 1, none⟩ = some (.slice A0_1 l0_1.length c0_1) := (blk_cell BK922.out 1).trans rfl
                have hcz31_2 : wr.cell? ⟨gb922, 2, none⟩ = some (.int .i64 a0_2) := (blk_cell BK922.out 2).trans rfl
                have hcz31_3 : wr.cell? ⟨gb922, 3, none⟩ = some (.slice A0_3 l0_3.length c0_3) := (blk_cell BK922.out 3).trans rfl
                have hfz31_0 := blk_frozen BK922.out 0
                have hfz31_1 := blk_frozen BK922.out 1
                have hfz31_2 := blk_frozen BK922.out 2
                have hfz31_3 := blk_frozen BK922.out 3
                have p932 : 0 ≤ (x9_3 : Int) := of_decide_eq_true (by assumption)
                have q932 : x9_3 < (l1.length : Int) := of_decide_eq_true (by assumption)
                obtain ⟨ad932, e932, hx932_0⟩ := Kd.at_int HR1.out x9_3 p932 q932
                cases e932
                replace hx932_0 := (HB.out.cell (World.block_lt_of_cell? w _ hx932_0)).trans hx932_0
                replace p932 := eq_true p932
                replace q932 := eq_true q932
                have p933 : 0 ≤ ((ji24) : Int) := of_decide_eq_true (by assumption)
                have q933 : (ji24) < (l0_3.length : Int) := of_decide_eq_true (by assumption)
                obtain ⟨ad933, A933_0, c933_0, e933, hx933_0, hl933_0, hi933_0⟩ := at_L1 HR0_3.out (ji24) p933 q933
                cases e933
                replace hx933_0 := (HB.out.cell (World.block_lt_of_cell? w _ hx933_0)).trans hx933_0
                have HR933_0 := Aside0.mk hi933_0
                have HC933_0 := Aside0.mk hl933_0
                clear hi933_0 hl933_0
                replace p933 := eq_true p933
                replace q933 := eq_true q933
                have p934 : 0 ≤ (x9_3 : Int) := of_decide_eq_true (by assumption)
                have q934 : x9_3 < (l1.length : Int) := of_decide_eq_true (by assumption)
                obtain ⟨ad934, e934, hx934_0⟩ := Kd.at_int HR1.out x9_3 p934 q934
                obtain rfl : ad932 = ad934 := (by injection e934)
                replace hx934_0 := (HB.out.cell (World.block_lt_of_cell? w _ hx934_0)).trans hx934_0
                replace p934 := eq_true p934
                replace q934 := eq_true q934
                go_wp2
                repeat (go_quiet (fail); try go_wp2)
                go_loopg [11] k3 (fun kq v11 w' => ∃ (x11_4 : Int), v11 = .int .i64 x11_4 ∧ Aside0 (spec_l04Walk.l2 kq l1 x6_2 x7_2 x8_3 x9_3 (rd_L1 l0_3 (ji24)) x11_4 a0_0 l0_1 a0_2 l0_3 = some (r1, r2)) ∧ Aside0 (kq ≤ k3) ∧ Aside0 (Kd.R (Kd.int .i64) 2 w' w.heap.size (fun _ => True) u6 x6_2) ∧ Aside0 (w'.heap[gb922]? = some (.cells #[.int .i64 a0_0, (.slice A0_1 l0_1.length c0_1), .int .i64 a0_2, (.slice (some ad933) l0_3.length c0_3)] 46 (0, 0))) ∧ Aside0 (Below w.heap.size w w'))
                case atStart => exact ⟨(0), (by first | rfl | (simp; done) | (simp [*]; done)), H', ⟨Nat.le_refl _⟩, ⟨by (with_reducible repeat (first | apply Kd.R_alloc | apply Kd.R_drewN | apply Kd.R_drew)); exact HO_6.out⟩, ⟨by (with_reducible repeat (first | refine blk_drewN ?_ _ | refine blk_drew ?_ | refine blk_alloc ?_ _)); exact BK922.out⟩, ⟨by repeat (first | (with_reducible first | exact HB.out | apply below_alloc | apply pw_below_drewN | apply below_drew1 | refine below_set ?_ GE922.out) | exact HB.out)⟩⟩
                case round =>
                 clear H'
                 try clear c1
                 try clear c2
                 try clear p2
                 try clear c4
                 try clear p6
                 try clear c8
                 try clear c9
                 try clear c9b0
                 try clear c9b1
                 try clear c9b2
                 try clear p9
                 try clear q9
                 try clear hx9
                 try clear c13
                 try clear c15
                 try clear c20
                 try clear c20b0
                 try clear c22
                 try clear c22b0
                 try clear c23
                 try clear c23b0
                 try clear c25
                 try clear c25b0
                 try clear c26
                 try clear c26b0
                 try clear c27
                 try clear c27b0
                 try clear c27b1
                 try clear c28
                 try clear c28b0
                 try clear c29
                 try clear c29b0
                 try clear hcz11_0
                 try clear hcz11_1
                 try clear hcz11_2
                 try clear hcz11_3
                 try clear hcz16_0
                 try clear hcz16_1
                 try clear hcz16_2
                 try clear hcz16_3
                 try clear hcz21_0
                 try clear hcz21_1
                 try clear hcz21_2
                 try clear hcz21_3
                 try clear hcz30_0
                 try clear hcz30_1
                 try clear hcz30_2
                 try clear hcz30_3
                 try clear hcz31_0
                 try clear hcz31_1
                 try clear hcz31_2
                 try clear hcz31_3
                 try clear hcz7_0
                 try clear hcz7_1
                 try clear hcz7_2
                 try clear hcz7_3
                 try clear hfz11_0
                 try clear hfz11_1
                 try clear hfz11_2
                 try clear hfz11_3
                 try clear hfz16_0
                 try clear hfz16_1
                 try clear hfz16_2
                 try clear hfz16_3
                 try clear hfz21_0
                 try clear hfz21_1
                 try clear hfz21_2
                 try clear hfz21_3
                 try clear hfz30_0
                 try clear hfz30_1
                 try clear hfz30_2
                 try clear hfz30_3
                 try clear hfz31_0
                 try clear hfz31_1
                 try clear hfz31_2
                 try clear hfz31_3
                 try clear hfz7_0
                 try clear hfz7_1
                 try clear hfz7_2
                 try clear hfz7_3
                 try clear hx932_0
                 try clear hx933_0
                 try clear hx934_0
                 try clear hx935_0
                 try clear p2
                 try clear p932
                 try clear p933
                 try clear p934
                 try clear p935
                 try clear q932
                 try clear q933
                 try clear q934
                 try clear q935
                 obtain ⟨x11_4, rfl, HA, HK4, HO_6, BK922, HB⟩ := hrel
                 cases gk with
                 | zero => exact absurd HA.out (by simp [spec_l04Walk.l2])
                 | succ k4 =>
                  have H := HA.out
                  clear HA
                  simp only [spec_l04Walk.l2] at H
                  by_cases c32 : 0 ≤ x11_4
                  ·rw [if_pos c32] at H
                   have c32b0 : decide (0 ≤ x11_4) = true := decide_eq_true c32
                   clear c32
                   by_cases c33 : x11_4 < ((rd_L1 l0_3 (ji24)).length : Int)
                   ·rw [if_pos c33] at H
                    have c33b0 : decide (x11_4 < ((rd_L1 l0_3 (ji24)).length : Int)) = true := decide_eq_true c33
                    clear c33
                    by_cases c34 : (rd (rd_L1 l0_3 (ji24)) x11_4) = x8_3
                    ·rw [if_pos c34] at H
                     have c34b0 : ((rd (rd_L1 l0_3 (ji24)) x11_4) == x8_3) = true := beq_iff_eq.mpr c34
                     have c34b1 : ((rd (rd_L1 l0_3 (ji24)) x11_4) != x8_3) = false := bne_eq_false_iff_eq.mpr c34
                     clear c34
                     have H' := Aside0.mk H
                     clear H
                     have p936 : 0 ≤ (x11_4 : Int) := of_decide_eq_true (by assumption)
                     have q936 : x11_4 < ((rd_L1 l0_3 (ji24)).length : Int) := of_decide_eq_true (by assumption)
                     obtain ⟨ad936, e936, hx936_0⟩ := Kd.at_int HR933_0.out x11_4 p936 q936
                     cases e936
                     replace hx936_0 := (HB.out.cell (World.block_lt_of_cell? w _ hx936_0)).trans hx936_0
                     replace p936 := eq_true p936
                     replace q936 := eq_true q936
                     go_wp2
                     repeat (go_quiet (fail); try go_wp2)
                     first | (first | go_roundg k4 | (refine Handed.intro k4 ?measure ?_; rotate_left; go_step; (try simp only [add_plain]); (repeat apply Exists.intro); refine ⟨?rel, rfl⟩)) | ((try subst hji24); (first | go_roundg k4 | (refine Handed.intro k4 ?measure ?_; rotate_left; go_step; (try simp only [add_plain]); (repeat apply Exists.intro); refine ⟨?rel, rfl⟩)))
                     case measure => have := HJ4.out; have := HK2.out; have := HK3.out; have := HK4.out; omega
                     case rel => exact ⟨(x11_4), (wrap64 (x9_3 + 1)), (by first | rfl | (simp; done) | (simp [*]; done)), (by first | rfl | (simp; done) | (simp [*]; done)), H', ⟨by have := HJ4.out; have := HK2.out; have := HK3.out; have := HK4.out; omega⟩, ⟨by (with_reducible repeat (first | apply Kd.R_alloc | apply Kd.R_drewN | apply Kd.R_drew)); exact HO_6.out⟩, ⟨by (with_reducible repeat (first | refine blk_drewN ?_ _ | refine blk_drew ?_ | refine blk_alloc ?_ _)); exact BK922.out⟩, ⟨by repeat (first | (with_reducible first | exact HB.out | apply below_alloc | apply pw_below_drewN | apply below_drew1 | refine below_set ?_ GE922.out) | exact HB.out)⟩⟩
                    ·rw [if_neg c34] at H
                     have c34b0 : ((rd (rd_L1 l0_3 (ji24)) x11_4) == x8_3) = false := beq_eq_false_iff_ne.mpr c34
                     have c34b1 : ((rd (rd_L1 l0_3 (ji24)) x11_4) != x8_3) = true := bne_iff_ne.mpr c34
                     have H' := Aside0.mk H
                     clear H
                     have p936 : 0 ≤ (x11_4 : Int) := of_decide_eq_true (by assumption)
                     have q936 : x11_4 < ((rd_L1 l0_3 (ji24)).length : Int) := of_decide_eq_true (by assumption)
                     obtain ⟨ad936, e936, hx936_0⟩ := Kd.at_int HR933_0.out x11_4 p936 q936
                     cases e936
                     replace hx936_0 := (HB.out.cell (World.block_lt_of_cell? w _ hx936_0)).trans hx936_0
                     replace p936 := eq_true p936
                     replace q936 := eq_true q936
                     go_wp2
                     repeat (go_quiet (fail); try go_wp2)
                     first | (first | go_roundg k4 | (refine Handed.intro k4 ?measure ?_; rotate_left; go_step; (try simp only [add_plain]); (repeat apply Exists.intro); refine ⟨?rel, rfl⟩)) | ((try subst hji24); (first | go_roundg k4 | (refine Handed.intro k4 ?measure ?_; rotate_left; go_step; (try simp only [add_plain]); (repeat apply Exists.intro); refine ⟨?rel, rfl⟩)))
                     case measure => have := HJ4.out; have := HK2.out; have := HK3.out; have := HK4.out; omega
                     case rel => exact ⟨(wrap64 (x11_4 + 1)), (by first | rfl | (simp; done) | (simp [*]; done)), H', ⟨by have := HJ4.out; have := HK2.out; have := HK3.out; have := HK4.out; omega⟩, ⟨by (with_reducible repeat (first | apply Kd.R_alloc | apply Kd.R_drewN | apply Kd.R_drew)); exact HO_6.out⟩, ⟨by (with_reducible repeat (first | refine blk_drewN ?_ _ | refine blk_drew ?_ | refine blk_alloc ?_ _)); exact BK922.out⟩, ⟨by repeat (first | (with_reducible first | exact HB.out | apply below_alloc | apply pw_below_drewN | apply below_drew1 | refine below_set ?_ GE922.out) | exact HB.out)⟩⟩
                   ·rw [if_neg c33] at H
                    exact absurd H (by simp)
                  ·rw [if_neg c32] at H
                   exact absurd H (by simp)
              ·rw [if_neg c26] at H
               exact absurd H (by simp)
             ·rw [if_neg c25] at H
              exact absurd H (by simp)
            ·rw [if_neg c23] at H
             exact absurd H (by simp)
           ·rw [if_neg c22] at H
            have c22b0 : decide (x9_3 < (l1.length : Int)) = false := decide_eq_false c22
            clear c22
            by_cases c35 : x6_2.length < 17592186044416
            ·rw [if_pos c35] at H
             have LMc35 := Aside0.mk c35
             clear c35
             obtain ⟨y929, hy929⟩ : ∃ y_ : List Int, y_ = (x6_2 ++ [x8_3]) := ⟨_, rfl⟩
             replace H : (spec_l04Walk.l0 k3 l1 y929 (wrap64 (x7_2 + 1)) a0_0 l0_1 a0_2 l0_3) = some (r1, r2) := by first | (rw [hy929]; with_reducible exact H) | (have H2_ := (Option.bind_some _ _).symm.trans H; rw [hy929]; with_reducible exact H2_) | (have H2_ := (Option.bind_some _ _).symm.trans H; with_reducible exact H2_) | with_reducible exact H | (rw [hy929]; exact H) | exact H
             have Ny929 := Aside0.mk hy929
             clear hy929
             have H' := Aside0.mk H
             clear H
             go_wp2_with (first | ((with_reducible refine gate_builtin (b := .append) (xs := #[.tmp 75, .tmp 77]) rfl ?_); at_builtin; refine Kd.R_append (Kd.int .i64) (w0 := w) w.heap.size rfl (.tmp 75) (.tmp 77) 25 2 (.int .i64 0) 8 rfl Try.underlying25 info2 rfl (by decide) (by omega) u6 x6_2 x8_3 [.int .i64 x8_3] (fun _ => True) (fun _ => False) rfl rfl ?aP (fun _ hk => hk.elim) ?aF ?aO ?aB ?aS ?aL ?_; (case aP => exact rfl); (case aB => exact (by repeat (first | (with_reducible first | exact HB.out | apply below_alloc | apply pw_below_drewN | apply below_drew1 | refine below_set ?_ GE922.out) | exact HB.out))); (case aF => exact (fun _ _ => trivial)); (case aO => exact (by (with_reducible repeat (first | apply Kd.R_alloc | apply Kd.R_drewN | apply Kd.R_drew)); exact HO_6.out)); (case aS => exact (below_size (by repeat (first | (with_reducible first | exact HB.out | apply below_alloc | apply pw_below_drewN | apply below_drew1 | refine below_set ?_ GE922.out) | exact HB.out)))); (case aL => have := LMc35.out; omega); intro v930 w36 ho hb hg hat; rw [← Ny929.out] at ho; have n0_ := Aside0.mk (blk_grown (g := gb922) (o := .cells #[.int .i64 a0_0, .slice A0_1 l0_1.length c0_1, .int .i64 a0_2, .slice A0_3 l0_3.length c0_3] 46 (0, 0)) (by (with_reducible repeat (first | refine blk_drewN ?_ _ | refine blk_drew ?_ | refine blk_alloc ?_ _)); exact BK922.out) hg (Kd.R_ne HO_6.out BK922.out (by decide))); have n1_ := Aside0.mk (hb); have n2_ := Aside0.mk (ho); clear BK922; clear HB; clear HO_6; have BK922 := n0_; have HB := n1_; have HO931 := n2_; clear n0_ n1_ n2_; clear ho hb hg hat))
             repeat (go_quiet (first | ((with_reducible refine gate_builtin (b := .append) (xs := #[.tmp 75, .tmp 77]) rfl ?_); at_builtin; refine Kd.R_append (Kd.int .i64) (w0 := w) w.heap.size rfl (.tmp 75) (.tmp 77) 25 2 (.int .i64 0) 8 rfl Try.underlying25 info2 rfl (by decide) (by omega) u6 x6_2 x8_3 [.int .i64 x8_3] (fun _ => True) (fun _ => False) rfl rfl ?aP (fun _ hk => hk.elim) ?aF ?aO ?aB ?aS ?aL ?_; (case aP => exact rfl); (case aB => exact (by repeat (first | (with_reducible first | exact HB.out | apply below_alloc | apply pw_below_drewN | apply below_drew1 | refine below_set ?_ GE922.out) | exact HB.out))); (case aF => exact (fun _ _ => trivial)); (case aO => exact (by (with_reducible repeat (first | apply Kd.R_alloc | apply Kd.R_drewN | apply Kd.R_drew)); exact HO_6.out)); (case aS => exact (below_size (by repeat (first | (with_reducible first | exact HB.out | apply below_alloc | apply pw_below_drewN | apply below_drew1 | refine below_set ?_ GE922.out) | exact HB.out)))); (case aL => have := LMc35.out; omega); intro v930 w36 ho hb hg hat; rw [← Ny929.out] at ho; have n0_ := Aside0.mk (blk_grown (g := gb922) (o := .cells #[.int .i64 a0_0, .slice A0_1 l0_1.length c0_1, .int .i64 a0_2, .slice A0_3 l0_3.length c0_3] 46 (0, 0)) (by (with_reducible repeat (first | refine blk_drewN ?_ _ | refine blk_drew ?_ | refine blk_alloc ?_ _)); exact BK922.out) hg (Kd.R_ne HO_6.out BK922.out (by decide))); have n1_ := Aside0.mk (hb); have n2_ := Aside0.mk (ho); clear BK922; clear HB; clear HO_6; have BK922 := n0_; have HB := n1_; have HO931 := n2_; clear n0_ n1_ n2_; clear ho hb hg hat)); try go_wp2_with (first | ((with_reducible refine gate_builtin (b := .append) (xs := #[.tmp 75, .tmp 77]) rfl ?_); at_builtin; refine Kd.R_append (Kd.int .i64) (w0 := w) w.heap.size rfl (.tmp 75) (.tmp 77) 25 2 (.int .i64 0) 8 rfl Try.underlying25 info2 rfl (by decide) (by omega) u6 x6_2 x8_3 [.int .i64 x8_3] (fun _ => True) (fun _ => False) rfl rfl ?aP (fun _ hk => hk.elim) ?aF ?aO ?aB ?aS ?aL ?_; (case aP => exact rfl); (case aB => exact (by repeat (first | (with_reducible first | exact HB.out | apply below_alloc | apply pw_below_drewN | apply below_drew1 | refine below_set ?_ GE922.out) | exact HB.out))); (case aF => exact (fun _ _ => trivial)); (case aO => exact (by (with_reducible repeat (first | apply Kd.R_alloc | apply Kd.R_drewN | apply Kd.R_drew)); exact HO_6.out)); (case aS => exact (below_size (by repeat (first | (with_reducible first | exact HB.out | apply below_alloc | apply pw_below_drewN | apply below_drew1 | refine below_set ?_ GE922.out) | exact HB.out)))); (case aL => have := LMc35.out; omega); intro v930 w36 ho hb hg hat; rw [← Ny929.out] at ho; have n0_ := Aside0.mk (blk_grown (g := gb922) (o := .cells #[.int .i64 a0_0, .slice A0_1 l0_1.length c0_1, .int .i64 a0_2, .slice A0_3 l0_3.length c0_3] 46 (0, 0)) (by (with_reducible repeat (first | refine blk_drewN ?_ _ | refine blk_drew ?_ | refine blk_alloc ?_ _)); exact BK922.out) hg (Kd.R_ne HO_6.out BK922.out (by decide))); have n1_ := Aside0.mk (hb); have n2_ := Aside0.mk (ho); clear BK922; clear HB; clear HO_6; have BK922 := n0_; have HB := n1_; have HO931 := n2_; clear n0_ n1_ n2_; clear ho hb hg hat)))
             first | go_roundg k3 | (refine Handed.intro k3 ?measure ?_; rotate_left; go_step; (try simp only [add_plain]); (repeat apply Exists.intro); refine ⟨?rel, rfl⟩)
             case measure => have := HJ4.out; have := HK2.out; have := HK3.out; omega
             case rel => exact ⟨(y929), (wrap64 (x7_2 + 1)), (by first | rfl | (simp; done) | (simp [*]; done)), H', ⟨by have := HJ4.out; have := HK2.out; have := HK3.out; omega⟩, ⟨by (with_reducible repeat (first | apply Kd.R_alloc | apply Kd.R_drewN | apply Kd.R_drew)); exact HO931.out⟩, ⟨by (with_reducible repeat (first | refine blk_drewN ?_ _ | refine blk_drew ?_ | refine blk_alloc ?_ _)); exact BK922.out⟩, ⟨by repeat (first | (with_reducible first | exact HB.out | apply below_alloc | apply pw_below_drewN | apply below_drew1 | refine below_set ?_ GE922.out) | exact HB.out)⟩⟩
            ·rw [if_neg c35] at H
             exact absurd H (by simp)
        ·rw [if_neg c20] at H
         have c20b0 : decide (x7_2 < a0_2) = false := decide_eq_false c20
         clear c20
         simp only [Option.some.injEq, Prod.mk.injEq] at H
         obtain ⟨rfl, rfl⟩ := H
         have hcz37_0 : wr.cell? ⟨gb922, 0, none⟩ = some (.int .i64 a0_0) := (blk_cell BK922.out 0).trans rfl
         have hcz37_1 : wr.cell? ⟨gb922, 1, none⟩ = some (.slice A0_1 l0_1.length c0_1) := (blk_cell BK922.out 1).trans rfl
         have hcz37_2 : wr.cell? ⟨gb922, 2, none⟩ = some (.int .i64 a0_2) := (blk_cell BK922.out 2).trans rfl
         have hcz37_3 : wr.cell? ⟨gb922, 3, none⟩ = some (.slice A0_3 l0_3.length c0_3) := (blk_cell BK922.out 3).trans rfl
         have hfz37_0 := blk_frozen BK922.out 0
         have hfz37_1 := blk_frozen BK922.out 1
         have hfz37_2 := blk_frozen BK922.out 2
         have hfz37_3 := blk_frozen BK922.out 3
         go_wp2
         repeat (go_quiet (fail); try go_wp2)
         go_ret2
         exact ⟨_, by first | rfl | (simp [errW_none, errW_some] <;> rfl) | (simp [*, errW_none, errW_some] <;> rfl), by (with_reducible repeat (first | apply Kd.R_alloc | apply Kd.R_drewN | apply Kd.R_drew)); exact HO_6.out, by repeat (first | (with_reducible first | exact HB.out | apply below_alloc | apply pw_below_drewN | apply below_drew1 | refine below_set ?_ GE922.out) | exact HB.out)⟩
     ·replace c15 := Bool.eq_false_iff.mpr c15
      subst c15
      have H1 : (some (([] : List Int), 5)) = some (r1, r2) := by rw [if_neg (show ¬ (false = true) by decide)] at H; exact H
      clear H
      have H := H1
      clear H1
      simp only [Option.some.injEq, Prod.mk.injEq] at H
      obtain ⟨rfl, rfl⟩ := H
      have hcz38_0 : wc.cell? ⟨gb922, 0, none⟩ = some (.int .i64 a0_0) := (blk_cell BK922.out 0).trans rfl
      have hcz38_1 : wc.cell? ⟨gb922, 1, none⟩ = some (.slice A0_1 l0_1.length c0_1) := (blk_cell BK922.out 1).trans rfl
      have hcz38_2 : wc.cell? ⟨gb922, 2, none⟩ = some (.int .i64 a0_2) := (blk_cell BK922.out 2).trans rfl
      have hcz38_3 : wc.cell? ⟨gb922, 3, none⟩ = some (.slice A0_3 l0_3.length c0_3) := (blk_cell BK922.out 3).trans rfl
      have hfz38_0 := blk_frozen BK922.out 0
      have hfz38_1 := blk_frozen BK922.out 1
      have hfz38_2 := blk_frozen BK922.out 2
      have hfz38_3 := blk_frozen BK922.out 3
      go_wp2_with (first | (go_at_call 63; (with_reducible refine (spec_l02Closed.calls kj4 a0_0 _ _ l0_1 _ _ l1 false _ ?side1 ?side2 ?side3 ?side4 A14.out).mono ?_); (case side1 => repeat (first | exact (Kd.C_below HR0_1.out HB.out) | (with_reducible refine Kd.C_alloc ?_ _) | (with_reducible refine Kd.C_drewN ?_ _) | (with_reducible refine Kd.C_drew ?_))); (case side2 => exact HC0_1.out); (case side3 => repeat (first | exact (Kd.C_below HR1.out HB.out) | (with_reducible refine Kd.C_alloc ?_ _) | (with_reducible refine Kd.C_drewN ?_ _) | (with_reducible refine Kd.C_drew ?_))); (case side4 => exact HC1.out); rintro e w39 ⟨rfl, hb⟩; have n0_ := Aside0.mk (blk_below (g := gb922) (o := .cells #[.int .i64 a0_0, .slice A0_1 l0_1.length c0_1, .int .i64 a0_2, .slice A0_3 l0_3.length c0_3] 46 (0, 0)) (by (with_reducible repeat (first | refine blk_drewN ?_ _ | refine blk_drew ?_ | refine blk_alloc ?_ _)); exact BK922.out) hb); have n1_ := Aside0.mk (below_step (by repeat (first | (with_reducible first | exact HB.out | apply below_alloc | apply pw_below_drewN | apply below_drew1 | refine below_set ?_ GE922.out) | exact HB.out)) hb); clear BK922; clear HB; have BK922 := n0_; have HB := n1_; clear n0_ n1_; (try clear hb); (try clear hb2); (try clear hk); (try clear hi)))
      repeat (go_quiet (first | (go_at_call 63; (with_reducible refine (spec_l02Closed.calls kj4 a0_0 _ _ l0_1 _ _ l1 false _ ?side1 ?side2 ?side3 ?side4 A14.out).mono ?_); (case side1 => repeat (first | exact (Kd.C_below HR0_1.out HB.out) | (with_reducible refine Kd.C_alloc ?_ _) | (with_reducible refine Kd.C_drewN ?_ _) | (with_reducible refine Kd.C_drew ?_))); (case side2 => exact HC0_1.out); (case side3 => repeat (first | exact (Kd.C_below HR1.out HB.out) | (with_reducible refine Kd.C_alloc ?_ _) | (with_reducible refine Kd.C_drewN ?_ _) | (with_reducible refine Kd.C_drew ?_))); (case side4 => exact HC1.out); rintro e w39 ⟨rfl, hb⟩; have n0_ := Aside0.mk (blk_below (g := gb922) (o := .cells #[.int .i64 a0_0, .slice A0_1 l0_1.length c0_1, .int .i64 a0_2, .slice A0_3 l0_3.length c0_3] 46 (0, 0)) (by (with_reducible repeat (first | refine blk_drewN ?_ _ | refine blk_drew ?_ | refine blk_alloc ?_ _)); exact BK922.out) hb); have n1_ := Aside0.mk (below_step (by repeat (first | (with_reducible first | exact HB.out | apply below_alloc | apply pw_below_drewN | apply below_drew1 | refine below_set ?_ GE922.out) | exact HB.out)) hb); clear BK922; clear HB; have BK922 := n0_; have HB := n1_; clear n0_ n1_; (try clear hb); (try clear hb2); (try clear hk); (try clear hi))); try go_wp2_with (first | (go_at_call 63; (with_reducible refine (spec_l02Closed.calls kj4 a0_0 _ _ l0_1 _ _ l1 false _ ?side1 ?side2 ?side3 ?side4 A14.out).mono ?_); (case side1 => repeat (first | exact (Kd.C_below HR0_1.out HB.out) | (with_reducible refine Kd.C_alloc ?_ _) | (with_reducible refine Kd.C_drewN ?_ _) | (with_reducible refine Kd.C_drew ?_))); (case side2 => exact HC0_1.out); (case side3 => repeat (first | exact (Kd.C_below HR1.out HB.out) | (with_reducible refine Kd.C_alloc ?_ _) | (with_reducible refine Kd.C_drewN ?_ _) | (with_reducible refine Kd.C_drew ?_))); (case side4 => exact HC1.out); rintro e w39 ⟨rfl, hb⟩; have n0_ := Aside0.mk (blk_below (g := gb922) (o := .cells #[.int .i64 a0_0, .slice A0_1 l0_1.length c0_1, .int .i64 a0_2, .slice A0_3 l0_3.length c0_3] 46 (0, 0)) (by (with_reducible repeat (first | refine blk_drewN ?_ _ | refine blk_drew ?_ | refine blk_alloc ?_ _)); exact BK922.out) hb); have n1_ := Aside0.mk (below_step (by repeat (first | (with_reducible first | exact HB.out | apply below_alloc | apply pw_below_drewN | apply below_drew1 | refine below_set ?_ GE922.out) | exact HB.out)) hb); clear BK922; clear HB; have BK922 := n0_; have HB := n1_; clear n0_ n1_; (try clear hb); (try clear hb2); (try clear hk); (try clear hi))))
      go_ret2
      exact ⟨_, by first | rfl | (simp [errW_none, errW_some] <;> rfl) | (simp [*, errW_none, errW_some] <;> rfl), by first | exact Kd.R_nil _ _ _ _ _ | exact Kd.N_nil _ _ _ _ _ | exact Kd.V_nil _ _ _ _ _ | exact Kd.Q_nil _ _ _ _ _ | exact Kd.S_nil _ _ _ _ _, by repeat (first | (with_reducible first | exact HB.out | apply below_alloc | apply pw_below_drewN | apply below_drew1 | refine below_set ?_ GE922.out) | exact HB.out)⟩
 ·replace c4 := Bool.eq_false_iff.mpr c4
  subst c4
  have H1 : (some (([] : List Int), 1)) = some (r1, r2) := by rw [if_neg (show ¬ (false = true) by decide)] at H; exact H
  clear H
  have H := H1
  clear H1
  simp only [Option.some.injEq, Prod.mk.injEq] at H
  obtain ⟨rfl, rfl⟩ := H
  go_enter Try.func86, Try.ntmps86
  go_wp2_with (first | ((with_reducible refine gate_dst (N := 2) rfl ?_); refine box_event ?hg (N := 2) ?hd (cs := #[.int .i64 a0_0, .slice A0_1 l0_1.length c0_1, .int .i64 a0_2, .slice A0_3 l0_3.length c0_3]) (t := 46) ?hr ?_; (case hd => rfl); (case hg => rfl); (case hr => first | (go_simp; done) | (go_simp; rfl)); intro gb922 hg w40 hbox hb; have n0_ := Aside0.mk (below_step (by repeat (first | (with_reducible first | exact HB.out | apply below_alloc | apply pw_below_drewN | apply below_drew1) | exact HB.out)) hb); have n1_ := Aside0.mk (hbox); have n2_ := Aside0.mk ((by rw [hg]; exact (below_size (by repeat (first | (with_reducible first | exact HB.out | apply below_alloc | apply pw_below_drewN | apply below_drew1) | exact HB.out))) : w.heap.size ≤ gb922)); have n3_ := Aside0.mk ((by rw [hg]; exact (below_size (by repeat (first | (with_reducible first | exact HB.out | apply below_alloc | apply pw_below_drewN | apply below_drew1) | exact HB.out))) : w.heap.size ≤ gb922)); clear HB; have HB := n0_; have BK922 := n1_; have GW922 := n2_; have GE922 := n3_; clear n0_ n1_ n2_ n3_; clear hb hbox hg; have hcz41_0 : w40.cell? ⟨gb922, 0, none⟩ = some (.int .i64 a0_0) := (blk_cell BK922.out 0).trans rfl; have hcz41_1 : w40.cell? ⟨gb922, 1, none⟩ = some (.slice A0_1 l0_1.length c0_1) := (blk_cell BK922.out 1).trans rfl; have hcz41_2 : w40.cell? ⟨gb922, 2, none⟩ = some (.int .i64 a0_2) := (blk_cell BK922.out 2).trans rfl; have hcz41_3 : w40.cell? ⟨gb922, 3, none⟩ = some (.slice A0_3 l0_3.length c0_3) := (blk_cell BK922.out 3).trans rfl; have hfz41_0 := blk_frozen BK922.out 0; have hfz41_1 := blk_frozen BK922.out 1; have hfz41_2 := blk_frozen BK922.out 2; have hfz41_3 := blk_frozen BK922.out 3) | (go_at_call 70; (with_reducible refine (spec_l04Is.calls k a0_0 _ _ l0_1 a0_2 _ _ l0_3 false _ ?side1 ?side2 ?side3 ?side4 A3.out).mono ?_); (case side1 => repeat (first | exact (Kd.C_below HR0_1.out HB.out) | (with_reducible refine Kd.C_alloc ?_ _) | (with_reducible refine Kd.C_drewN ?_ _) | (with_reducible refine Kd.C_drew ?_))); (case side2 => exact HC0_1.out); (case side3 => repeat (first | exact (Kd.C_below HR0_3.out HB.out) | (with_reducible refine Kd.C_alloc ?_ _) | (with_reducible refine Kd.C_drewN ?_ _) | (with_reducible refine Kd.C_drew ?_))); (case side4 => exact HC0_3.out); rintro e w42 ⟨rfl, hb⟩; have n0_ := Aside0.mk (blk_below (g := gb922) (o := .cells #[.int .i64 a0_0, .slice A0_1 l0_1.length c0_1, .int .i64 a0_2, .slice A0_3 l0_3.length c0_3] 46 (0, 0)) (by (with_reducible repeat (first | refine blk_drewN ?_ _ | refine blk_drew ?_ | refine blk_alloc ?_ _)); exact BK922.out) hb); have n1_ := Aside0.mk (below_step (by repeat (first | (with_reducible first | exact HB.out | apply below_alloc | apply pw_below_drewN | apply below_drew1 | refine below_set ?_ GE922.out) | exact HB.out)) hb); clear BK922; clear HB; have BK922 := n0_; have HB := n1_; clear n0_ n1_; (try clear hb); (try clear hb2); (try clear hk); (try clear hi)))
  repeat (go_quiet (first | ((with_reducible refine gate_dst (N := 2) rfl ?_); refine box_event ?hg (N := 2) ?hd (cs := #[.int .i64 a0_0, .slice A0_1 l0_1.length c0_1, .int .i64 a0_2, .slice A0_3 l0_3.length c0_3]) (t := 46) ?hr ?_; (case hd => rfl); (case hg => rfl); (case hr => first | (go_simp; done) | (go_simp; rfl)); intro gb922 hg w40 hbox hb; have n0_ := Aside0.mk (below_step (by repeat (first | (with_reducible first | exact HB.out | apply below_alloc | apply pw_below_drewN | apply below_drew1) | exact HB.out)) hb); have n1_ := Aside0.mk (hbox); have n2_ := Aside0.mk ((by rw [hg]; exact (below_size (by repeat (first | (with_reducible first | exact HB.out | apply below_alloc | apply pw_below_drewN | apply below_drew1) | exact HB.out))) : w.heap.size ≤ gb922)); have n3_ := Aside0.mk ((by rw [hg]; exact (below_size (by repeat (first | (with_reducible first | exact HB.out | apply below_alloc | apply pw_below_drewN | apply below_drew1) | exact HB.out))) : w.heap.size ≤ gb922)); clear HB; have HB := n0_; have BK922 := n1_; have GW922 := n2_; have GE922 := n3_; clear n0_ n1_ n2_ n3_; clear hb hbox hg; have hcz41_0 : w40.cell? ⟨gb922, 0, none⟩ = some (.int .i64 a0_0) := (blk_cell BK922.out 0).trans rfl; have hcz41_1 : w40.cell? ⟨gb922, 1, none⟩ = some (.slice A0_1 l0_1.length c0_1) := (blk_cell BK922.out 1).trans rfl; have hcz41_2 : w40.cell? ⟨gb922, 2, none⟩ = some (.int .i64 a0_2) := (blk_cell BK922.out 2).trans rfl; have hcz41_3 : w40.cell? ⟨gb922, 3, none⟩ = some (.slice A0_3 l0_3.length c0_3) := (blk_cell BK922.out 3).trans rfl; have hfz41_0 := blk_frozen BK922.out 0; have hfz41_1 := blk_frozen BK922.out 1; have hfz41_2 := blk_frozen BK922.out 2; have hfz41_3 := blk_frozen BK922.out 3) | (go_at_call 70; (with_reducible refine (spec_l04Is.calls k a0_0 _ _ l0_1 a0_2 _ _ l0_3 false _ ?side1 ?side2 ?side3 ?side4 A3.out).mono ?_); (case side1 => repeat (first | exact (Kd.C_below HR0_1.out HB.out) | (with_reducible refine Kd.C_alloc ?_ _) | (with_reducible refine Kd.C_drewN ?_ _) | (with_reducible refine Kd.C_drew ?_))); (case side2 => exact HC0_1.out); (case side3 => repeat (first | exact (Kd.C_below HR0_3.out HB.out) | (with_reducible refine Kd.C_alloc ?_ _) | (with_reducible refine Kd.C_drewN ?_ _) | (with_reducible refine Kd.C_drew ?_))); (case side4 => exact HC0_3.out); rintro e w42 ⟨rfl, hb⟩; have n0_ := Aside0.mk (blk_below (g := gb922) (o := .cells #[.int .i64 a0_0, .slice A0_1 l0_1.length c0_1, .int .i64 a0_2, .slice A0_3 l0_3.length c0_3] 46 (0, 0)) (by (with_reducible repeat (first | refine blk_drewN ?_ _ | refine blk_drew ?_ | refine blk_alloc ?_ _)); exact BK922.out) hb); have n1_ := Aside0.mk (below_step (by repeat (first | (with_reducible first | exact HB.out | apply below_alloc | apply pw_below_drewN | apply below_drew1 | refine below_set ?_ GE922.out) | exact HB.out)) hb); clear BK922; clear HB; have BK922 := n0_; have HB := n1_; clear n0_ n1_; (try clear hb); (try clear hb2); (try clear hk); (try clear hi))); try go_wp2_with (first | ((with_reducible refine gate_dst (N := 2) rfl ?_); refine box_event ?hg (N := 2) ?hd (cs := #[.int .i64 a0_0, .slice A0_1 l0_1.length c0_1, .int .i64 a0_2, .slice A0_3 l0_3.length c0_3]) (t := 46) ?hr ?_; (case hd => rfl); (case hg => rfl); (case hr => first | (go_simp; done) | (go_simp; rfl)); intro gb922 hg w40 hbox hb; have n0_ := Aside0.mk (below_step (by repeat (first | (with_reducible first | exact HB.out | apply below_alloc | apply pw_below_drewN | apply below_drew1) | exact HB.out)) hb); have n1_ := Aside0.mk (hbox); have n2_ := Aside0.mk ((by rw [hg]; exact (below_size (by repeat (first | (with_reducible first | exact HB.out | apply below_alloc | apply pw_below_drewN | apply below_drew1) | exact HB.out))) : w.heap.size ≤ gb922)); have n3_ := Aside0.mk ((by rw [hg]; exact (below_size (by repeat (first | (with_reducible first | exact HB.out | apply below_alloc | apply pw_below_drewN | apply below_drew1) | exact HB.out))) : w.heap.size ≤ gb922)); clear HB; have HB := n0_; have BK922 := n1_; have GW922 := n2_; have GE922 := n3_; clear n0_ n1_ n2_ n3_; clear hb hbox hg; have hcz41_0 : w40.cell? ⟨gb922, 0, none⟩ = some (.int .i64 a0_0) := (blk_cell BK922.out 0).trans rfl; have hcz41_1 : w40.cell? ⟨gb922, 1, none⟩ = some (.slice A0_1 l0_1.length c0_1) := (blk_cell BK922.out 1).trans rfl; have hcz41_2 : w40.cell? ⟨gb922, 2, none⟩ = some (.int .i64 a0_2) := (blk_cell BK922.out 2).trans rfl; have hcz41_3 : w40.cell? ⟨gb922, 3, none⟩ = some (.slice A0_3 l0_3.length c0_3) := (blk_cell BK922.out 3).trans rfl; have hfz41_0 := blk_frozen BK922.out 0; have hfz41_1 := blk_frozen BK922.out 1; have hfz41_2 := blk_frozen BK922.out 2; have hfz41_3 := blk_frozen BK922.out 3) | (go_at_call 70; (with_reducible refine (spec_l04Is.calls k a0_0 _ _ l0_1 a0_2 _ _ l0_3 false _ ?side1 ?side2 ?side3 ?side4 A3.out).mono ?_); (case side1 => repeat (first | exact (Kd.C_below HR0_1.out HB.out) | (with_reducible refine Kd.C_alloc ?_ _) | (with_reducible refine Kd.C_drewN ?_ _) | (with_reducible refine Kd.C_drew ?_))); (case side2 => exact HC0_1.out); (case side3 => repeat (first | exact (Kd.C_below HR0_3.out HB.out) | (with_reducible refine Kd.C_alloc ?_ _) | (with_reducible refine Kd.C_drewN ?_ _) | (with_reducible refine Kd.C_drew ?_))); (case side4 => exact HC0_3.out); rintro e w42 ⟨rfl, hb⟩; have n0_ := Aside0.mk (blk_below (g := gb922) (o := .cells #[.int .i64 a0_0, .slice A0_1 l0_1.length c0_1, .int .i64 a0_2, .slice A0_3 l0_3.length c0_3] 46 (0, 0)) (by (with_reducible repeat (first | refine blk_drewN ?_ _ | refine blk_drew ?_ | refine blk_alloc ?_ _)); exact BK922.out) hb); have n1_ := Aside0.mk (below_step (by repeat (first | (with_reducible first | exact HB.out | apply below_alloc | apply pw_below_drewN | apply below_drew1 | refine below_set ?_ GE922.out) | exact HB.out)) hb); clear BK922; clear HB; have BK922 := n0_; have HB := n1_; clear n0_ n1_; (try clear hb); (try clear hb2); (try clear hk); (try clear hi))))
  go_ret2
  exact ⟨_, by first | rfl | (simp [errW_none, errW_some] <;> rfl) | (simp [*, errW_none, errW_some] <;> rfl), by first | exact Kd.R_nil _ _ _ _ _ | exact Kd.N_nil _ _ _ _ _ | exact Kd.V_nil _ _ _ _ _ | exact Kd.Q_nil _ _ _ _ _ | exact Kd.S_nil _ _ _ _ _, by repeat (first | (with_reducible first | exact HB.out | apply below_alloc | apply pw_below_drewN | apply below_drew1 | refine below_set ?_ GE922.out) | exact HB.out)⟩

/-! ### spec_PermutationOfWalk: function 49 -/
def spec_PermutationOfWalk.f (k : Nat) (a0_0 : Int) (l0_1 : List (List Int)) (a0_2 : Int) (l0_3 : List (List Int)) (l1 : List Int) : Option (List Int × Int) := (spec_l04Walk.f k a0_0 l0_1 a0_2 l0_3 l1).bind fun bt938 => (some (bt938.1, bt938.2))
theorem spec_PermutationOfWalk.mono : ∀ a0 a1 a2 a3 a4 k, LeO (spec_PermutationOfWalk.f k a0 a1 a2 a3 a4) (spec_PermutationOfWalk.f (k + 1) a0 a1 a2 a3 a4) := by
 intro a0 a1 a2 a3 a4 k
 unfold spec_PermutationOfWalk.f
 repeat' first
   | (with_reducible exact spec_l04Walk.mono _ _ _ _ _ _)
   | (with_reducible exact LeO.refl _)
   | (with_reducible exact LeO.none _)
   | (with_reducible refine LeO.ite ?_ ?_)
   | (with_reducible refine LeO.bind ?_ (fun _ => ?_))
set_option maxHeartbeats 8000000 in
set_option maxRecDepth 100000 in
theorem spec_PermutationOfWalk.calls (k : Nat) (a0_0 : Int) (A0_1 : Option Addr) (c0_1 : Nat) (l0_1 : List (List Int)) (a0_2 : Int) (A0_3 : Option Addr) (c0_3 : Nat) (l0_3 : List (List Int)) (A1 : Option Addr) (c1 : Nat) (l1 : List Int) (r1 : List Int) (r2 : Int) (w : World) (hr0_1 : Kd.C (Kd.slice 2 (Kd.int .i64)) w A0_1 l0_1.length l0_1) (hc0_1 : l0_1.length ≤ c0_1) (hr0_3 : Kd.C (Kd.slice 2 (Kd.int .i64)) w A0_3 l0_3.length l0_3) (hc0_3 : l0_3.length ≤ c0_3) (hr1 : Kd.C (Kd.int .i64) w A1 l1.length l1) (hc1 : l1.length ≤ c1) (h : spec_PermutationOfWalk.f k a0_0 l0_1 a0_2 l0_3 l1 = some (r1, r2)) :
  Calls Try.prog 49 #[.agg #[.int .i64 a0_0, .slice A0_1 l0_1.length c0_1, .int .i64 a0_2, .slice A0_3 l0_3.length c0_3], .slice A1 l1.length c1] w fun e w' => ∃ v0_ : Value, e = .returned (.tuple #[v0_, .int .i64 r2]) ∧ Kd.R (Kd.int .i64) 2 w' w.heap.size (fun _ => True) v0_ r1 ∧ Below w.heap.size w w' := by
 have hu46 := Try.underlying46
 have HR0_1 := Aside0.mk hr0_1
 have HC0_1 := Aside0.mk hc0_1
 clear hr0_1 hc0_1
 have HR0_3 := Aside0.mk hr0_3
 have HC0_3 := Aside0.mk hc0_3
 clear hr0_3 hc0_3
 have HR1 := Aside0.mk hr1
 have HC1 := Aside0.mk hc1
 clear hr1 hc1
 have HB := Aside0.mk (Below.refl w.heap.size w)
 have H : ((spec_l04Walk.f k a0_0 l0_1 a0_2 l0_3 l1).bind fun bt938 => (some (bt938.1, bt938.2))) = some (r1, r2) := h
 clear h
 replace H := Option.bind_eq_some_iff.mp H
 obtain ⟨⟨t938, t941⟩, A30, H⟩ := H
 replace H : (some (t938, t941)) = some (r1, r2) := H
 have A3 := Aside0.mk A30
 clear A30
 simp only [Option.some.injEq, Prod.mk.injEq] at H
 obtain ⟨rfl, rfl⟩ := H
 go_enter Try.func49, Try.ntmps49
 go_wp2_with (first | ((with_reducible refine gate_dst (N := 2) rfl ?_); refine box_event ?hg (N := 2) ?hd (cs := #[.int .i64 a0_0, .slice A0_1 l0_1.length c0_1, .int .i64 a0_2, .slice A0_3 l0_3.length c0_3]) (t := 46) ?hr ?_; (case hd => rfl); (case hg => rfl); (case hr => first | (go_simp; done) | (go_simp; rfl)); intro gb937 hg w4 hbox hb; have n0_ := Aside0.mk (below_step (by repeat (first | (with_reducible first | exact HB.out | apply below_alloc | apply pw_below_drewN | apply below_drew1) | exact HB.out)) hb); have n1_ := Aside0.mk (hbox); have n2_ := Aside0.mk ((by rw [hg]; exact (below_size (by repeat (first | (with_reducible first | exact HB.out | apply below_alloc | apply pw_below_drewN | apply below_drew1) | exact HB.out))) : w.heap.size ≤ gb937)); have n3_ := Aside0.mk ((by rw [hg]; exact (below_size (by repeat (first | (with_reducible first | exact HB.out | apply below_alloc | apply pw_below_drewN | apply below_drew1) | exact HB.out))) : w.heap.size ≤ gb937)); clear HB; have HB := n0_; have BK937 := n1_; have GW937 := n2_; have GE937 := n3_; clear n0_ n1_ n2_ n3_; clear hb hbox hg; have hcz5_0 : w4.cell? ⟨gb937, 0, none⟩ = some (.int .i64 a0_0) := (blk_cell BK937.out 0).trans rfl; have hcz5_1 : w4.cell? ⟨gb937, 1, none⟩ = some (.slice A0_1 l0_1.length c0_1) := (blk_cell BK937.out 1).trans rfl; have hcz5_2 : w4.cell? ⟨gb937, 2, none⟩ = some (.int .i64 a0_2) := (blk_cell BK937.out 2).trans rfl; have hcz5_3 : w4.cell? ⟨gb937, 3, none⟩ = some (.slice A0_3 l0_3.length c0_3) := (blk_cell BK937.out 3).trans rfl; have hfz5_0 := blk_frozen BK937.out 0; have hfz5_1 := blk_frozen BK937.out 1; have hfz5_2 := blk_frozen BK937.out 2; have hfz5_3 := blk_frozen BK937.out 3) | ((with_reducible refine gate_callee (f := 86) rfl ?_); refine goesL_ (some 11) rfl rfl Try.func86 (by kernel_rfl) rfl #[.agg #[.int .i64 a0_0, .slice A0_1 l0_1.length c0_1, .int .i64 a0_2, .slice A0_3 l0_3.length c0_3], .slice A1 l1.length c1] rfl (by (try simp only [List.map_toArray, List.map_cons, List.map_nil]); first | done | rfl | (simp only [List.length_drop, List.length_take]; rfl)) ?_; (with_reducible refine (spec_l04Walk.calls k a0_0 _ _ l0_1 a0_2 _ _ l0_3 _ _ l1 t938 t941 _ ?side1 ?side2 ?side3 ?side4 ?side5 ?side6 A3.out).mono ?_); (case side1 => repeat (first | exact (Kd.C_below HR0_1.out HB.out) | (with_reducible refine Kd.C_alloc ?_ _) | (with_reducible refine Kd.C_drewN ?_ _) | (with_reducible refine Kd.C_drew ?_))); (case side2 => exact HC0_1.out); (case side3 => repeat (first | exact (Kd.C_below HR0_3.out HB.out) | (with_reducible refine Kd.C_alloc ?_ _) | (with_reducible refine Kd.C_drewN ?_ _) | (with_reducible refine Kd.C_drew ?_))); (case side4 => exact HC0_3.out); (case side5 => repeat (first | exact (Kd.C_below HR1.out HB.out) | (with_reducible refine Kd.C_alloc ?_ _) | (with_reducible refine Kd.C_drewN ?_ _) | (with_reducible refine Kd.C_drew ?_))); (case side6 => exact HC1.out); rintro e w6 ⟨v939, rfl, ho0, hb⟩; refine ⟨_, rfl, ?_⟩; have n0_ := Aside0.mk (Kd.R_lower ho0 (below_size (by repeat (first | (with_reducible first | exact HB.out | apply below_alloc | apply pw_below_drewN | apply below_drew1 | refine below_set ?_ GE937.out) | exact HB.out)))); have n1_ := Aside0.mk (blk_below (g := gb937) (o := .cells #[.int .i64 a0_0, .slice A0_1 l0_1.length c0_1, .int .i64 a0_2, .slice A0_3 l0_3.length c0_3] 46 (0, 0)) (by (with_reducible repeat (first | refine blk_drewN ?_ _ | refine blk_drew ?_ | refine blk_alloc ?_ _)); exact BK937.out) hb); have n2_ := Aside0.mk (below_step (by repeat (first | (with_reducible first | exact HB.out | apply below_alloc | apply pw_below_drewN | apply below_drew1 | refine below_set ?_ GE937.out) | exact HB.out)) hb); clear BK937; clear HB; have HO940 := n0_; have BK937 := n1_; have HB := n2_; clear n0_ n1_ n2_; (try clear hb); (try clear hb2); (try clear hk); (try clear hi); (try clear ho0)))
 go_ret2
 exact ⟨_, by first | rfl | (simp [errW_none, errW_some] <;> rfl) | (simp [*, errW_none, errW_some] <;> rfl), by (with_reducible repeat (first | apply Kd.R_alloc | apply Kd.R_drewN | apply Kd.R_drew)); exact HO940.out, by repeat (first | (with_reducible first | exact HB.out | apply below_alloc | apply pw_below_drewN | apply below_drew1 | refine below_set ?_ GE937.out) | exact HB.out)⟩

/-! ### impl_PermutationOfWalk: function 50 -/
mutual
def impl_PermutationOfWalk.l0 : Nat → List Int → List Int → Int → Int → Int → List (List Int) → Int → List (List Int) → Option (List Int × Int)
 | 0, _, _, _, _, _, _, _, _ => none
 | k + 1, x1, x33, x34, x35, x943000, x943001, x943002, x943003 => if x35 < x34 then (if 0 ≤ x35 then (if x35 < (x33.length : Int) then ((impl_Graph_ends.f x943000 x943001 (rd x33 x35)).bind fun bt947 => (if (x1.length : Int) = 0 then (none) else (if 0 ≤ (Int.tmod (wrap64 (x35 + 1)) (x1.length : Int)) then (if (Int.tmod (wrap64 (x35 + 1)) (x1.length : Int)) < (x1.length : Int) then ((impl_Graph_ends.f x943000 x943001 (rd x1 (Int.tmod (wrap64 (x35 + 1)) (x1.length : Int)))).bind fun bt950 => (if bt950.1 = bt947.2 then (impl_PermutationOfWalk.l0 k x1 x33 x34 (wrap64 (x35 + 1)) x943000 x943001 x943002 x943003) else (some (([] : List Int), 5)))) else (none)) else (none)))) else (none)) else (none)) else (impl_PermutationOfWalk.l1 k x1 (([] : List Int)) x943002 0 x943000 x943001 x943002 x943003)
def impl_PermutationOfWalk.l1 : Nat → List Int → List Int → Int → Int → Int → List (List Int) → Int → List (List Int) → Option (List Int × Int)
 | 0, _, _, _, _, _, _, _, _ => none
 | k + 1, x1, x12, x67, x68, x943000, x943001, x943002, x943003 => if x68 < x67 then (impl_PermutationOfWalk.l2 k x1 x12 x68 x67 x68 x1 (x1.length : Int) 0 x943000 x943001 x943002 x943003) else (some (x12, 0))
def impl_PermutationOfWalk.l2 : Nat → List Int → List Int → Int → Int → Int → List Int → Int → Int → Int → List (List Int) → Int → List (List Int) → Option (List Int × Int)
 | 0, _, _, _, _, _, _, _, _, _, _, _, _ => none
 | k + 1, x1, x12, x13, x67, x68, x71, x72, x73, x943000, x943001, x943002, x943003 => if x73 < x72 then (if 0 ≤ x73 then (if x73 < (x71.length : Int) then (if 0 ≤ (wrap64 (Int.tdiv (rd x71 x73) 2)) then (if (wrap64 (Int.tdiv (rd x71 x73) 2)) < (x943003.length : Int) then (if (Int.tmod (rd x71 x73) 2) = 0 then (if 0 ≤ x13 then (if x13 < ((rd_L1 x943003 (wrap64 (Int.tdiv (rd x71 x73) 2))).length : Int) then (impl_PermutationOfWalk.l2 k x1 x12 (rd (rd_L1 x943003 (wrap64 (Int.tdiv (rd x71 x73) 2))) x13) x67 x68 x71 x72 (wrap64 (x73 + 1)) x943000 x943001 x943002 x943003) else (none)) else (none)) else ((slices_Index_int64_int64.f k (rd_L1 x943003 (wrap64 (Int.tdiv (rd x71 x73) 2))) x13).bind fun t958 => (impl_PermutationOfWalk.l2 k x1 x12 t958 x67 x68 x71 x72 (wrap64 (x73 + 1)) x943000 x943001 x943002 x943003))) else (none)) else (none)) else (none)) else (none)) else (if x12.length < 17592186044416 then (impl_PermutationOfWalk.l1 k x1 (x12 ++ [x13]) x67 (wrap64 (x68 + 1)) x943000 x943001 x943002 x943003) else (none))
end
def impl_PermutationOfWalk.f (k : Nat) (a0_0 : Int) (l0_1 : List (List Int)) (a0_2 : Int) (l0_3 : List (List Int)) (l1 : List Int) : Option (List Int × Int) := (impl_IsCover.f k a0_0 l0_1 a0_2 l0_3).bind fun t943 => (if t943 = true then ((impl_within.f (l1.length : Int) 1 20).bind fun t944 => (if t944 = true then ((impl_Graph_areDirected.f k a0_0 l0_1 l1).bind fun t945 => (if t945 = true then (impl_PermutationOfWalk.l0 k l1 l1 (l1.length : Int) 0 a0_0 l0_1 a0_2 l0_3) else (some (([] : List Int), 2)))) else (some (([] : List Int), 2)))) else (some (([] : List Int), 1)))
theorem impl_PermutationOfWalk.mono_l : ∀ k, (∀ y0 y1 y2 y3 y4 y5 y6 y7, LeO (impl_PermutationOfWalk.l0 k y0 y1 y2 y3 y4 y5 y6 y7) (impl_PermutationOfWalk.l0 (k + 1) y0 y1 y2 y3 y4 y5 y6 y7)) ∧ (∀ y0 y1 y2 y3 y4 y5 y6 y7, LeO (impl_PermutationOfWalk.l1 k y0 y1 y2 y3 y4 y5 y6 y7) (impl_PermutationOfWalk.l1 (k + 1) y0 y1 y2 y3 y4 y5 y6 y7)) ∧ (∀ y0 y1 y2 y3 y4 y5 y6 y7 y8 y9 y10 y11, LeO (impl_PermutationOfWalk.l2 k y0 y1 y2 y3 y4 y5 y6 y7 y8 y9 y10 y11) (impl_PermutationOfWalk.l2 (k + 1) y0 y1 y2 y3 y4 y5 y6 y7 y8 y9 y10 y11))
 | 0 => ⟨fun _ _ _ _ _ _ _ _ r h => by simp [impl_PermutationOfWalk.l0] at h, fun _ _ _ _ _ _ _ _ r h => by simp [impl_PermutationOfWalk.l1] at h, fun _ _ _ _ _ _ _ _ _ _ _ _ r h => by simp [impl_PermutationOfWalk.l2] at h⟩
 | k + 1 => by
  obtain ⟨ih0, ih1, ih2⟩ := impl_PermutationOfWalk.mono_l k
  refine ⟨?_, ?_, ?_⟩
  ·intro y0 y1 y2 y3 y4 y5 y6 y7
   unfold impl_PermutationOfWalk.l0
   repeat' first
   | (with_reducible exact ih0 _ _ _ _ _ _ _ _)
   | (with_reducible exact ih1 _ _ _ _ _ _ _ _)
   | (with_reducible exact ih2 _ _ _ _ _ _ _ _ _ _ _ _)
   | (with_reducible exact impl_Graph_areDirected.mono _ _ _ _)
   | (with_reducible exact impl_IsCover.mono _ _ _ _ _)
   | (with_reducible exact slices_Index_int64_int64.mono _ _ _)
   | (with_reducible exact LeO.refl _)
   | (with_reducible exact LeO.none _)
   | (with_reducible refine LeO.ite ?_ ?_)
   | (with_reducible refine LeO.bind ?_ (fun _ => ?_))
  ·intro y0 y1 y2 y3 y4 y5 y6 y7
   unfold impl_PermutationOfWalk.l1
   repeat' first
   | (with_reducible exact ih0 _ _ _ _ _ _ _ _)
   | (with_reducible exact ih1 _ _ _ _ _ _ _ _)
   | (with_reducible exact ih2 _ _ _ _ _ _ _ _ _ _ _ _)
   | (with_reducible exact impl_Graph_areDirected.mono _ _ _ _)
   | (with_reducible exact impl_IsCover.mono _ _ _ _ _)
   | (with_reducible exact slices_Index_int64_int64.mono _ _ _)
   | (with_reducible exact LeO.refl _)
   | (with_reducible exact LeO.none _)
   | (with_reducible refine LeO.ite ?_ ?_)
   | (with_reducible refine LeO.bind ?_ (fun _ => ?_))
  ·intro y0 y1 y2 y3 y4 y5 y6 y7 y8 y9 y10 y11
   unfold impl_PermutationOfWalk.l2
   repeat' first
   | (with_reducible exact ih0 _ _ _ _ _ _ _ _)
   | (with_reducible exact ih1 _ _ _ _ _ _ _ _)
   | (with_reducible exact ih2 _ _ _ _ _ _ _ _ _ _ _ _)
   | (with_reducible exact impl_Graph_areDirected.mono _ _ _ _)
   | (with_reducible exact impl_IsCover.mono _ _ _ _ _)
   | (with_reducible exact slices_Index_int64_int64.mono _ _ _)
   | (with_reducible exact LeO.refl _)
   | (with_reducible exact LeO.none _)
   | (with_reducible refine LeO.ite ?_ ?_)
   | (with_reducible refine LeO.bind ?_ (fun _ => ?_))
theorem impl_PermutationOfWalk.mono : ∀ a0 a1 a2 a3 a4 k, LeO (impl_PermutationOfWalk.f k a0 a1 a2 a3 a4) (impl_PermutationOfWalk.f (k + 1) a0 a1 a2 a3 a4) := by
 intro a0 a1 a2 a3 a4 k
 obtain ⟨ih0, ih1, ih2⟩ := impl_PermutationOfWalk.mono_l k
 unfold impl_PermutationOfWalk.f
 repeat' first
   | (with_reducible exact ih0 _ _ _ _ _ _ _ _)
   | (with_reducible exact ih1 _ _ _ _ _ _ _ _)
   | (with_reducible exact ih2 _ _ _ _ _ _ _ _ _ _ _ _)
   | (with_reducible exact impl_Graph_areDirected.mono _ _ _ _)
   | (with_reducible exact impl_IsCover.mono _ _ _ _ _)
   | (with_reducible exact slices_Index_int64_int64.mono _ _ _)
   | (with_reducible exact LeO.refl _)
   | (with_reducible exact LeO.none _)
   | (with_reducible refine LeO.ite ?_ ?_)
   | (with_reducible refine LeO.bind ?_ (fun _ => ?_))
def impl_PermutationOfWalk.T9 : Bool × List (List Nat × List Nat) := (true, [([], []), ([0], [0]), ([], []), ([], []), ([3], [3]), ([], []), ([5], [5]), ([4, 6], [4, 6]), ([2, 7], [2, 7]), ([8], [8]), ([1, 9], [1, 9]), ([10], [10]), ([11], [11]), ([11], [11]), ([12, 10, 0, 1, 2, 3, 4, 5, 6, 7, 8, 9, 10, 11, 12], [12]), ([13, 14, 0, 1, 2, 3, 4, 5, 6, 7, 8, 9, 10, 11, 12, 13, 14], [13])])
def impl_PermutationOfWalk.B9 : List Nat := [0, 1, 0, 0, 8, 0, 32, 120, 252, 508, 1023, 2047, 4095, 4095, 8191, 32767]
theorem impl_PermutationOfWalk.tab9 : rtab .any (opsOf Try.f50 9) = impl_PermutationOfWalk.T9 := by kernel_rfl
theorem impl_PermutationOfWalk.bits9 : waitsOk impl_PermutationOfWalk.T9.2 impl_PermutationOfWalk.B9 = true := by kernel_rfl
set_option maxHeartbeats 8000000 in
set_option maxRecDepth 100000 in
theorem impl_PermutationOfWalk.calls (k : Nat) (a0_0 : Int) (A0_1 : Option Addr) (c0_1 : Nat) (l0_1 : List (List Int)) (a0_2 : Int) (A0_3 : Option Addr) (c0_3 : Nat) (l0_3 : List (List Int)) (A1 : Option Addr) (c1 : Nat) (l1 : List Int) (r1 : List Int) (r2 : Int) (w : World) (hr0_1 : Kd.C (Kd.slice 2 (Kd.int .i64)) w A0_1 l0_1.length l0_1) (hc0_1 : l0_1.length ≤ c0_1) (hr0_3 : Kd.C (Kd.slice 2 (Kd.int .i64)) w A0_3 l0_3.length l0_3) (hc0_3 : l0_3.length ≤ c0_3) (hr1 : Kd.C (Kd.int .i64) w A1 l1.length l1) (hc1 : l1.length ≤ c1) (h : impl_PermutationOfWalk.f k a0_0 l0_1 a0_2 l0_3 l1 = some (r1, r2)) :
  Calls Try.prog 50 #[.agg #[.int .i64 a0_0, .slice A0_1 l0_1.length c0_1, .int .i64 a0_2, .slice A0_3 l0_3.length c0_3], .slice A1 l1.length c1] w fun e w' => ∃ v0_ : Value, e = .returned (.tuple #[v0_, .int .i64 r2]) ∧ Kd.R (Kd.int .i64) 2 w' w.heap.size (fun _ => True) v0_ r1 ∧ Below w.heap.size w w' := by
 have hu46 := Try.underlying46
 have hu29 := Try.underlying29
 have HR0_1 := Aside0.mk hr0_1
 have HC0_1 := Aside0.mk hc0_1
 clear hr0_1 hc0_1
 have HR0_3 := Aside0.mk hr0_3
 have HC0_3 := Aside0.mk hc0_3
 clear hr0_3 hc0_3
 have HR1 := Aside0.mk hr1
 have HC1 := Aside0.mk hc1
 clear hr1 hc1
 have HB := Aside0.mk (Below.refl w.heap.size w)
 have H : ((impl_IsCover.f k a0_0 l0_1 a0_2 l0_3).bind fun t943 => (if t943 = true then ((impl_within.f (l1.length : Int) 1 20).bind fun t944 => (if t944 = true then ((impl_Graph_areDirected.f k a0_0 l0_1 l1).bind fun t945 => (if t945 = true then (impl_PermutationOfWalk.l0 k l1 l1 (l1.length : Int) 0 a0_0 l0_1 a0_2 l0_3) else (some (([] : List Int), 2)))) else (some (([] : List Int), 2)))) else (some (([] : List Int), 1)))) = some (r1, r2) := h
 clear h
 replace H := Option.bind_eq_some_iff.mp H
 obtain ⟨t943, A30, H⟩ := H
 replace H : (if t943 = true then ((impl_within.f (l1.length : Int) 1 20).bind fun t944 => (if t944 = true then ((impl_Graph_areDirected.f k a0_0 l0_1 l1).bind fun t945 => (if t945 = true then (impl_PermutationOfWalk.l0 k l1 l1 (l1.length : Int) 0 a0_0 l0_1 a0_2 l0_3) else (some (([] : List Int), 2)))) else (some (([] : List Int), 2)))) else (some (([] : List Int), 1))) = some (r1, r2) := H
 have A3 := Aside0.mk A30
 clear A30
 by_cases c4 : t943 = true
 ·subst c4
  have H1 : ((impl_within.f (l1.length : Int) 1 20).bind fun t944 => (if t944 = true then ((impl_Graph_areDirected.f k a0_0 l0_1 l1).bind fun t945 => (if t945 = true then (impl_PermutationOfWalk.l0 k l1 l1 (l1.length : Int) 0 a0_0 l0_1 a0_2 l0_3) else (some (([] : List Int), 2)))) else (some (([] : List Int), 2)))) = some (r1, r2) := by rw [if_pos rfl] at H; exact H
  clear H
  have H := H1
  clear H1
  replace H := Option.bind_eq_some_iff.mp H
  obtain ⟨t944, A50, H⟩ := H
  replace H : (if t944 = true then ((impl_Graph_areDirected.f k a0_0 l0_1 l1).bind fun t945 => (if t945 = true then (impl_PermutationOfWalk.l0 k l1 l1 (l1.length : Int) 0 a0_0 l0_1 a0_2 l0_3) else (some (([] : List Int), 2)))) else (some (([] : List Int), 2))) = some (r1, r2) := H
  have A5 := Aside0.mk A50
  clear A50
  by_cases c6 : t944 = true
  ·subst c6
   have H1 : ((impl_Graph_areDirected.f k a0_0 l0_1 l1).bind fun t945 => (if t945 = true then (impl_PermutationOfWalk.l0 k l1 l1 (l1.length : Int) 0 a0_0 l0_1 a0_2 l0_3) else (some (([] : List Int), 2)))) = some (r1, r2) := by rw [if_pos rfl] at H; exact H
   clear H
   have H := H1
   clear H1
   replace H := Option.bind_eq_some_iff.mp H
   obtain ⟨t945, A70, H⟩ := H
   replace H : (if t945 = true then (impl_PermutationOfWalk.l0 k l1 l1 (l1.length : Int) 0 a0_0 l0_1 a0_2 l0_3) else (some (([] : List Int), 2))) = some (r1, r2) := H
   have A7 := Aside0.mk A70
   clear A70
   by_cases c8 : t945 = true
   ·subst c8
    have H1 : (impl_PermutationOfWalk.l0 k l1 l1 (l1.length : Int) 0 a0_0 l0_1 a0_2 l0_3) = some (r1, r2) := by rw [if_pos rfl] at H; exact H
    clear H
    have H := H1
    clear H1
    have H' := Aside0.mk H
    clear H
    go_enter Try.func50, Try.ntmps50
    go_wp2_with (first | ((with_reducible refine gate_dst (N := 2) rfl ?_); refine box_event ?hg (N := 2) ?hd (cs := #[.int .i64 a0_0, .slice A0_1 l0_1.length c0_1, .int .i64 a0_2, .slice A0_3 l0_3.length c0_3]) (t := 46) ?hr ?_; (case hd => rfl); (case hg => rfl); (case hr => first | (go_simp; done) | (go_simp; rfl)); intro gb942 hg w9 hbox hb; have n0_ := Aside0.mk (below_step (by repeat (first | (with_reducible first | exact HB.out | apply below_alloc | apply pw_below_drewN | apply below_drew1) | exact HB.out)) hb); have n1_ := Aside0.mk (hbox); have n2_ := Aside0.mk ((by rw [hg]; exact (below_size (by repeat (first | (with_reducible first | exact HB.out | apply below_alloc | apply pw_below_drewN | apply below_drew1) | exact HB.out))) : w.heap.size ≤ gb942)); have n3_ := Aside0.mk ((by rw [hg]; exact (below_size (by repeat (first | (with_reducible first | exact HB.out | apply below_alloc | apply pw_below_drewN | apply below_drew1) | exact HB.out))) : w.heap.size ≤ gb942)); clear HB; have HB := n0_; have BK942 := n1_; have GW942 := n2_; have GE942 := n3_; clear n0_ n1_ n2_ n3_; clear hb hbox hg; have hcz10_0 : w9.cell? ⟨gb942, 0, none⟩ = some (.int .i64 a0_0) := (blk_cell BK942.out 0).trans rfl; have hcz10_1 : w9.cell? ⟨gb942, 1, none⟩ = some (.slice A0_1 l0_1.length c0_1) := (blk_cell BK942.out 1).trans rfl; have hcz10_2 : w9.cell? ⟨gb942, 2, none⟩ = some (.int .i64 a0_2) := (blk_cell BK942.out 2).trans rfl; have hcz10_3 : w9.cell? ⟨gb942, 3, none⟩ = some (.slice A0_3 l0_3.length c0_3) := (blk_cell BK942.out 3).trans rfl; have hfz10_0 := blk_frozen BK942.out 0; have hfz10_1 := blk_frozen BK942.out 1; have hfz10_2 := blk_frozen BK942.out 2; have hfz10_3 := blk_frozen BK942.out 3) | ((with_reducible refine gate_callee (f := 35) rfl ?_); refine goesL_ (some 19) rfl rfl Try.func35 (by kernel_rfl) rfl #[.agg #[.int .i64 a0_0, .slice A0_1 l0_1.length c0_1, .int .i64 a0_2, .slice A0_3 l0_3.length c0_3]] rfl (by (try simp only [List.map_toArray, List.map_cons, List.map_nil]); first | done | rfl | (simp only [List.length_drop, List.length_take]; rfl)) ?_; (with_reducible refine (impl_IsCover.calls k a0_0 _ _ l0_1 a0_2 _ _ l0_3 true _ ?side1 ?side2 ?side3 ?side4 A3.out).mono ?_); (case side1 => repeat (first | exact (Kd.C_below HR0_1.out HB.out) | (with_reducible refine Kd.C_alloc ?_ _) | (with_reducible refine Kd.C_drewN ?_ _) | (with_reducible refine Kd.C_drew ?_))); (case side2 => exact HC0_1.out); (case side3 => repeat (first | exact (Kd.C_below HR0_3.out HB.out) | (with_reducible refine Kd.C_alloc ?_ _) | (with_reducible refine Kd.C_drewN ?_ _) | (with_reducible refine Kd.C_drew ?_))); (case side4 => exact HC0_3.out); rintro e w11 ⟨rfl, hb⟩; refine ⟨_, rfl, ?_⟩; have n0_ := Aside0.mk (blk_below (g := gb942) (o := .cells #[.int .i64 a0_0, .slice A0_1 l0_1.length c0_1, .int .i64 a0_2, .slice A0_3 l0_3.length c0_3] 46 (0, 0)) (by (with_reducible repeat (first | refine blk_drewN ?_ _ | refine blk_drew ?_ | refine blk_alloc ?_ _)); exact BK942.out) hb); have n1_ := Aside0.mk (below_step (by repeat (first | (with_reducible first | exact HB.out | apply below_alloc | apply pw_below_drewN | apply below_drew1 | refine below_set ?_ GE942.out) | exact HB.out)) hb); clear BK942; clear HB; have BK942 := n0_; have HB := n1_; clear n0_ n1_; (try clear hb); (try clear hb2); (try clear hk); (try clear hi)) | ((with_reducible refine gate_callee (f := 71) rfl ?_); refine goesL_ (some 24) rfl rfl Try.func71 (by kernel_rfl) rfl #[.int .i64 (l1.length : Int), .int .i64 1, .int .i64 20] rfl (by (try simp only [List.map_toArray, List.map_cons, List.map_nil]); first | done | rfl | (simp only [List.length_drop, List.length_take]; rfl)) ?_; (with_reducible refine (impl_within.calls (l1.length : Int) 1 20 true _ A5.out).mono ?_); rintro e w' ⟨rfl, ⟨nd, rfl⟩⟩; refine ⟨_, rfl, ?_⟩; have hcz12_0 : w11.cell? ⟨gb942, 0, none⟩ = some (.int .i64 a0_0) := (blk_cell BK942.out 0).trans rfl; have hcz12_1 : w11.cell? ⟨gb942, 1, none⟩ = some (.slice A0_1 l0_1.length c0_1) := (blk_cell BK942.out 1).trans rfl; have hcz12_2 : w11.cell? ⟨gb942, 2, none⟩ = some (.int .i64 a0_2) := (blk_cell BK942.out 2).trans rfl; have hcz12_3 : w11.cell? ⟨gb942, 3, none⟩ = some (.slice A0_3 l0_3.length c0_3) := (blk_cell BK942.out 3).trans rfl; have hfz12_0 := blk_frozen BK942.out 0; have hfz12_1 := blk_frozen BK942.out 1; have hfz12_2 := blk_frozen BK942.out 2; have hfz12_3 := blk_frozen BK942.out 3) | (go_at_call 66; (with_reducible refine (impl_Graph_areDirected.calls k a0_0 _ _ l0_1 _ _ l1 true _ ?side1 ?side2 ?side3 ?side4 A7.out).mono ?_); (case side1 => repeat (first | exact (Kd.C_below HR0_1.out (by repeat (first | (with_reducible first | exact HB.out | apply below_alloc | apply pw_below_drewN | apply below_drew1 | refine below_set ?_ GE942.out) | exact HB.out))) | (with_reducible refine Kd.C_alloc ?_ _) | (with_reducible refine Kd.C_drewN ?_ _) | (with_reducible refine Kd.C_drew ?_))); (case side2 => exact HC0_1.out); (case side3 => repeat (first | exact (Kd.C_below HR1.out (by repeat (first | (with_reducible first | exact HB.out | apply below_alloc | apply pw_below_drewN | apply below_drew1 | refine below_set ?_ GE942.out) | exact HB.out))) | (with_reducible refine Kd.C_alloc ?_ _) | (with_reducible refine Kd.C_drewN ?_ _) | (with_reducible refine Kd.C_drew ?_))); (case side4 => exact HC1.out); rintro e w13 ⟨rfl, hb⟩; have n0_ := Aside0.mk (blk_below (g := gb942) (o := .cells #[.int .i64 a0_0, .slice A0_1 l0_1.length c0_1, .int .i64 a0_2, .slice A0_3 l0_3.length c0_3] 46 (0, 0)) (by (with_reducible repeat (first | refine blk_drewN ?_ _ | refine blk_drew ?_ | refine blk_alloc ?_ _)); exact BK942.out) hb); have n1_ := Aside0.mk (below_step (by repeat (first | (with_reducible first | exact HB.out | apply below_alloc | apply pw_below_drewN | apply below_drew1 | refine below_set ?_ GE942.out) | exact HB.out)) hb); clear BK942; clear HB; have BK942 := n0_; have HB := n1_; clear n0_ n1_; (try clear hb); (try clear hb2); (try clear hk); (try clear hi)))
    go_loopg [35] k (fun kq v35 w' => ∃ (x35_1 : Int), v35 = .int .i64 x35_1 ∧ Aside0 (impl_PermutationOfWalk.l0 kq l1 l1 (l1.length : Int) x35_1 a0_0 l0_1 a0_2 l0_3 = some (r1, r2)) ∧ Aside0 (kq ≤ k) ∧ Aside0 (w'.heap[gb942]? = some (.cells #[.int .i64 a0_0, (.slice A0_1 l0_1.length c0_1), .int .i64 a0_2, (.slice A0_3 l0_3.length c0_3)] 46 (0, 0))) ∧ Aside0 (Below w.heap.size w w'))
    case atStart => exact ⟨(0), (by first | rfl | (simp; done) | (simp [*]; done)), H', ⟨Nat.le_refl _⟩, ⟨by (with_reducible repeat (first | refine blk_drewN ?_ _ | refine blk_drew ?_ | refine blk_alloc ?_ _)); exact BK942.out⟩, ⟨by repeat (first | (with_reducible first | exact HB.out | apply below_alloc | apply pw_below_drewN | apply below_drew1 | refine below_set ?_ GE942.out) | exact HB.out)⟩⟩
    case round =>
     clear H'
     try clear c1
     try clear p2
     try clear c3
     try clear c4
     try clear c5
     try clear c6
     try clear c7
     try clear c8
     try clear hcz10_0
     try clear hcz10_1
     try clear hcz10_2
     try clear hcz10_3
     try clear hcz12_0
     try clear hcz12_1
     try clear hcz12_2
     try clear hcz12_3
     try clear hfz10_0
     try clear hfz10_1
     try clear hfz10_2
     try clear hfz10_3
     try clear hfz12_0
     try clear hfz12_1
     try clear hfz12_2
     try clear hfz12_3
     obtain ⟨x35_1, rfl, HA, HK1, BK942, HB⟩ := hrel
     cases gk with
     | zero => exact absurd HA.out (by simp [impl_PermutationOfWalk.l0])
     | succ k1 =>
      have H := HA.out
      clear HA
      simp only [impl_PermutationOfWalk.l0] at H
      by_cases c14 : x35_1 < (l1.length : Int)
      ·rw [if_pos c14] at H
       have c14b0 : decide (x35_1 < (l1.length : Int)) = true := decide_eq_true c14
       clear c14
       by_cases c15 : 0 ≤ x35_1
       ·rw [if_pos c15] at H
        have c15b0 : decide (0 ≤ x35_1) = true := decide_eq_true c15
        clear c15
        by_cases c16 : x35_1 < (l1.length : Int)
        ·rw [if_pos c16] at H
         have c16b0 : decide (x35_1 < (l1.length : Int)) = true := decide_eq_true c16
         clear c16
         replace H := Option.bind_eq_some_iff.mp H
         obtain ⟨⟨t947, t948⟩, A170, H⟩ := H
         replace H : (if (l1.length : Int) = 0 then (none) else (if 0 ≤ (Int.tmod (wrap64 (x35_1 + 1)) (l1.length : Int)) then (if (Int.tmod (wrap64 (x35_1 + 1)) (l1.length : Int)) < (l1.length : Int) then ((impl_Graph_ends.f a0_0 l0_1 (rd l1 (Int.tmod (wrap64 (x35_1 + 1)) (l1.length : Int)))).bind fun bt950 => (if bt950.1 = t948 then (impl_PermutationOfWalk.l0 k1 l1 l1 (l1.length : Int) (wrap64 (x35_1 + 1)) a0_0 l0_1 a0_2 l0_3) else (some (([] : List Int), 5)))) else (none)) else (none))) = some (r1, r2) := H
         have A17 := Aside0.mk A170
         clear A170
         by_cases c18 : (l1.length : Int) = 0
         ·rw [if_pos c18] at H
          exact absurd H (by simp)
         ·rw [if_neg c18] at H
          have c18b0 : ((l1.length : Int) == 0) = false := beq_eq_false_iff_ne.mpr c18
          have c18b1 : ((l1.length : Int) != 0) = true := bne_iff_ne.mpr c18
          have c18b2 : ¬ (l1 = []) := fun h_ => c18 (by rw [h_]; rfl)
          obtain ⟨ji19, hji19⟩ : ∃ j_ : Int, (Int.tmod (wrap64 (x35_1 + 1)) (l1.length : Int)) = j_ := ⟨_, rfl⟩
          (try rw [hji19])
          replace H : (if 0 ≤ (ji19) then (if (ji19) < (l1.length : Int) then ((impl_Graph_ends.f a0_0 l0_1 (rd l1 (ji19))).bind fun bt950 => (if bt950.1 = t948 then (impl_PermutationOfWalk.l0 k1 l1 l1 (l1.length : Int) (wrap64 (x35_1 + 1)) a0_0 l0_1 a0_2 l0_3) else (some (([] : List Int), 5)))) else (none)) else (none)) = some (r1, r2) := by first | (rw [hji19] at H; exact H) | (simp only [hji19] at H ⊢; exact H)
          (try rw [hji19] at A17)
          by_cases c20 : 0 ≤ (ji19)
          ·rw [if_pos c20] at H
           have c20b0 : decide (0 ≤ (ji19)) = true := decide_eq_true c20
           clear c20
           by_cases c21 : (ji19) < (l1.length : Int)
           ·rw [if_pos c21] at H
            have c21b0 : decide ((ji19) < (l1.length : Int)) = true := decide_eq_true c21
            clear c21
            replace H := Option.bind_eq_some_iff.mp H
            obtain ⟨⟨t950, t951⟩, A220, H⟩ := H
            replace H : (if t950 = t948 then (impl_PermutationOfWalk.l0 k1 l1 l1 (l1.length : Int) (wrap64 (x35_1 + 1)) a0_0 l0_1 a0_2 l0_3) else (some (([] : List Int), 5))) = some (r1, r2) := H
            have A22 := Aside0.mk A220
            clear A220
            by_cases c23 : t950 = t948
            ·rw [if_pos c23] at H
             have c23b0 : (t950 == t948) = true := beq_iff_eq.mpr c23
             have c23b1 : (t950 != t948) = false := bne_eq_false_iff_eq.mpr c23
             clear c23
             have H' := Aside0.mk H
             clear H
             have p946 : 0 ≤ (x35_1 : Int) := of_decide_eq_true (by assumption)
             have q946 : x35_1 < (l1.length : Int) := of_decide_eq_true (by assumption)
             obtain ⟨ad946, e946, hx946_0⟩ := Kd.at_int HR1.out x35_1 p946 q946
             cases e946
             replace hx946_0 := (HB.out.cell (World.block_lt_of_cell? w _ hx946_0)).trans hx946_0
             replace p946 := eq_true p946
             replace q946 := eq_true q946
             have hcz24_0 : wr.cell? ⟨gb942, 0, none⟩ = some (.int .i64 a0_0) := (blk_cell BK942.out 0).trans rfl
             have hcz24_1 : wr.cell? ⟨gb942, 1, none⟩ = some (.slice A0_1 l0_1.length c0_1) := (blk_cell BK942.out 1).trans rfl
             have hcz24_2 : wr.cell? ⟨gb942, 2, none⟩ = some (.int .i64 a0_2) := (blk_cell BK942.out 2).trans rfl
             have hcz24_3 : wr.cell? ⟨gb942, 3, none⟩ = some (.slice A0_3 l0_3.length c0_3) := (blk_cell BK942.out 3).trans rfl
             have hfz24_0 := blk_frozen BK942.out 0
             have hfz24_1 := blk_frozen BK942.out 1
             have hfz24_2 := blk_frozen BK942.out 2
             have hfz24_3 := blk_frozen BK942.out 3
             try go_wp2_with (first | ((with_reducible refine gate_callee (f := 87) rfl ?_); refine goesL_ (some 44) rfl rfl Try.func87 (by kernel_rfl) rfl #[.agg #[.int .i64 a0_0, .slice A0_1 l0_1.length c0_1], .int .i64 (rd l1 x35_1)] rfl (by (try simp only [List.map_toArray, List.map_cons, List.map_nil]); first | done | rfl | (simp only [List.length_drop, List.length_take]; rfl)) ?_; (with_reducible refine (impl_Graph_ends.calls a0_0 _ _ l0_1 (rd l1 x35_1) t947 t948 _ ?side1 ?side2 A17.out).mono ?_); (case side1 => repeat (first | exact (Kd.C_below HR0_1.out HB.out) | (with_reducible refine Kd.C_alloc ?_ _) | (with_reducible refine Kd.C_drewN ?_ _) | (with_reducible refine Kd.C_drew ?_))); (case side2 => exact HC0_1.out); rintro e w25 ⟨rfl, hb⟩; refine ⟨_, rfl, ?_⟩; have n0_ := Aside0.mk (blk_below (g := gb942) (o := .cells #[.int .i64 a0_0, .slice A0_1 l0_1.length c0_1, .int .i64 a0_2, .slice A0_3 l0_3.length c0_3] 46 (0, 0)) (by (with_reducible repeat (first | refine blk_drewN ?_ _ | refine blk_drew ?_ | refine blk_alloc ?_ _)); exact BK942.out) hb); have n1_ := Aside0.mk (below_step (by repeat (first | (with_reducible first | exact HB.out | apply below_alloc | apply pw_below_drewN | apply below_drew1 | refine below_set ?_ GE942.out) | exact HB.out)) hb); clear BK942; clear HB; have BK942 := n0_; have HB := n1_; clear n0_ n1_; (try clear hb); (try clear hb2); (try clear hk); (try clear hi)))
             have n0_ := Aside0.mk (blk_drew BK942.out)
             have n1_ := Aside0.mk (below_drew1 HB.out)
             clear BK942
             clear HB
             have BK942 := n0_
             have HB := n1_
             clear n0_ n1_
             have p949 : 0 ≤ ((ji19) : Int) := of_decide_eq_true (by assumption)
             have q949 : (ji19) < (l1.length : Int) := of_decide_eq_true (by assumption)
             obtain ⟨ad949, e949, hx949_0⟩ := Kd.at_int HR1.out (ji19) p949 q949
             have hw949_0 := hx949_0
             obtain rfl : ad946 = ad949 := (by injection e949)
             replace hx949_0 := (HB.out.cell (World.block_lt_of_cell? w _ hx949_0)).trans hx949_0
             replace p949 := eq_true p949
             replace q949 := eq_true q949
             refine start_ (n := 16) (S := fun w' => w'.cell? ⟨gb942, 0, none⟩ = some (.int .i64 a0_0) ∧ w'.cell? ⟨gb942, 1, none⟩ = some (.slice A0_1 l0_1.length c0_1) ∧ w'.cell? ⟨gb942, 2, none⟩ = some (.int .i64 a0_2) ∧ w'.cell? ⟨gb942, 3, none⟩ = some (.slice A0_3 l0_3.length c0_3) ∧ w'.cell? (ad946.add ((ji19)).toNat) = some (.int .i64 (rd l1 (ji19)))) (ds := []) #[false, false, false, false, false, false, false, false, false, false, false, false, false, false, false, false] (by kernel_rfl) rfl rfl ⟨(blk_cell BK942.out 0).trans rfl, (blk_cell BK942.out 1).trans rfl, (blk_cell BK942.out 2).trans rfl, (blk_cell BK942.out 3).trans rfl, ((HB.out.cell (World.block_lt_of_cell? _ _ hw949_0)).trans hw949_0)⟩ (fun hHeld => ?_); refine with_tabW impl_PermutationOfWalk.tab9 impl_PermutationOfWalk.bits9 (fun HT_ HW_ => ?_)
             generalize w25.drew = w26 at BK942 HB hx949_0 hHeld ⊢
             refine pure_ (i := 0) (N := some 48) (v := ?_) (a' := ?_) #[true, false, false, false, false, false, false, false, false, false, false, false, false, false, false, false] rfl rfl (any_of HT_.out (by kernel_rfl)) (fun _ _ _ h => h) (Or.inl ⟨by rfl, ?_⟩) ?_ ?_
             rotate_left
             ·intro w'
              go_simp
              with_reducible rfl
             rotate_left
             ·simp only [Act.put, nf_]
              rfl
             refine pure_ (i := 2) (N := some 50) (v := ?_) (a' := ?_) #[true, false, true, false, false, false, false, false, false, false, false, false, false, false, false, false] rfl rfl (any_of HT_.out (by kernel_rfl)) (fun _ _ _ h => h) (Or.inl ⟨by rfl, ?_⟩) ?_ ?_
             rotate_left
             ·intro w'
              go_simp
              with_reducible rfl
             rotate_left
             ·simp only [Act.put, nf_]
              rfl
             refine pure_ (i := 3) (N := some 51) (v := ?_) (a' := ?_) #[true, false, true, true, false, false, false, false, false, false, false, false, false, false, false, false] rfl rfl (any_of HT_.out (by kernel_rfl)) (fun _ _ _ h => h) (Or.inl ⟨by rfl, ?_⟩) ?_ ?_
             rotate_left
             ·intro w'
              go_simp
              with_reducible rfl
             rotate_left
             ·simp only [Act.put, nf_]
              rfl
             refine pure_ (i := 4) (N := some 52) (v := ?_) (a' := ?_) #[true, false, true, true, true, false, false, false, false, false, false, false, false, false, false, false] rfl rfl (any_of HT_.out (by kernel_rfl)) (fun _ _ _ h => h) (Or.inl ⟨by rfl, ?_⟩) ?_ ?_
             rotate_left
             ·intro w'
              go_simp
              with_reducible rfl
             rotate_left
             ·simp only [Act.put, nf_]
              rfl
             refine pure_ (i := 5) (N := some 53) (v := ?_) (a' := ?_) #[true, false, true, true, true, true, false, false, false, false, false, false, false, false, false, false] rfl rfl (any_of HT_.out (by kernel_rfl)) (fun _ _ _ h => h) (Or.inl ⟨by rfl, ?_⟩) ?_ ?_
             rotate_left
             ·intro w'
              go_simp
              with_reducible rfl
             rotate_left
             ·simp only [Act.put, nf_]
              rfl
             refine pure_ (i := 6) (N := some 54) (v := ?_) (a' := ?_) #[true, false, true, true, true, true, true, false, false, false, false, false, false, false, false, false] rfl rfl (any_of HT_.out (by kernel_rfl)) (fun _ _ _ h => h) (Or.inl ⟨by rfl, ?_⟩) ?_ ?_
             rotate_left
             ·intro w'
              go_simp
              with_reducible rfl
             rotate_left
             ·simp only [Act.put, nf_]
              rfl
             refine pure_ (i := 7) (N := some 55) (v := ?_) (a' := ?_) #[true, false, true, true, true, true, true, true, false, false, false, false, false, false, false, false] rfl rfl (any_of HT_.out (by kernel_rfl)) (fun _ _ _ h => h) (Or.inl ⟨by rfl, ?_⟩) ?_ ?_
             rotate_left
             ·intro w'
              go_simp
              with_reducible rfl
             rotate_left
             ·simp only [Act.put, nf_]
              rfl
             refine pure_ (i := 8) (N := some 56) (v := ?_) (a' := ?_) #[true, false, true, true, true, true, true, true, true, false, false, false, false, false, false, false] rfl rfl (any_of HT_.out (by kernel_rfl)) (fun _ _ _ h => h) (Or.inl ⟨by rfl, ?_⟩) ?_ ?_
             rotate_left
             ·intro w'
              go_simp
              with_reducible rfl
             rotate_left
             ·simp only [Act.put, nf_]
              rfl
             refine take_ (i := 1) (N := some 49) (v := ?_) (a' := ?_) #[true, true, true, true, true, true, true, true, true, false, false, false, false, false, false, false] rfl rfl (take_ofW HT_.out HW_.out (by kernel_rfl)) (fun _ _ _ h => h) (Or.inl ⟨by rfl, ?_⟩) hHeld ?_ ?_
             rotate_left
             ·rintro w' ⟨s0, s1, s2, s3, s4⟩
              go_simp
              with_reducible rfl
             rotate_left
             ·simp only [Act.put, nf_]
              rfl
             refine take_ (i := 9) (N := some 57) (v := ?_) (a' := ?_) #[true, true, true, true, true, true, true, true, true, true, false, false, false, false, false, false] rfl rfl (take_ofW HT_.out HW_.out (by kernel_rfl)) (fun _ _ _ h => h) (Or.inl ⟨by rfl, ?_⟩) hHeld ?_ ?_
             rotate_left
             ·rintro w' ⟨s0, s1, s2, s3, s4⟩
              go_simp
              with_reducible rfl
             rotate_left
             ·simp only [Act.put, nf_]
              rfl
             refine one_ (i := 10) (N := some 58) #[true, true, true, true, true, true, true, true, true, true, true, false, false, false, false, false] rfl rfl (one_of HT_.out (by kernel_rfl)) (by decide) (fun K hK => ?_)
             refine goes_ Try.func87 (by kernel_rfl) rfl #[.agg #[.int .i64 a0_0, .slice A0_1 l0_1.length c0_1], .int .i64 (rd l1 (ji19))] (by rfl) rfl rfl (by (try simp only [List.map_toArray, List.map_cons, List.map_nil]); first | done | (simp only [hji19]; rfl) | rfl | (simp only [List.length_drop, List.length_take]; rfl)) ?_
             with_reducible refine (impl_Graph_ends.calls a0_0 _ _ l0_1 (rd l1 (ji19)) t950 t951 _ ?side1 ?side2 A22.out).mono ?_
             (case side1 => repeat (first | exact (Kd.C_below HR0_1.out HB.out) | (with_reducible refine Kd.C_alloc ?_ _) | (with_reducible refine Kd.C_drewN ?_ _) | (with_reducible refine Kd.C_drew ?_)))
             (case side2 => exact HC0_1.out)
             rintro e w27 ⟨rfl, hb⟩
             refine ⟨_, rfl, ?_⟩
             have n0_ := Aside0.mk (blk_below (g := gb942) (o := .cells #[.int .i64 a0_0, .slice A0_1 l0_1.length c0_1, .int .i64 a0_2, .slice A0_3 l0_3.length c0_3] 46 (0, 0)) (by (with_reducible repeat (first | refine blk_drewN ?_ _ | refine blk_drew ?_ | refine blk_alloc ?_ _)); exact BK942.out) hb)
             have n1_ := Aside0.mk (below_step (by repeat (first | (with_reducible first | exact HB.out | apply below_alloc | apply pw_below_drewN | apply below_drew1 | refine below_set ?_ GE942.out) | exact HB.out)) hb)
             clear BK942
             clear HB
             have BK942 := n0_
             have HB := n1_
             clear n0_ n1_
             (try clear hb)
             (try clear hb2)
             (try clear hk)
             (try clear hi)
             refine hK.out _ _ ⟨(blk_cell BK942.out 0).trans rfl, (blk_cell BK942.out 1).trans rfl, (blk_cell BK942.out 2).trans rfl, (blk_cell BK942.out 3).trans rfl, ((HB.out.cell (World.block_lt_of_cell? _ _ hw949_0)).trans hw949_0)⟩ (fun hHeld => ?_)
             clear hK K
             refine norm_ (a' := ?_) ?_ ?_
             rotate_left
             ·show Act.put _ (some 58) _ = _
              simp only [Act.put, nf_]
              rfl
             refine pure_ (i := 11) (N := some 47) (v := ?_) (a' := ?_) #[true, true, true, true, true, true, true, true, true, true, true, true, false, false, false, false] rfl rfl (any_of HT_.out (by kernel_rfl)) (fun _ _ _ h => h) (Or.inl ⟨by rfl, ?_⟩) ?_ ?_
             rotate_left
             ·intro w'
              go_simp
              with_reducible rfl
             rotate_left
             ·simp only [Act.put, nf_]
              rfl
             refine pure_ (i := 12) (N := some 59) (v := ?_) (a' := ?_) #[true, true, true, true, true, true, true, true, true, true, true, true, true, false, false, false] rfl rfl (any_of HT_.out (by kernel_rfl)) (fun _ _ _ h => h) (Or.inl ⟨by rfl, ?_⟩) ?_ ?_
             rotate_left
             ·intro w'
              go_simp
              with_reducible rfl
             rotate_left
             ·simp only [Act.put, nf_]
              rfl
             refine pure_ (i := 13) (N := some 60) (v := ?_) (a' := ?_) #[true, true, true, true, true, true, true, true, true, true, true, true, true, true, false, false] rfl rfl (any_of HT_.out (by kernel_rfl)) (fun _ _ _ h => h) (Or.inl ⟨by rfl, ?_⟩) ?_ ?_
             rotate_left
             ·intro w'
              go_simp
              with_reducible rfl
             rotate_left
             ·simp only [Act.put, nf_]
              rfl
             refine pure_ (i := 14) (N := some 10) (v := ?_) (a' := ?_) #[true, true, true, true, true, true, true, true, true, true, true, true, true, true, true, false] rfl rfl (any_of HT_.out (by kernel_rfl)) (fun _ _ _ h => h) (Or.inl ⟨by rfl, ?_⟩) ?_ ?_
             rotate_left
             ·intro w'
              go_simp
              with_reducible rfl
             rotate_left
             ·simp only [Act.put, nf_]
              rfl
             refine pure_ (i := 15) (N := some 11) (v := ?_) (a' := ?_) #[true, true, true, true, true, true, true, true, true, true, true, true, true, true, true, true] rfl rfl (any_of HT_.out (by kernel_rfl)) (fun _ _ _ h => h) (Or.inl ⟨by rfl, ?_⟩) ?_ ?_
             rotate_left
             ·intro w'
              go_simp
              with_reducible rfl
             rotate_left
             ·simp only [Act.put, nf_]
              rfl
             refine done_ (done_of HT_.out (by kernel_rfl)) ?_
             try go_wp2
             first | (go_roundg k1) | ((try subst hji19); (go_roundg k1))
             case measure => have := HK1.out; omega
             case rel => exact ⟨(wrap64 (x35_1 + 1)), (by first | rfl | (simp; done) | (simp [*]; done)), H', ⟨by have := HK1.out; omega⟩, ⟨by (with_reducible repeat (first | refine blk_drewN ?_ _ | refine blk_drew ?_ | refine blk_alloc ?_ _)); exact BK942.out⟩, ⟨by repeat (first | (with_reducible first | exact HB.out | apply below_alloc | apply pw_below_drewN | apply below_drew1 | refine below_set ?_ GE942.out) | exact HB.out)⟩⟩
            ·rw [if_neg c23] at H
             have c23b0 : (t950 == t948) = false := beq_eq_false_iff_ne.mpr c23
             have c23b1 : (t950 != t948) = true := bne_iff_ne.mpr c23
             simp only [Option.some.injEq, Prod.mk.injEq] at H
             obtain ⟨rfl, rfl⟩ := H
             have p946 : 0 ≤ (x35_1 : Int) := of_decide_eq_true (by assumption)
             have q946 : x35_1 < (l1.length : Int) := of_decide_eq_true (by assumption)
             obtain ⟨ad946, e946, hx946_0⟩ := Kd.at_int HR1.out x35_1 p946 q946
             cases e946
             replace hx946_0 := (HB.out.cell (World.block_lt_of_cell? w _ hx946_0)).trans hx946_0
             replace p946 := eq_true p946
             replace q946 := eq_true q946
             have hcz28_0 : wr.cell? ⟨gb942, 0, none⟩ = some (.int .i64 a0_0) := (blk_cell BK942.out 0).trans rfl
             have hcz28_1 : wr.cell? ⟨gb942, 1, none⟩ = some (.slice A0_1 l0_1.length c0_1) := (blk_cell BK942.out 1).trans rfl
             have hcz28_2 : wr.cell? ⟨gb942, 2, none⟩ = some (.int .i64 a0_2) := (blk_cell BK942.out 2).trans rfl
             have hcz28_3 : wr.cell? ⟨gb942, 3, none⟩ = some (.slice A0_3 l0_3.length c0_3) := (blk_cell BK942.out 3).trans rfl
             have hfz28_0 := blk_frozen BK942.out 0
             have hfz28_1 := blk_frozen BK942.out 1
             have hfz28_2 := blk_frozen BK942.out 2
             have hfz28_3 := blk_frozen BK942.out 3
             try go_wp2_with (first | ((with_reducible refine gate_callee (f := 87) rfl ?_); refine goesL_ (some 44) rfl rfl Try.func87 (by kernel_rfl) rfl #[.agg #[.int .i64 a0_0, .slice A0_1 l0_1.length c0_1], .int .i64 (rd l1 x35_1)] rfl (by (try simp only [List.map_toArray, List.map_cons, List.map_nil]); first | done | rfl | (simp only [List.length_drop, List.length_take]; rfl)) ?_; (with_reducible refine (impl_Graph_ends.calls a0_0 _ _ l0_1 (rd l1 x35_1) t947 t948 _ ?side1 ?side2 A17.out).mono ?_); (case side1 => repeat (first | exact (Kd.C_below HR0_1.out HB.out) | (with_reducible refine Kd.C_alloc ?_ _) | (with_reducible refine Kd.C_drewN ?_ _) | (with_reducible refine Kd.C_drew ?_))); (case side2 => exact HC0_1.out); rintro e w29 ⟨rfl, hb⟩; refine ⟨_, rfl, ?_⟩; have n0_ := Aside0.mk (blk_below (g := gb942) (o := .cells #[.int .i64 a0_0, .slice A0_1 l0_1.length c0_1, .int .i64 a0_2, .slice A0_3 l0_3.length c0_3] 46 (0, 0)) (by (with_reducible repeat (first | refine blk_drewN ?_ _ | refine blk_drew ?_ | refine blk_alloc ?_ _)); exact BK942.out) hb); have n1_ := Aside0.mk (below_step (by repeat (first | (with_reducible first | exact HB.out | apply below_alloc | apply pw_below_drewN | apply below_drew1 | refine below_set ?_ GE942.out) | exact HB.out)) hb); clear BK942; clear HB; have BK942 := n0_; have HB := n1_; clear n0_ n1_; (try clear hb); (try clear hb2); (try clear hk); (try clear hi)))
             have n0_ := Aside0.mk (blk_drew BK942.out)
             have n1_ := Aside0.mk (below_drew1 HB.out)
             clear BK942
             clear HB
             have BK942 := n0_
             have HB := n1_
             clear n0_ n1_
             have p949 : 0 ≤ ((ji19) : Int) := of_decide_eq_true (by assumption)
             have q949 : (ji19) < (l1.length : Int) := of_decide_eq_true (by assumption)
             obtain ⟨ad949, e949, hx949_0⟩ := Kd.at_int HR1.out (ji19) p949 q949
             have hw949_0 := hx949_0
             obtain rfl : ad946 = ad949 := (by injection e949)
             replace hx949_0 := (HB.out.cell (World.block_lt_of_cell? w _ hx949_0)).trans hx949_0
             replace p949 := eq_true p949
             replace q949 := eq_true q949
             refine start_ (n := 16) (S := fun w' => w'.cell? ⟨gb942, 0, none⟩ = some (.int .i64 a0_0) ∧ w'.cell? ⟨gb942, 1, none⟩ = some (.slice A0_1 l0_1.length c0_1) ∧ w'.cell? ⟨gb942, 2, none⟩ = some (.int .i64 a0_2) ∧ w'.cell? ⟨gb942, 3, none⟩ = some (.slice A0_3 l0_3.length c0_3) ∧ w'.cell? (ad946.add ((ji19)).toNat) = some (.int .i64 (rd l1 (ji19)))) (ds := []) #[false, false, false, false, false, false, false, false, false, false, false, false, false, false, false, false] (by kernel_rfl) rfl rfl ⟨(blk_cell BK942.out 0).trans rfl, (blk_cell BK942.out 1).trans rfl, (blk_cell BK942.out 2).trans rfl, (blk_cell BK942.out 3).trans rfl, ((HB.out.cell (World.block_lt_of_cell? _ _ hw949_0)).trans hw949_0)⟩ (fun hHeld => ?_); refine with_tabW impl_PermutationOfWalk.tab9 impl_PermutationOfWalk.bits9 (fun HT_ HW_ => ?_)
             generalize w29.drew = w30 at BK942 HB hx949_0 hHeld ⊢
             refine pure_ (i := 0) (N := some 48) (v := ?_) (a' := ?_) #[true, false, false, false, false, false, false, false, false, false, false, false, false, false, false, false] rfl rfl (any_of HT_.out (by kernel_rfl)) (fun _ _ _ h => h) (Or.inl ⟨by rfl, ?_⟩) ?_ ?_
             rotate_left
             ·intro w'
              go_simp
              with_reducible rfl
             rotate_left
             ·simp only [Act.put, nf_]
              rfl
             refine pure_ (i := 2) (N := some 50) (v := ?_) (a' := ?_) #[true, false, true, false, false, false, false, false, false, false, false, false, false, false, false, false] rfl rfl (any_of HT_.out (by kernel_rfl)) (fun _ _ _ h => h) (Or.inl ⟨by rfl, ?_⟩) ?_ ?_
             rotate_left
             ·intro w'
              go_simp
              with_reducible rfl
             rotate_left
             ·simp only [Act.put, nf_]
              rfl
             refine pure_ (i := 3) (N := some 51) (v := ?_) (a' := ?_) #[true, false, true, true, false, false, false, false, false, false, false, false, false, false, false, false] rfl rfl (any_of HT_.out (by kernel_rfl)) (fun _ _ _ h => h) (Or.inl ⟨by rfl, ?_⟩) ?_ ?_
             rotate_left
             ·intro w'
              go_simp
              with_reducible rfl
             rotate_left
             ·simp only [Act.put, nf_]
              rfl
             refine pure_ (i := 4) (N := some 52) (v := ?_) (a' := ?_) #[true, false, true, true, true, false, false, false, false, false, false, false, false, false, false, false] rfl rfl (any_of HT_.out (by kernel_rfl)) (fun _ _ _ h => h) (Or.inl ⟨by rfl, ?_⟩) ?_ ?_
             rotate_left
             ·intro w'
              go_simp
              with_reducible rfl
             rotate_left
             ·simp only [Act.put, nf_]
              rfl
             refine pure_ (i := 5) (N := some 53) (v := ?_) (a' := ?_) #[true, false, true, true, true, true, false, false, false, false, false, false, false, false, false, false] rfl rfl (any_of HT_.out (by kernel_rfl)) (fun _ _ _ h => h) (Or.inl ⟨by rfl, ?_⟩) ?_ ?_
             rotate_left
             ·intro w'
              go_simp
              with_reducible rfl
             rotate_left
             ·simp only [Act.put, nf_]
              rfl
             refine pure_ (i := 6) (N := some 54) (v := ?_) (a' := ?_) #[true, false, true, true, true, true, true, false, false, false, false, false, false, false, false, false] rfl rfl (any_of HT_.out (by kernel_rfl)) (fun _ _ _ h => h) (Or.inl ⟨by rfl, ?_⟩) ?_ ?_
             rotate_left
             ·intro w'
              go_simp
              with_reducible rfl
             rotate_left
             ·simp only [Act.put, nf_]
              rfl
             refine pure_ (i := 7) (N := some 55) (v := ?_) (a' := ?_) #[true, false, true, true, true, true, true, true, false, false, false, false, false, false, false, false] rfl rfl (any_of HT_.out (by kernel_rfl)) (fun _ _ _ h => h) (Or.inl ⟨by rfl, ?_⟩) ?_ ?_
             rotate_left
             ·intro w'
              go_simp
              with_reducible rfl
             rotate_left
             ·simp only [Act.put, nf_]
              rfl
             refine pure_ (i := 8) (N := some 56) (v := ?_) (a' := ?_) #[true, false, true, true, true, true, true, true, true, false, false, false, false, false, false, false] rfl rfl (any_of HT_.out (by kernel_rfl)) (fun _ _ _ h => h) (Or.inl ⟨by rfl, ?_⟩) ?_ ?_
             rotate_left
             ·intro w'
              go_simp
              with_reducible rfl
             rotate_left
             ·simp only [Act.put, nf_]
              rfl
             refine take_ (i := 1) (N := some 49) (v := ?_) (a' := ?_) #[true, true, true, true, true, true, true, true, true, false, false, false, false, false, false, false] rfl rfl (take_ofW HT_.out HW_.out (by kernel_rfl)) (fun _ _ _ h => h) (Or.inl ⟨by rfl, ?_⟩) hHeld ?_ ?_
             rotate_left
             ·rintro w' ⟨s0, s1, s2, s3, s4⟩
              go_simp
              with_reducible rfl
             rotate_left
             ·simp only [Act.put, nf_]
              rfl
             refine take_ (i := 9) (N := some 57) (v := ?_) (a' := ?_) #[true, true, true, true, true, true, true, true, true, true, false, false, false, false, false, false] rfl rfl (take_ofW HT_.out HW_.out (by kernel_rfl)) (fun _ _ _ h => h) (Or.inl ⟨by rfl, ?_⟩) hHeld ?_ ?_
             rotate_left
             ·rintro w' ⟨s0, s1, s2, s3, s4⟩
              go_simp
              with_reducible rfl
             rotate_left
             ·simp only [Act.put, nf_]
              rfl
             refine one_ (i := 10) (N := some 58) #[true, true, true, true, true, true, true, true, true, true, true, false, false, false, false, false] rfl rfl (one_of HT_.out (by kernel_rfl)) (by decide) (fun K hK => ?_)
             refine goes_ Try.func87 (by kernel_rfl) rfl #[.agg #[.int .i64 a0_0, .slice A0_1 l0_1.length c0_1], .int .i64 (rd l1 (ji19))] (by rfl) rfl rfl (by (try simp only [List.map_toArray, List.map_cons, List.map_nil]); first | done | (simp only [hji19]; rfl) | rfl | (simp only [List.length_drop, List.length_take]; rfl)) ?_
             with_reducible refine (impl_Graph_ends.calls a0_0 _ _ l0_1 (rd l1 (ji19)) t950 t951 _ ?side1 ?side2 A22.out).mono ?_
             (case side1 => repeat (first | exact (Kd.C_below HR0_1.out HB.out) | (with_reducible refine Kd.C_alloc ?_ _) | (with_reducible refine Kd.C_drewN ?_ _) | (with_reducible refine Kd.C_drew ?_)))
             (case side2 => exact HC0_1.out)
             rintro e w31 ⟨rfl, hb⟩
             refine ⟨_, rfl, ?_⟩
             have n0_ := Aside0.mk (blk_below (g := gb942) (o := .cells #[.int .i64 a0_0, .slice A0_1 l0_1.length c0_1, .int .i64 a0_2, .slice A0_3 l0_3.length c0_3] 46 (0, 0)) (by (with_reducible repeat (first | refine blk_drewN ?_ _ | refine blk_drew ?_ | refine blk_alloc ?_ _)); exact BK942.out) hb)
             have n1_ := Aside0.mk (below_step (by repeat (first | (with_reducible first | exact HB.out | apply below_alloc | apply pw_below_drewN | apply below_drew1 | refine below_set ?_ GE942.out) | exact HB.out)) hb)
             clear BK942
             clear HB
             have BK942 := n0_
             have HB := n1_
             clear n0_ n1_
             (try clear hb)
             (try clear hb2)
             (try clear hk)
             (try clear hi)
             refine hK.out _ _ ⟨(blk_cell BK942.out 0).trans rfl, (blk_cell BK942.out 1).trans rfl, (blk_cell BK942.out 2).trans rfl, (blk_cell BK942.out 3).trans rfl, ((HB.out.cell (World.block_lt_of_cell? _ _ hw949_0)).trans hw949_0)⟩ (fun hHeld => ?_)
             clear hK K
             refine norm_ (a' := ?_) ?_ ?_
             rotate_left
             ·show Act.put _ (some 58) _ = _
              simp only [Act.put, nf_]
              rfl
             refine pure_ (i := 11) (N := some 47) (v := ?_) (a' := ?_) #[true, true, true, true, true, true, true, true, true, true, true, true, false, false, false, false] rfl rfl (any_of HT_.out (by kernel_rfl)) (fun _ _ _ h => h) (Or.inl ⟨by rfl, ?_⟩) ?_ ?_
             rotate_left
             ·intro w'
              go_simp
              with_reducible rfl
             rotate_left
             ·simp only [Act.put, nf_]
              rfl
             refine pure_ (i := 12) (N := some 59) (v := ?_) (a' := ?_) #[true, true, true, true, true, true, true, true, true, true, true, true, true, false, false, false] rfl rfl (any_of HT_.out (by kernel_rfl)) (fun _ _ _ h => h) (Or.inl ⟨by rfl, ?_⟩) ?_ ?_
             rotate_left
             ·intro w'
              go_simp
              with_reducible rfl
             rotate_left
             ·simp only [Act.put, nf_]
              rfl
             refine pure_ (i := 13) (N := some 60) (v := ?_) (a' := ?_) #[true, true, true, true, true, true, true, true, true, true, true, true, true, true, false, false] rfl rfl (any_of HT_.out (by kernel_rfl)) (fun _ _ _ h => h) (Or.inl ⟨by rfl, ?_⟩) ?_ ?_
             rotate_left
             ·intro w'
              go_simp
              with_reducible rfl
             rotate_left
             ·simp only [Act.put, nf_]
              rfl
             refine pure_ (i := 14) (N := some 10) (v := ?_) (a' := ?_) #[true, true, true, true, true, true, true, true, true, true, true, true, true, true, true, false] rfl rfl (any_of HT_.out (by kernel_rfl)) (fun _ _ _ h => h) (Or.inl ⟨by rfl, ?_⟩) ?_ ?_
             rotate_left
             ·intro w'
              go_simp
              with_reducible rfl
             rotate_left
             ·simp only [Act.put, nf_]
              rfl
             refine pure_ (i := 15) (N := some 11) (v := ?_) (a' := ?_) #[true, true, true, true, true, true, true, true, true, true, true, true, true, true, true, true] rfl rfl (any_of HT_.out (by kernel_rfl)) (fun _ _ _ h => h) (Or.inl ⟨by rfl, ?_⟩) ?_ ?_
             rotate_left
             ·intro w'
              go_simp
              with_reducible rfl
             rotate_left
             ·simp only [Act.put, nf_]
              rfl
             refine done_ (done_of HT_.out (by kernel_rfl)) ?_
             try go_wp2
             go_ret2
             exact ⟨_, by first | rfl | (simp [errW_none, errW_some] <;> rfl) | (simp only [← hji19]; first | rfl | (simp [errW_none, errW_some] <;> rfl)) | (simp [*, errW_none, errW_some] <;> rfl), by first | exact Kd.R_nil _ _ _ _ _ | exact Kd.N_nil _ _ _ _ _ | exact Kd.V_nil _ _ _ _ _ | exact Kd.Q_nil _ _ _ _ _ | exact Kd.S_nil _ _ _ _ _, by repeat (first | (with_reducible first | exact HB.out | apply below_alloc | apply pw_below_drewN | apply below_drew1 | refine below_set ?_ GE942.out) | exact HB.out)⟩
           ·rw [if_neg c21] at H
            exact absurd H (by simp)
          ·rw [if_neg c20] at H
           exact absurd H (by simp)
        ·rw [if_neg c16] at H
         exact absurd H (by simp)
       ·rw [if_neg c15] at H
        exact absurd H (by simp)
      ·rw [if_neg c14] at H
       have c14b0 : decide (x35_1 < (l1.length : Int)) = false := decide_eq_false c14
       clear c14
       obtain ⟨y952, hy952⟩ : ∃ y_ : List Int, y_ = (([] : List Int)) := ⟨_, rfl⟩
       replace H : (impl_PermutationOfWalk.l1 k1 l1 y952 a0_2 0 a0_0 l0_1 a0_2 l0_3) = some (r1, r2) := by first | (rw [hy952]; with_reducible exact H) | (have H2_ := (Option.bind_some _ _).symm.trans H; rw [hy952]; with_reducible exact H2_) | (have H2_ := (Option.bind_some _ _).symm.trans H; with_reducible exact H2_) | with_reducible exact H | (rw [hy952]; exact H) | exact H
       have Ny952 := Aside0.mk hy952
       clear hy952
       have H' := Aside0.mk H
       clear H
       go_wp2_with (first | ((with_reducible refine gate_dst (N := 65) rfl ?_); refine Kd.R_lit (Kd.int .i64) _ 2 ?hg (N := 65) ?hd (xs := ([] : List Int)) (inner := []) (ok := fun _ => True) (okp := fun _ => True) ?hr ?hp (fun _ hk => hk) trivial (Below.refl _ _) (Nat.le_refl _) (by simp) ?_; (case hd => rfl); (case hg => rfl); (case hr => first | (go_simp; done) | (go_simp; rfl)); (case hp => exact (Reps.none _ _)); intro v953 w32 ho33 hb hg_ hnew_; clear hg_ hnew_; (first | rw [← Ny952.out] at ho33 | (simp only [Int.reduceToNat] at ho33; rw [← Ny952.out] at ho33)); have n0_ := Aside0.mk (Kd.R_lower ho33 (below_size (by repeat (first | (with_reducible first | exact HB.out | apply below_alloc | apply pw_below_drewN | apply below_drew1 | refine below_set ?_ GE942.out) | exact HB.out)))); have n1_ := Aside0.mk (blk_below (g := gb942) (o := .cells #[.int .i64 a0_0, .slice A0_1 l0_1.length c0_1, .int .i64 a0_2, .slice A0_3 l0_3.length c0_3] 46 (0, 0)) (by (with_reducible repeat (first | refine blk_drewN ?_ _ | refine blk_drew ?_ | refine blk_alloc ?_ _)); exact BK942.out) hb); have n2_ := Aside0.mk (below_step (by repeat (first | (with_reducible first | exact HB.out | apply below_alloc | apply pw_below_drewN | apply below_drew1 | refine below_set ?_ GE942.out) | exact HB.out)) hb); clear BK942; clear HB; have HO954 := n0_; have BK942 := n1_; have HB := n2_; clear n0_ n1_ n2_; clear hb ho33; have hcz34_0 : w32.cell? ⟨gb942, 0, none⟩ = some (.int .i64 a0_0) := (blk_cell BK942.out 0).trans rfl; have hcz34_1 : w32.cell? ⟨gb942, 1, none⟩ = some (.slice A0_1 l0_1.length c0_1) := (blk_cell BK942.out 1).trans rfl; have hcz34_2 : w32.cell? ⟨gb942, 2, none⟩ = some (.int .i64 a0_2) := (blk_cell BK942.out 2).trans rfl; have hcz34_3 : w32.cell? ⟨gb942, 3, none⟩ = some (.slice A0_3 l0_3.length c0_3) := (blk_cell BK942.out 3).trans rfl; have hfz34_0 := blk_frozen BK942.out 0; have hfz34_1 := blk_frozen BK942.out 1; have hfz34_2 := blk_frozen BK942.out 2; have hfz34_3 := blk_frozen BK942.out 3))
       go_loopg [12, 68] k1 (fun kq v12 v68 w' => ∃ (x12_2 : List Int) (x68_2 : Int), v68 = .int .i64 x68_2 ∧ Aside0 (impl_PermutationOfWalk.l1 kq l1 x12_2 a0_2 x68_2 a0_0 l0_1 a0_2 l0_3 = some (r1, r2)) ∧ Aside0 (kq ≤ k1) ∧ Aside0 (Kd.R (Kd.int .i64) 2 w' w.heap.size (fun _ => True) v12 x12_2) ∧ Aside0 (w'.heap[gb942]? = some (.cells #[.int .i64 a0_0, (.slice A0_1 l0_1.length c0_1), .int .i64 a0_2, (.slice A0_3 l0_3.length c0_3)] 46 (0, 0))) ∧ Aside0 (Below w.heap.size w w'))
       case atStart => exact ⟨(y952), (0), (by first | rfl | (simp; done) | (simp [*]; done)), H', ⟨Nat.le_refl _⟩, ⟨by (with_reducible repeat (first | apply Kd.R_alloc | apply Kd.R_drewN | apply Kd.R_drew)); exact HO954.out⟩, ⟨by (with_reducible repeat (first | refine blk_drewN ?_ _ | refine blk_drew ?_ | refine blk_alloc ?_ _)); exact BK942.out⟩, ⟨by repeat (first | (with_reducible first | exact HB.out | apply below_alloc | apply pw_below_drewN | apply below_drew1 | refine below_set ?_ GE942.out) | exact HB.out)⟩⟩
       case round =>
        clear H'
        try clear c1
        try clear c2
        try clear p2
        try clear c3
        try clear c4
        try clear c5
        try clear c6
        try clear p6
        try clear c7
        try clear c8
        try clear p9
        try clear q9
        try clear hx9
        try clear c14
        try clear c14b0
        try clear c15
        try clear c15b0
        try clear c16
        try clear c16b0
        try clear c18
        try clear c18b0
        try clear c18b1
        try clear c18b2
        try clear c20
        try clear c20b0
        try clear c21
        try clear c21b0
        try clear c23
        try clear c23b0
        try clear c23b1
        try clear hcz10_0
        try clear hcz10_1
        try clear hcz10_2
        try clear hcz10_3
        try clear hcz12_0
        try clear hcz12_1
        try clear hcz12_2
        try clear hcz12_3
        try clear hcz24_0
        try clear hcz24_1
        try clear hcz24_2
        try clear hcz24_3
        try clear hcz28_0
        try clear hcz28_1
        try clear hcz28_2
        try clear hcz28_3
        try clear hcz34_0
        try clear hcz34_1
        try clear hcz34_2
        try clear hcz34_3
        try clear hfz10_0
        try clear hfz10_1
        try clear hfz10_2
        try clear hfz10_3
        try clear hfz12_0
        try clear hfz12_1
        try clear hfz12_2
        try clear hfz12_3
        try clear hfz24_0
        try clear hfz24_1
        try clear hfz24_2
        try clear hfz24_3
        try clear hfz28_0
        try clear hfz28_1
        try clear hfz28_2
        try clear hfz28_3
        try clear hfz34_0
        try clear hfz34_1
        try clear hfz34_2
        try clear hfz34_3
        try clear hx946_0
        try clear hx949_0
        try clear p2
        try clear p946
        try clear p949
        try clear q946
        try clear q949
        obtain ⟨x12_2, x68_2, rfl, HA, HK2, HO_12, BK942, HB⟩ := hrel
        cases gk with
        | zero => exact absurd HA.out (by simp [impl_PermutationOfWalk.l1])
        | succ k2 =>
         have H := HA.out
         clear HA
         simp only [impl_PermutationOfWalk.l1] at H
         by_cases c35 : x68_2 < a0_2
         ·rw [if_pos c35] at H
          have c35b0 : decide (x68_2 < a0_2) = true := decide_eq_true c35
          clear c35
          have H' := Aside0.mk H
          clear H
          go_wp2
          go_loopg [13, 73] k2 (fun kq v13 v73 w' => ∃ (x13_3 : Int) (x73_3 : Int), v13 = .int .i64 x13_3 ∧ v73 = .int .i64 x73_3 ∧ Aside0 (impl_PermutationOfWalk.l2 kq l1 x12_2 x13_3 a0_2 x68_2 l1 (l1.length : Int) x73_3 a0_0 l0_1 a0_2 l0_3 = some (r1, r2)) ∧ Aside0 (kq ≤ k2) ∧ Aside0 (Kd.R (Kd.int .i64) 2 w' w.heap.size (fun _ => True) u12 x12_2) ∧ Aside0 (w'.heap[gb942]? = some (.cells #[.int .i64 a0_0, (.slice A0_1 l0_1.length c0_1), .int .i64 a0_2, (.slice A0_3 l0_3.length c0_3)] 46 (0, 0))) ∧ Aside0 (Below w.heap.size w w'))
          case atStart => exact ⟨(x68_2), (0), (by first | rfl | (simp; done) | (simp [*]; done)), (by first | rfl | (simp; done) | (simp [*]; done)), H', ⟨Nat.le_refl _⟩, ⟨by (with_reducible repeat (first | apply Kd.R_alloc | apply Kd.R_drewN | apply Kd.R_drew)); exact HO_12.out⟩, ⟨by (with_reducible repeat (first | refine blk_drewN ?_ _ | refine blk_drew ?_ | refine blk_alloc ?_ _)); exact BK942.out⟩, ⟨by repeat (first | (with_reducible first | exact HB.out | apply below_alloc | apply pw_below_drewN | apply below_drew1 | refine below_set ?_ GE942.out) | exact HB.out)⟩⟩
          case round =>
           clear H'
           try clear c1
           try clear c2
           try clear p2
           try clear c3
           try clear c4
           try clear c5
           try clear c6
           try clear p6
           try clear c7
           try clear c8
           try clear p9
           try clear q9
           try clear hx9
           try clear c14
           try clear c14b0
           try clear c15
           try clear c15b0
           try clear c16
           try clear c16b0
           try clear c18
           try clear c18b0
           try clear c18b1
           try clear c18b2
           try clear c20
           try clear c20b0
           try clear c21
           try clear c21b0
           try clear c23
           try clear c23b0
           try clear c23b1
           try clear c35
           try clear c35b0
           try clear hcz10_0
           try clear hcz10_1
           try clear hcz10_2
           try clear hcz10_3
           try clear hcz12_0
           try clear hcz12_1
           try clear hcz12_2
           try clear hcz12_3
           try clear hcz24_0
           try clear hcz24_1
           try clear hcz24_2
           try clear hcz24_3
           try clear hcz28_0
           try clear hcz28_1
           try clear hcz28_2
           try clear hcz28_3
           try clear hcz34_0
           try clear hcz34_1
           try clear hcz34_2
           try clear hcz34_3
           try clear hfz10_0
           try clear hfz10_1
           try clear hfz10_2
           try clear hfz10_3
           try clear hfz12_0
           try clear hfz12_1
           try clear hfz12_2
           try clear hfz12_3
           try clear hfz24_0
           try clear hfz24_1
           try clear hfz24_2
           try clear hfz24_3
           try clear hfz28_0
           try clear hfz28_1
           try clear hfz28_2
           try clear hfz28_3
           try clear hfz34_0
           try clear hfz34_1
           try clear hfz34_2
           try clear hfz34_3
           try clear hx946_0
           try clear hx949_0
           try clear p2
           try clear p6
           try clear p9
           try clear p946
           try clear p949
           try clear q9
           try clear q946
           try clear q949
           obtain ⟨x13_3, x73_3, rfl, rfl, HA, HK3, HO_12, BK942, HB⟩ := hrel
           cases gk with
           | zero => exact absurd HA.out (by simp [impl_PermutationOfWalk.l2])
           | succ k3 =>
            have H := HA.out
            clear HA
            simp only [impl_PermutationOfWalk.l2] at H
            by_cases c36 : x73_3 < (l1.length : Int)
            ·rw [if_pos c36] at H
             have c36b0 : decide (x73_3 < (l1.length : Int)) = true := decide_eq_true c36
             clear c36
             by_cases c37 : 0 ≤ x73_3
             ·rw [if_pos c37] at H
              have c37b0 : decide (0 ≤ x73_3) = true := decide_eq_true c37
              clear c37
              by_cases c38 : x73_3 < (l1.length : Int)
              ·rw [if_pos c38] at H
               have c38b0 : decide (x73_3 < (l1.length : Int)) = true := decide_eq_true c38
               clear c38
               obtain ⟨ji39, hji39⟩ : ∃ j_ : Int, (wrap64 (Int.tdiv (rd l1 x73_3) 2)) = j_ := ⟨_, rfl⟩
               (try rw [hji39])
               replace H : (if 0 ≤ (ji39) then (if (ji39) < (l0_3.length : Int) then (if (Int.tmod (rd l1 x73_3) 2) = 0 then (if 0 ≤ x13_3 then (if x13_3 < ((rd_L1 l0_3 (ji39)).length : Int) then (impl_PermutationOfWalk.l2 k3 l1 x12_2 (rd (rd_L1 l0_3 (ji39)) x13_3) a0_2 x68_2 l1 (l1.length : Int) (wrap64 (x73_3 + 1)) a0_0 l0_1 a0_2 l0_3) else (none)) else (none)) else ((slices_Index_int64_int64.f k3 (rd_L1 l0_3 (ji39)) x13_3).bind fun t958 => (impl_PermutationOfWalk.l2 k3 l1 x12_2 t958 a0_2 x68_2 l1 (l1.length : Int) (wrap64 (x73_3 + 1)) a0_0 l0_1 a0_2 l0_3))) else (none)) else (none)) = some (r1, r2) := by first | (rw [hji39] at H; exact H) | (simp only [hji39] at H ⊢; exact H)
               have hji39w : (IntKind.i64.wrap (Int.tdiv (rd l1 x73_3) 2)) = ji39 := (i64_w _).trans hji39
               by_cases c40 : 0 ≤ (ji39)
               ·rw [if_pos c40] at H
                have c40b0 : decide (0 ≤ (ji39)) = true := decide_eq_true c40
                clear c40
                by_cases c41 : (ji39) < (l0_3.length : Int)
                ·rw [if_pos c41] at H
                 have c41b0 : decide ((ji39) < (l0_3.length : Int)) = true := decide_eq_true c41
                 clear c41
                 by_cases c42 : (Int.tmod (rd l1 x73_3) 2) = 0
                 ·rw [if_pos c42] at H
                  have c42b0 : ((Int.tmod (rd l1 x73_3) 2) == 0) = true := beq_iff_eq.mpr c42
                  have c42b1 : ((Int.tmod (rd l1 x73_3) 2) != 0) = false := bne_eq_false_iff_eq.mpr c42
                  clear c42
                  by_cases c43 : 0 ≤ x13_3
                  ·rw [if_pos c43] at H
                   have c43b0 : decide (0 ≤ x13_3) = true := decide_eq_true c43
                   clear c43
                   by_cases c44 : x13_3 < ((rd_L1 l0_3 (ji39)).length : Int)
                   ·rw [if_pos c44] at H
                    have c44b0 : decide (x13_3 < ((rd_L1 l0_3 (ji39)).length : Int)) = true := decide_eq_true c44
                    clear c44
                    have H' := Aside0.mk H
                    clear H
                    have p955 : 0 ≤ (x73_3 : Int) := of_decide_eq_true (by assumption)
                    have q955 : x73_3 < (l1.length : Int) := of_decide_eq_true (by assumption)
                    obtain ⟨ad955, e955, hx955_0⟩ := Kd.at_int HR1.out x73_3 p955 q955
                    cases e955
                    replace hx955_0 := (HB.out.cell (World.block_lt_of_cell? w _ hx955_0)).trans hx955_0
                    replace p955 := eq_true p955
                    replace q955 := eq_true q955
                    have hcz45_0 : wr.cell? ⟨gb942, 0, none⟩ = some (.int .i64 a0_0) := (blk_cell BK942.out 0).trans rfl
                    have hcz45_1 : wr.cell? ⟨gb942, 1, none⟩ = some (.slice A0_1 l0_1.length c0_1) := (blk_cell BK942.out 1).trans rfl
                    have hcz45_2 : wr.cell? ⟨gb942, 2, none⟩ = some (.int .i64 a0_2) := (blk_cell BK942.out 2).trans rfl
                    have hcz45_3 : wr.cell? ⟨gb942, 3, none⟩ = some (.slice A0_3 l0_3.length c0_3) := (blk_cell BK942.out 3).trans rfl
                    have hfz45_0 := blk_frozen BK942.out 0
                    have hfz45_1 := blk_frozen BK942.out 1
                    have hfz45_2 := blk_frozen BK942.out 2
                    have hfz45_3 := blk_frozen BK942.out 3
                    have p956 : 0 ≤ ((ji39) : Int) := of_decide_eq_true (by assumption)
                    have q956 : (ji39) < (l0_3.length : Int) := of_decide_eq_true (by assumption)
                    obtain ⟨ad956, A956_0, c956_0, e956, hx956_0, hl956_0, hi956_0⟩ := at_L1 HR0_3.out (ji39) p956 q956
                    cases e956
                    replace hx956_0 := (HB.out.cell (World.block_lt_of_cell? w _ hx956_0)).trans hx956_0
                    have HR956_0 := Aside0.mk hi956_0
                    have HC956_0 := Aside0.mk hl956_0
                    clear hi956_0 hl956_0
                    replace p956 := eq_true p956
                    replace q956 := eq_true q956
                    have p957 : 0 ≤ (x13_3 : Int) := of_decide_eq_true (by assumption)
                    have q957 : x13_3 < ((rd_L1 l0_3 (ji39)).length : Int) := of_decide_eq_true (by assumption)
                    obtain ⟨ad957, e957, hx957_0⟩ := Kd.at_int HR956_0.out x13_3 p957 q957
                    cases e957
                    replace hx957_0 := (HB.out.cell (World.block_lt_of_cell? w _ hx957_0)).trans hx957_0
                    replace p957 := eq_true p957
                    replace q957 := eq_true q957
                    go_wp2
                    first | (first | go_roundg k3 | (refine Handed.intro k3 ?measure ?_; rotate_left; go_step; (try simp only [add_plain]); (repeat apply Exists.intro); refine ⟨?rel, rfl⟩)) | ((try subst hji39); (first | go_roundg k3 | (refine Handed.intro k3 ?measure ?_; rotate_left; go_step; (try simp only [add_plain]); (repeat apply Exists.intro); refine ⟨?rel, rfl⟩)))
                    case measure => have := HK1.out; have := HK2.out; have := HK3.out; omega
                    case rel => exact ⟨(rd (rd_L1 l0_3 (ji39)) x13_3), (wrap64 (x73_3 + 1)), (by first | rfl | (simp; done) | (simp only [← hji39] <;> (first | rfl | simp)) | (simp [*]; done)), (by first | rfl | (simp; done) | (simp [*]; done)), H', ⟨by have := HK1.out; have := HK2.out; have := HK3.out; omega⟩, ⟨by (with_reducible repeat (first | apply Kd.R_alloc | apply Kd.R_drewN | apply Kd.R_drew)); exact HO_12.out⟩, ⟨by (with_reducible repeat (first | refine blk_drewN ?_ _ | refine blk_drew ?_ | refine blk_alloc ?_ _)); exact BK942.out⟩, ⟨by repeat (first | (with_reducible first | exact HB.out | apply below_alloc | apply pw_below_drewN | apply below_drew1 | refine below_set ?_ GE942.out) | exact HB.out)⟩⟩
                   ·rw [if_neg c44] at H
                    exact absurd H (by simp)
                  ·rw [if_neg c43] at H
                   exact absurd H (by simp)
                 ·rw [if_neg c42] at H
                  have c42b0 : ((Int.tmod (rd l1 x73_3) 2) == 0) = false := beq_eq_false_iff_ne.mpr c42
                  have c42b1 : ((Int.tmod (rd l1 x73_3) 2) != 0) = true := bne_iff_ne.mpr c42
                  replace H := Option.bind_eq_some_iff.mp H
                  obtain ⟨t958, A460, H⟩ := H
                  replace H : (impl_PermutationOfWalk.l2 k3 l1 x12_2 t958 a0_2 x68_2 l1 (l1.length : Int) (wrap64 (x73_3 + 1)) a0_0 l0_1 a0_2 l0_3) = some (r1, r2) := H
                  have A46 := Aside0.mk A460
                  clear A460
                  have H' := Aside0.mk H
                  clear H
                  have p955 : 0 ≤ (x73_3 : Int) := of_decide_eq_true (by assumption)
                  have q955 : x73_3 < (l1.length : Int) := of_decide_eq_true (by assumption)
                  obtain ⟨ad955, e955, hx955_0⟩ := Kd.at_int HR1.out x73_3 p955 q955
                  cases e955
                  replace hx955_0 := (HB.out.cell (World.block_lt_of_cell? w _ hx955_0)).trans hx955_0
                  replace p955 := eq_true p955
                  replace q955 := eq_true q955
                  have hcz47_0 : wr.cell? ⟨gb942, 0, none⟩ = some (.int .i64 a0_0) := (blk_cell BK942.out 0).trans rfl
                  have hcz47_1 : wr.cell? ⟨gb942, 1, none⟩ = some (.slice A0_1 l0_1.length c0_1) := (blk_cell BK942.out 1).trans rfl
                  have hcz47_2 : wr.cell? ⟨gb942, 2, none⟩ = some (.int .i64 a0_2) := (blk_cell BK942.out 2).trans rfl
                  have hcz47_3 : wr.cell? ⟨gb942, 3, none⟩ = some (.slice A0_3 l0_3.length c0_3) := (blk_cell BK942.out 3).trans rfl
                  have hfz47_0 := blk_frozen BK942.out 0
                  have hfz47_1 := blk_frozen BK942.out 1
                  have hfz47_2 := blk_frozen BK942.out 2
                  have hfz47_3 := blk_frozen BK942.out 3
                  have p956 : 0 ≤ ((ji39) : Int) := of_decide_eq_true (by assumption)
                  have q956 : (ji39) < (l0_3.length : Int) := of_decide_eq_true (by assumption)
                  obtain ⟨ad956, A956_0, c956_0, e956, hx956_0, hl956_0, hi956_0⟩ := at_L1 HR0_3.out (ji39) p956 q956
                  cases e956
                  replace hx956_0 := (HB.out.cell (World.block_lt_of_cell? w _ hx956_0)).trans hx956_0
                  have HR956_0 := Aside0.mk hi956_0
                  have HC956_0 := Aside0.mk hl956_0
                  clear hi956_0 hl956_0
                  replace p956 := eq_true p956
                  replace q956 := eq_true q956
                  go_wp2_with (first | ((with_reducible refine gate_callee (f := 88) rfl ?_); refine goesL_ (some 92) rfl rfl Try.func88 (by kernel_rfl) rfl #[.slice A956_0 (rd_L1 l0_3 (ji39)).length c956_0, .int .i64 x13_3] rfl (by (try simp only [List.map_toArray, List.map_cons, List.map_nil]); first | done | (simp only [hji39]; rfl) | rfl | (simp only [List.length_drop, List.length_take]; rfl)) ?_; (with_reducible refine (slices_Index_int64_int64.calls k3 _ _ (rd_L1 l0_3 (ji39)) x13_3 t958 _ ?side1 ?side2 A46.out).mono ?_); (case side1 => repeat (first | exact (Kd.C_below HR956_0.out HB.out) | (with_reducible refine Kd.C_alloc ?_ _) | (with_reducible refine Kd.C_drewN ?_ _) | (with_reducible refine Kd.C_drew ?_))); (case side2 => exact HC956_0.out); rintro e w' ⟨rfl, ⟨nd, rfl⟩⟩; refine ⟨_, rfl, ?_⟩))
                  first | (first | go_roundg k3 | (refine Handed.intro k3 ?measure ?_; rotate_left; go_step; (try simp only [add_plain]); (repeat apply Exists.intro); refine ⟨?rel, rfl⟩)) | ((try subst hji39); (first | go_roundg k3 | (refine Handed.intro k3 ?measure ?_; rotate_left; go_step; (try simp only [add_plain]); (repeat apply Exists.intro); refine ⟨?rel, rfl⟩)))
                  case measure => have := HK1.out; have := HK2.out; have := HK3.out; omega
                  case rel => exact ⟨(t958), (wrap64 (x73_3 + 1)), (by first | rfl | (simp; done) | (simp [*]; done)), (by first | rfl | (simp; done) | (simp [*]; done)), H', ⟨by have := HK1.out; have := HK2.out; have := HK3.out; omega⟩, ⟨by (with_reducible repeat (first | apply Kd.R_alloc | apply Kd.R_drewN | apply Kd.R_drew)); exact HO_12.out⟩, ⟨by (with_reducible repeat (first | refine blk_drewN ?_ _ | refine blk_drew ?_ | refine blk_alloc ?_ _)); exact BK942.out⟩, ⟨by repeat (first | (with_reducible first | exact HB.out | apply below_alloc | apply pw_below_drewN | apply below_drew1 | refine below_set ?_ GE942.out) | exact HB.out)⟩⟩
                ·rw [if_neg c41] at H
                 exact absurd H (by simp)
               ·rw [if_neg c40] at H
                exact absurd H (by simp)
              ·rw [if_neg c38] at H
               exact absurd H (by simp)
             ·rw [if_neg c37] at H
              exact absurd H (by simp)
            ·rw [if_neg c36] at H
             have c36b0 : decide (x73_3 < (l1.length : Int)) = false := decide_eq_false c36
             clear c36
             by_cases c48 : x12_2.length < 17592186044416
             ·rw [if_pos c48] at H
              have LMc48 := Aside0.mk c48
              clear c48
              obtain ⟨y959, hy959⟩ : ∃ y_ : List Int, y_ = (x12_2 ++ [x13_3]) := ⟨_, rfl⟩
              replace H : (impl_PermutationOfWalk.l1 k3 l1 y959 a0_2 (wrap64 (x68_2 + 1)) a0_0 l0_1 a0_2 l0_3) = some (r1, r2) := by first | (rw [hy959]; with_reducible exact H) | (have H2_ := (Option.bind_some _ _).symm.trans H; rw [hy959]; with_reducible exact H2_) | (have H2_ := (Option.bind_some _ _).symm.trans H; with_reducible exact H2_) | with_reducible exact H | (rw [hy959]; exact H) | exact H
              have Ny959 := Aside0.mk hy959
              clear hy959
              have H' := Aside0.mk H
              clear H
              go_wp2_with (first | ((with_reducible refine gate_builtin (b := .append) (xs := #[.tmp 94, .tmp 96]) rfl ?_); at_builtin; refine Kd.R_append (Kd.int .i64) (w0 := w) w.heap.size rfl (.tmp 94) (.tmp 96) 25 2 (.int .i64 0) 8 rfl Try.underlying25 info2 rfl (by decide) (by omega) u12 x12_2 x13_3 [.int .i64 x13_3] (fun _ => True) (fun _ => False) rfl rfl ?aP (fun _ hk => hk.elim) ?aF ?aO ?aB ?aS ?aL ?_; (case aP => exact rfl); (case aB => exact (by repeat (first | (with_reducible first | exact HB.out | apply below_alloc | apply pw_below_drewN | apply below_drew1 | refine below_set ?_ GE942.out) | exact HB.out))); (case aF => exact (fun _ _ => trivial)); (case aO => exact (by (with_reducible repeat (first | apply Kd.R_alloc | apply Kd.R_drewN | apply Kd.R_drew)); exact HO_12.out)); (case aS => exact (below_size (by repeat (first | (with_reducible first | exact HB.out | apply below_alloc | apply pw_below_drewN | apply below_drew1 | refine below_set ?_ GE942.out) | exact HB.out)))); (case aL => have := LMc48.out; omega); intro v960 w49 ho hb hg hat; rw [← Ny959.out] at ho; have n0_ := Aside0.mk (blk_grown (g := gb942) (o := .cells #[.int .i64 a0_0, .slice A0_1 l0_1.length c0_1, .int .i64 a0_2, .slice A0_3 l0_3.length c0_3] 46 (0, 0)) (by (with_reducible repeat (first | refine blk_drewN ?_ _ | refine blk_drew ?_ | refine blk_alloc ?_ _)); exact BK942.out) hg (Kd.R_ne HO_12.out BK942.out (by decide))); have n1_ := Aside0.mk (hb); have n2_ := Aside0.mk (ho); clear BK942; clear HB; clear HO_12; have BK942 := n0_; have HB := n1_; have HO961 := n2_; clear n0_ n1_ n2_; clear ho hb hg hat))
              first | go_roundg k3 | (refine Handed.intro k3 ?measure ?_; rotate_left; go_step; (try simp only [add_plain]); (repeat apply Exists.intro); refine ⟨?rel, rfl⟩)
              case measure => have := HK1.out; have := HK2.out; have := HK3.out; omega
              case rel => exact ⟨(y959), (wrap64 (x68_2 + 1)), (by first | rfl | (simp; done) | (simp [*]; done)), H', ⟨by have := HK1.out; have := HK2.out; have := HK3.out; omega⟩, ⟨by (with_reducible repeat (first | apply Kd.R_alloc | apply Kd.R_drewN | apply Kd.R_drew)); exact HO961.out⟩, ⟨by (with_reducible repeat (first | refine blk_drewN ?_ _ | refine blk_drew ?_ | refine blk_alloc ?_ _)); exact BK942.out⟩, ⟨by repeat (first | (with_reducible first | exact HB.out | apply below_alloc | apply pw_below_drewN | apply below_drew1 | refine below_set ?_ GE942.out) | exact HB.out)⟩⟩
             ·rw [if_neg c48] at H
              exact absurd H (by simp)
         ·rw [if_neg c35] at H
          have c35b0 : decide (x68_2 < a0_2) = false := decide_eq_false c35
          clear c35
          simp only [Option.some.injEq, Prod.mk.injEq] at H
          obtain ⟨rfl, rfl⟩ := H
          go_wp2
          go_ret2
          exact ⟨_, by first | rfl | (simp [errW_none, errW_some] <;> rfl) | (simp [*, errW_none, errW_some] <;> rfl), by (with_reducible repeat (first | apply Kd.R_alloc | apply Kd.R_drewN | apply Kd.R_drew)); exact HO_12.out, by repeat (first | (with_reducible first | exact HB.out | apply below_alloc | apply pw_below_drewN | apply below_drew1 | refine below_set ?_ GE942.out) | exact HB.out)⟩
   ·replace c8 := Bool.eq_false_iff.mpr c8
    subst c8
    have H1 : (some (([] : List Int), 2)) = some (r1, r2) := by rw [if_neg (show ¬ (false = true) by decide)] at H; exact H
    clear H
    have H := H1
    clear H1
    simp only [Option.some.injEq, Prod.mk.injEq] at H
    obtain ⟨rfl, rfl⟩ := H
    go_enter Try.func50, Try.ntmps50
    go_wp2_with (first | ((with_reducible refine gate_dst (N := 2) rfl ?_); refine box_event ?hg (N := 2) ?hd (cs := #[.int .i64 a0_0, .slice A0_1 l0_1.length c0_1, .int .i64 a0_2, .slice A0_3 l0_3.length c0_3]) (t := 46) ?hr ?_; (case hd => rfl); (case hg => rfl); (case hr => first | (go_simp; done) | (go_simp; rfl)); intro gb942 hg w50 hbox hb; have n0_ := Aside0.mk (below_step (by repeat (first | (with_reducible first | exact HB.out | apply below_alloc | apply pw_below_drewN | apply below_drew1) | exact HB.out)) hb); have n1_ := Aside0.mk (hbox); have n2_ := Aside0.mk ((by rw [hg]; exact (below_size (by repeat (first | (with_reducible first | exact HB.out | apply below_alloc | apply pw_below_drewN | apply below_drew1) | exact HB.out))) : w.heap.size ≤ gb942)); have n3_ := Aside0.mk ((by rw [hg]; exact (below_size (by repeat (first | (with_reducible first | exact HB.out | apply below_alloc | apply pw_below_drewN | apply below_drew1) | exact HB.out))) : w.heap.size ≤ gb942)); clear HB; have HB := n0_; have BK942 := n1_; have GW942 := n2_; have GE942 := n3_; clear n0_ n1_ n2_ n3_; clear hb hbox hg; have hcz51_0 : w50.cell? ⟨gb942, 0, none⟩ = some (.int .i64 a0_0) := (blk_cell BK942.out 0).trans rfl; have hcz51_1 : w50.cell? ⟨gb942, 1, none⟩ = some (.slice A0_1 l0_1.length c0_1) := (blk_cell BK942.out 1).trans rfl; have hcz51_2 : w50.cell? ⟨gb942, 2, none⟩ = some (.int .i64 a0_2) := (blk_cell BK942.out 2).trans rfl; have hcz51_3 : w50.cell? ⟨gb942, 3, none⟩ = some (.slice A0_3 l0_3.length c0_3) := (blk_cell BK942.out 3).trans rfl; have hfz51_0 := blk_frozen BK942.out 0; have hfz51_1 := blk_frozen BK942.out 1; have hfz51_2 := blk_frozen BK942.out 2; have hfz51_3 := blk_frozen BK942.out 3) | ((with_reducible refine gate_callee (f := 35) rfl ?_); refine goesL_ (some 19) rfl rfl Try.func35 (by kernel_rfl) rfl #[.agg #[.int .i64 a0_0, .slice A0_1 l0_1.length c0_1, .int .i64 a0_2, .slice A0_3 l0_3.length c0_3]] rfl (by (try simp only [List.map_toArray, List.map_cons, List.map_nil]); first | done | rfl | (simp only [List.length_drop, List.length_take]; rfl)) ?_; (with_reducible refine (impl_IsCover.calls k a0_0 _ _ l0_1 a0_2 _ _ l0_3 true _ ?side1 ?side2 ?side3 ?side4 A3.out).mono ?_); (case side1 => repeat (first | exact (Kd.C_below HR0_1.out HB.out) | (with_reducible refine Kd.C_alloc ?_ _) | (with_reducible refine Kd.C_drewN ?_ _) | (with_reducible refine Kd.C_drew ?_))); (case side2 => exact HC0_1.out); (case side3 => repeat (first | exact (Kd.C_below HR0_3.out HB.out) | (with_reducible refine Kd.C_alloc ?_ _) | (with_reducible refine Kd.C_drewN ?_ _) | (with_reducible refine Kd.C_drew ?_))); (case side4 => exact HC0_3.out); rintro e w52 ⟨rfl, hb⟩; refine ⟨_, rfl, ?_⟩; have n0_ := Aside0.mk (blk_below (g := gb942) (o := .cells #[.int .i64 a0_0, .slice A0_1 l0_1.length c0_1, .int .i64 a0_2, .slice A0_3 l0_3.length c0_3] 46 (0, 0)) (by (with_reducible repeat (first | refine blk_drewN ?_ _ | refine blk_drew ?_ | refine blk_alloc ?_ _)); exact BK942.out) hb); have n1_ := Aside0.mk (below_step (by repeat (first | (with_reducible first | exact HB.out | apply below_alloc | apply pw_below_drewN | apply below_drew1 | refine below_set ?_ GE942.out) | exact HB.out)) hb); clear BK942; clear HB; have BK942 := n0_; have HB := n1_; clear n0_ n1_; (try clear hb); (try clear hb2); (try clear hk); (try clear hi)) | ((with_reducible refine gate_callee (f := 71) rfl ?_); refine goesL_ (some 24) rfl rfl Try.func71 (by kernel_rfl) rfl #[.int .i64 (l1.length : Int), .int .i64 1, .int .i64 20] rfl (by (try simp only [List.map_toArray, List.map_cons, List.map_nil]); first | done | rfl | (simp only [List.length_drop, List.length_take]; rfl)) ?_; (with_reducible refine (impl_within.calls (l1.length : Int) 1 20 true _ A5.out).mono ?_); rintro e w' ⟨rfl, ⟨nd, rfl⟩⟩; refine ⟨_, rfl, ?_⟩; have hcz53_0 : w52.cell? ⟨gb942, 0, none⟩ = some (.int .i64 a0_0) := (blk_cell BK942.out 0).trans rfl; have hcz53_1 : w52.cell? ⟨gb942, 1, none⟩ = some (.slice A0_1 l0_1.length c0_1) := (blk_cell BK942.out 1).trans rfl; have hcz53_2 : w52.cell? ⟨gb942, 2, none⟩ = some (.int .i64 a0_2) := (blk_cell BK942.out 2).trans rfl; have hcz53_3 : w52.cell? ⟨gb942, 3, none⟩ = some (.slice A0_3 l0_3.length c0_3) := (blk_cell BK942.out 3).trans rfl; have hfz53_0 := blk_frozen BK942.out 0; have hfz53_1 := blk_frozen BK942.out 1; have hfz53_2 := blk_frozen BK942.out 2; have hfz53_3 := blk_frozen BK942.out 3) | (go_at_call 66; (with_reducible refine (impl_Graph_areDirected.calls k a0_0 _ _ l0_1 _ _ l1 false _ ?side1 ?side2 ?side3 ?side4 A7.out).mono ?_); (case side1 => repeat (first | exact (Kd.C_below HR0_1.out (by repeat (first | (with_reducible first | exact HB.out | apply below_alloc | apply pw_below_drewN | apply below_drew1 | refine below_set ?_ GE942.out) | exact HB.out))) | (with_reducible refine Kd.C_alloc ?_ _) | (with_reducible refine Kd.C_drewN ?_ _) | (with_reducible refine Kd.C_drew ?_))); (case side2 => exact HC0_1.out); (case side3 => repeat (first | exact (Kd.C_below HR1.out (by repeat (first | (with_reducible first | exact HB.out | apply below_alloc | apply pw_below_drewN | apply below_drew1 | refine below_set ?_ GE942.out) | exact HB.out))) | (with_reducible refine Kd.C_alloc ?_ _) | (with_reducible refine Kd.C_drewN ?_ _) | (with_reducible refine Kd.C_drew ?_))); (case side4 => exact HC1.out); rintro e w54 ⟨rfl, hb⟩; have n0_ := Aside0.mk (blk_below (g := gb942) (o := .cells #[.int .i64 a0_0, .slice A0_1 l0_1.length c0_1, .int .i64 a0_2, .slice A0_3 l0_3.length c0_3] 46 (0, 0)) (by (with_reducible repeat (first | refine blk_drewN ?_ _ | refine blk_drew ?_ | refine blk_alloc ?_ _)); exact BK942.out) hb); have n1_ := Aside0.mk (below_step (by repeat (first | (with_reducible first | exact HB.out | apply below_alloc | apply pw_below_drewN | apply below_drew1 | refine below_set ?_ GE942.out) | exact HB.out)) hb); clear BK942; clear HB; have BK942 := n0_; have HB := n1_; clear n0_ n1_; (try clear hb); (try clear hb2); (try clear hk); (try clear hi)))
    go_ret2
    exact ⟨_, by first | rfl | (simp [errW_none, errW_some] <;> rfl) | (simp [*, errW_none, errW_some] <;> rfl), by first | exact Kd.R_nil _ _ _ _ _ | exact Kd.N_nil _ _ _ _ _ | exact Kd.V_nil _ _ _ _ _ | exact Kd.Q_nil _ _ _ _ _ | exact Kd.S_nil _ _ _ _ _, by repeat (first | (with_reducible first | exact HB.out | apply below_alloc | apply pw_below_drewN | apply below_drew1 | refine below_set ?_ GE942.out) | exact HB.out)⟩
  ·replace c6 := Bool.eq_false_iff.mpr c6
   subst c6
   have H1 : (some (([] : List Int), 2)) = some (r1, r2) := by rw [if_neg (show ¬ (false = true) by decide)] at H; exact H
   clear H
   have H := H1
   clear H1
   simp only [Option.some.injEq, Prod.mk.injEq] at H
   obtain ⟨rfl, rfl⟩ := H
   go_enter Try.func50, Try.ntmps50
   go_wp2_with (first | ((with_reducible refine gate_dst (N := 2) rfl ?_); refine box_event ?hg (N := 2) ?hd (cs := #[.int .i64 a0_0, .slice A0_1 l0_1.length c0_1, .int .i64 a0_2, .slice A0_3 l0_3.length c0_3]) (t := 46) ?hr ?_; (case hd => rfl); (case hg => rfl); (case hr => first | (go_simp; done) | (go_simp; rfl)); intro gb942 hg w55 hbox hb; have n0_ := Aside0.mk (below_step (by repeat (first | (with_reducible first | exact HB.out | apply below_alloc | apply pw_below_drewN | apply below_drew1) | exact HB.out)) hb); have n1_ := Aside0.mk (hbox); have n2_ := Aside0.mk ((by rw [hg]; exact (below_size (by repeat (first | (with_reducible first | exact HB.out | apply below_alloc | apply pw_below_drewN | apply below_drew1) | exact HB.out))) : w.heap.size ≤ gb942)); have n3_ := Aside0.mk ((by rw [hg]; exact (below_size (by repeat (first | (with_reducible first | exact HB.out | apply below_alloc | apply pw_below_drewN | apply below_drew1) | exact HB.out))) : w.heap.size ≤ gb942)); clear HB; have HB := n0_; have BK942 := n1_; have GW942 := n2_; have GE942 := n3_; clear n0_ n1_ n2_ n3_; clear hb hbox hg; have hcz56_0 : w55.cell? ⟨gb942, 0, none⟩ = some (.int .i64 a0_0) := (blk_cell BK942.out 0).trans rfl; have hcz56_1 : w55.cell? ⟨gb942, 1, none⟩ = some (.slice A0_1 l0_1.length c0_1) := (blk_cell BK942.out 1).trans rfl; have hcz56_2 : w55.cell? ⟨gb942, 2, none⟩ = some (.int .i64 a0_2) := (blk_cell BK942.out 2).trans rfl; have hcz56_3 : w55.cell? ⟨gb942, 3, none⟩ = some (.slice A0_3 l0_3.length c0_3) := (blk_cell BK942.out 3).trans rfl; have hfz56_0 := blk_frozen BK942.out 0; have hfz56_1 := blk_frozen BK942.out 1; have hfz56_2 := blk_frozen BK942.out 2; have hfz56_3 := blk_frozen BK942.out 3) | ((with_reducible refine gate_callee (f := 35) rfl ?_); refine goesL_ (some 19) rfl rfl Try.func35 (by kernel_rfl) rfl #[.agg #[.int .i64 a0_0, .slice A0_1 l0_1.length c0_1, .int .i64 a0_2, .slice A0_3 l0_3.length c0_3]] rfl (by (try simp only [List.map_toArray, List.map_cons, List.map_nil]); first | done | rfl | (simp only [List.length_drop, List.length_take]; rfl)) ?_; (with_reducible refine (impl_IsCover.calls k a0_0 _ _ l0_1 a0_2 _ _ l0_3 true _ ?side1 ?side2 ?side3 ?side4 A3.out).mono ?_); (case side1 => repeat (first | exact (Kd.C_below HR0_1.out HB.out) | (with_reducible refine Kd.C_alloc ?_ _) | (with_reducible refine Kd.C_drewN ?_ _) | (with_reducible refine Kd.C_drew ?_))); (case side2 => exact HC0_1.out); (case side3 => repeat (first | exact (Kd.C_below HR0_3.out HB.out) | (with_reducible refine Kd.C_alloc ?_ _) | (with_reducible refine Kd.C_drewN ?_ _) | (with_reducible refine Kd.C_drew ?_))); (case side4 => exact HC0_3.out); rintro e w57 ⟨rfl, hb⟩; refine ⟨_, rfl, ?_⟩; have n0_ := Aside0.mk (blk_below (g := gb942) (o := .cells #[.int .i64 a0_0, .slice A0_1 l0_1.length c0_1, .int .i64 a0_2, .slice A0_3 l0_3.length c0_3] 46 (0, 0)) (by (with_reducible repeat (first | refine blk_drewN ?_ _ | refine blk_drew ?_ | refine blk_alloc ?_ _)); exact BK942.out) hb); have n1_ := Aside0.mk (below_step (by repeat (first | (with_reducible first | exact HB.out | apply below_alloc | apply pw_below_drewN | apply below_drew1 | refine below_set ?_ GE942.out) | exact HB.out)) hb); clear BK942; clear HB; have BK942 := n0_; have HB := n1_; clear n0_ n1_; (try clear hb); (try clear hb2); (try clear hk); (try clear hi)) | ((with_reducible refine gate_callee (f := 71) rfl ?_); refine goesL_ (some 24) rfl rfl Try.func71 (by kernel_rfl) rfl #[.int .i64 (l1.length : Int), .int .i64 1, .int .i64 20] rfl (by (try simp only [List.map_toArray, List.map_cons, List.map_nil]); first | done | rfl | (simp only [List.length_drop, List.length_take]; rfl)) ?_; (with_reducible refine (impl_within.calls (l1.length : Int) 1 20 false _ A5.out).mono ?_); rintro e w' ⟨rfl, ⟨nd, rfl⟩⟩; refine ⟨_, rfl, ?_⟩))
   go_ret2
   exact ⟨_, by first | rfl | (simp [errW_none, errW_some] <;> rfl) | (simp [*, errW_none, errW_some] <;> rfl), by first | exact Kd.R_nil _ _ _ _ _ | exact Kd.N_nil _ _ _ _ _ | exact Kd.V_nil _ _ _ _ _ | exact Kd.Q_nil _ _ _ _ _ | exact Kd.S_nil _ _ _ _ _, by repeat (first | (with_reducible first | exact HB.out | apply below_alloc | apply pw_below_drewN | apply below_drew1 | refine below_set ?_ GE942.out) | exact HB.out)⟩
 ·replace c4 := Bool.eq_false_iff.mpr c4
  subst c4
  have H1 : (some (([] : List Int), 1)) = some (r1, r2) := by rw [if_neg (show ¬ (false = true) by decide)] at H; exact H
  clear H
  have H := H1
  clear H1
  simp only [Option.some.injEq, Prod.mk.injEq] at H
  obtain ⟨rfl, rfl⟩ := H
  go_enter Try.func50, Try.ntmps50
  go_wp2_with (first | ((with_reducible refine gate_dst (N := 2) rfl ?_); refine box_event ?hg (N := 2) ?hd (cs := #[.int .i64 a0_0, .slice A0_1 l0_1.length c0_1, .int .i64 a0_2, .slice A0_3 l0_3.length c0_3]) (t := 46) ?hr ?_; (case hd => rfl); (case hg => rfl); (case hr => first | (go_simp; done) | (go_simp; rfl)); intro gb942 hg w58 hbox hb; have n0_ := Aside0.mk (below_step (by repeat (first | (with_reducible first | exact HB.out | apply below_alloc | apply pw_below_drewN | apply below_drew1) | exact HB.out)) hb); have n1_ := Aside0.mk (hbox); have n2_ := Aside0.mk ((by rw [hg]; exact (below_size (by repeat (first | (with_reducible first | exact HB.out | apply below_alloc | apply pw_below_drewN | apply below_drew1) | exact HB.out))) : w.heap.size ≤ gb942)); have n3_ := Aside0.mk ((by rw [hg]; exact (below_size (by repeat (first | (with_reducible first | exact HB.out | apply below_alloc | apply pw_below_drewN | apply below_drew1) | exact HB.out))) : w.heap.size ≤ gb942)); clear HB; have HB := n0_; have BK942 := n1_; have GW942 := n2_; have GE942 := n3_; clear n0_ n1_ n2_ n3_; clear hb hbox hg; have hcz59_0 : w58.cell? ⟨gb942, 0, none⟩ = some (.int .i64 a0_0) := (blk_cell BK942.out 0).trans rfl; have hcz59_1 : w58.cell? ⟨gb942, 1, none⟩ = some (.slice A0_1 l0_1.length c0_1) := (blk_cell BK942.out 1).trans rfl; have hcz59_2 : w58.cell? ⟨gb942, 2, none⟩ = some (.int .i64 a0_2) := (blk_cell BK942.out 2).trans rfl; have hcz59_3 : w58.cell? ⟨gb942, 3, none⟩ = some (.slice A0_3 l0_3.length c0_3) := (blk_cell BK942.out 3).trans rfl; have hfz59_0 := blk_frozen BK942.out 0; have hfz59_1 := blk_frozen BK942.out 1; have hfz59_2 := blk_frozen BK942.out 2; have hfz59_3 := blk_frozen BK942.out 3) | ((with_reducible refine gate_callee (f := 35) rfl ?_); refine goesL_ (some 19) rfl rfl Try.func35 (by kernel_rfl) rfl #[.agg #[.int .i64 a0_0, .slice A0_1 l0_1.length c0_1, .int .i64 a0_2, .slice A0_3 l0_3.length c0_3]] rfl (by (try simp only [List.map_toArray, List.map_cons, List.map_nil]); first | done | rfl | (simp only [List.length_drop, List.length_take]; rfl)) ?_; (with_reducible refine (impl_IsCover.calls k a0_0 _ _ l0_1 a0_2 _ _ l0_3 false _ ?side1 ?side2 ?side3 ?side4 A3.out).mono ?_); (case side1 => repeat (first | exact (Kd.C_below HR0_1.out HB.out) | (with_reducible refine Kd.C_alloc ?_ _) | (with_reducible refine Kd.C_drewN ?_ _) | (with_reducible refine Kd.C_drew ?_))); (case side2 => exact HC0_1.out); (case side3 => repeat (first | exact (Kd.C_below HR0_3.out HB.out) | (with_reducible refine Kd.C_alloc ?_ _) | (with_reducible refine Kd.C_drewN ?_ _) | (with_reducible refine Kd.C_drew ?_))); (case side4 => exact HC0_3.out); rintro e w60 ⟨rfl, hb⟩; refine ⟨_, rfl, ?_⟩; have n0_ := Aside0.mk (blk_below (g := gb942) (o := .cells #[.int .i64 a0_0, .slice A0_1 l0_1.length c0_1, .int .i64 a0_2, .slice A0_3 l0_3.length c0_3] 46 (0, 0)) (by (with_reducible repeat (first | refine blk_drewN ?_ _ | refine blk_drew ?_ | refine blk_alloc ?_ _)); exact BK942.out) hb); have n1_ := Aside0.mk (below_step (by repeat (first | (with_reducible first | exact HB.out | apply below_alloc | apply pw_below_drewN | apply below_drew1 | refine below_set ?_ GE942.out) | exact HB.out)) hb); clear BK942; clear HB; have BK942 := n0_; have HB := n1_; clear n0_ n1_; (try clear hb); (try clear hb2); (try clear hk); (try clear hi)))
  go_ret2
  exact ⟨_, by first | rfl | (simp [errW_none, errW_some] <;> rfl) | (simp [*, errW_none, errW_some] <;> rfl), by first | exact Kd.R_nil _ _ _ _ _ | exact Kd.N_nil _ _ _ _ _ | exact Kd.V_nil _ _ _ _ _ | exact Kd.Q_nil _ _ _ _ _ | exact Kd.S_nil _ _ _ _ _, by repeat (first | (with_reducible first | exact HB.out | apply below_alloc | apply pw_below_drewN | apply below_drew1 | refine below_set ?_ GE942.out) | exact HB.out)⟩

/-! ### laws_markCover: function 51 -/
def laws_markCover.f (k : Nat) (a0_0 : Int) (l0_1 : List (List Int)) (a0_2 : Int) (l0_3 : List (List Int)) (a1 : Int) : Option (Int × List (List Int) × List (List Int)) := (laws_markGraph.f k a0_0 l0_1 a1).bind fun b => (laws_markInt64SS.f k l0_3 b.1).bind fun c => some (c.1, b.2, c.2)
theorem laws_markCover.mono : ∀ a0 a1 a2 a3 a4 k, LeO (laws_markCover.f k a0 a1 a2 a3 a4) (laws_markCover.f (k + 1) a0 a1 a2 a3 a4) := by
 intro a0 a1 a2 a3 a4 k
 unfold laws_markCover.f
 exact LeO.bind (laws_markGraph.mono _ _ _ _) (fun _ => LeO.bind (laws_markInt64SS.mono _ _ _) (fun _ => LeO.refl _))
set_option maxHeartbeats 8000000 in
set_option maxRecDepth 100000 in
theorem laws_markCover.calls (k : Nat) (a0_0 : Int) (P0_1_ : Nat → Prop) (u9000_ : Value) (l0_1 : List (List Int)) (a0_2 : Int) (P0_3_ : Nat → Prop) (u9001_ : Value) (l0_3 : List (List Int)) (a1 : Int) (r1 : Int) (r2 : List (List Int)) (r3 : List (List Int)) (w0 w : World) (hB : Below w0.heap.size w0 w) (ho0_1 : Kd.S (Kd.slice 2 (Kd.int .i64)) 25 w w0.heap.size P0_1_ u9000_ l0_1) (hp0_1_0_3 : ∀ k_, P0_1_ k_ → ¬ P0_3_ k_) (ho0_3 : Kd.S (Kd.slice 2 (Kd.int .i64)) 25 w w0.heap.size P0_3_ u9001_ l0_3) (hp0_3_0_1 : ∀ k_, P0_3_ k_ → ¬ P0_1_ k_) (h : laws_markCover.f k a0_0 l0_1 a0_2 l0_3 a1 = some (r1, r2, r3)) :
  Calls Try.prog 51 #[.agg #[.int .i64 a0_0, u9000_, .int .i64 a0_2, u9001_], .int .i64 a1] w fun e w' => e = .returned (.int .i64 r1) ∧ Kd.S (Kd.slice 2 (Kd.int .i64)) 25 w' w0.heap.size P0_1_ u9000_ r2 ∧ Kd.S (Kd.slice 2 (Kd.int .i64)) 25 w' w0.heap.size P0_3_ u9001_ r3 ∧ Below w0.heap.size w0 w' ∧ Kept w w' (fun k_ => P0_1_ k_ ∨ P0_3_ k_) := by
 have hu46 := Try.underlying46
 have hu29 := Try.underlying29
 obtain ⟨Ao, co, eo⟩ := Kd.S_slice ho0_1
 subst eo
 obtain ⟨Ap, cp, ep⟩ := Kd.S_slice ho0_3
 subst ep
 have HO := Aside0.mk ho0_1
 have HP := Aside0.mk ho0_3
 have HB := Aside0.mk hB
 have HD := Aside0.mk hp0_1_0_3
 have HE := Aside0.mk hp0_3_0_1
 unfold laws_markCover.f at h
 replace h := Option.bind_eq_some_iff.mp h
 obtain ⟨⟨b1, b2⟩, hb1, h⟩ := h
 replace h := Option.bind_eq_some_iff.mp h
 obtain ⟨⟨d1, d2⟩, hb2, h⟩ := h
 simp only [Option.some.injEq, Prod.mk.injEq] at h
 obtain ⟨rfl, rfl, rfl⟩ := h
 have A := Aside0.mk hb1
 have A' := Aside0.mk (show laws_markInt64SS.f k l0_3 b1 = some (d1, d2) from hb2)
 clear ho0_1 ho0_3 hB hp0_1_0_3 hp0_3_0_1 hb1 hb2
 go_enter Try.func51, Try.ntmps51
 go_upto_region 1 with (first | ((with_reducible refine gate_dst (N := 2) rfl ?_); refine box_event ?hg (N := 2) ?hd (cs := #[.int .i64 a0_0, .slice Ao l0_1.length co, .int .i64 a0_2, .slice Ap l0_3.length cp]) (t := 46) ?hr ?_; (case hd => rfl); (case hg => rfl); (case hr => first | (go_simp; done) | (go_simp; rfl)); intro gb hg w3 hbox hb; have n0_ := Aside0.mk (below_step HB.out hb); have n1_ := Aside0.mk (Kd.S_types (Kd.S_below HO.out hb) hbox (by decide)); have n4_ := Aside0.mk (Kd.S_types (Kd.S_below HP.out hb) hbox (by decide)); have n2_ := Aside0.mk hbox; have n3_ := Aside0.mk hb; clear HB HO HP; have HB := n0_; have HO := n1_; have HP := n4_; have BK := n2_; have HN := n3_; clear n0_ n1_ n2_ n3_ n4_ hb hbox hg))
 (try simp only [Act.put, List.setIfInBounds_toArray, List.set_cons_zero, List.set_cons_succ])
 have hc0 : w3.cell? ⟨gb, 0, none⟩ = some (.int .i64 a0_0) := (blk_cell BK.out 0).trans rfl
 have hc1 : w3.cell? ⟨gb, 1, none⟩ = some (.slice Ao l0_1.length co) := (blk_cell BK.out 1).trans rfl
 have hf0 := blk_frozen BK.out 0
 have hf1 := blk_frozen BK.out 1
 go_upto_region 2 with (first | ((with_reducible refine gate_callee (f := 25) rfl ?_); refine goesL_ (some 8) rfl rfl Try.func25 (by kernel_rfl) rfl #[.agg #[.int .i64 a0_0, .slice Ao l0_1.length co], .int .i64 a1] rfl (by (try simp only [List.map_toArray, List.map_cons, List.map_nil]); first | done | rfl) ?_; (with_reducible refine (laws_markGraph.calls k a0_0 (fun k_ => P0_1_ k_ ∧ k_ ≠ gb) (.slice Ao l0_1.length co) l0_1 a1 b1 b2 w0 _ HB.out HO.out A.out).mono ?_); rintro e w5 ⟨rfl, hy, hb, hkp⟩; refine ⟨_, rfl, ?_⟩; have n0_ := Aside0.mk (Kd.S_mono hy (fun k_ hk => hk.1)); have n1_ := Aside0.mk (Kept.then_ (Kept.of_below HN.out (fun k_ => P0_1_ k_ ∨ P0_3_ k_)) hkp (fun k_ hk => .inl (.inl hk.1))); have n2_ := Aside0.mk hb; have n3_ := Aside0.mk (Kd.S_step HP.out (fun k_ ho_ hl_ => hkp.2 k_ hl_ (fun hs_ => HE.out k_ ho_.1 hs_.1))); have n4_ := Aside0.mk (blk_kept BK.out hkp (fun hs_ => hs_.2 rfl)); clear HO HB HP BK hy hb hkp; have HO := n0_; have HK := n1_; have HB := n2_; have HP := n3_; have BK := n4_; clear n0_ n1_ n2_ n3_ n4_; clear hc0 hc1 hf0 hf1))
 (try simp only [Act.put, List.setIfInBounds_toArray, List.set_cons_zero, List.set_cons_succ])
 have hc3 := (blk_cell BK.out 3).trans (show #[(.int .i64 a0_0 : Value), .slice Ao l0_1.length co, .int .i64 a0_2, .slice Ap l0_3.length cp][3]? = some (.slice Ap l0_3.length cp) from rfl)
 have hf3 := blk_frozen BK.out 3
 go_wp2_with (first | ((with_reducible refine gate_callee (f := 26) rfl ?_); refine goesL_ (some 12) rfl rfl Try.func26 (by kernel_rfl) rfl #[.slice Ap l0_3.length cp, .int .i64 b1] rfl (by (try simp only [List.map_toArray, List.map_cons, List.map_nil]); first | done | rfl) ?_; (with_reducible refine (laws_markInt64SS.calls k (fun k_ => P0_3_ k_ ∧ k_ ≠ gb) (.slice Ap l0_3.length cp) l0_3 b1 d1 d2 w0 _ HB.out HP.out A'.out).mono ?_); rintro e w5 ⟨rfl, hy, hb, hkp⟩; refine ⟨_, rfl, ?_⟩; have n0_ := Aside0.mk (Kd.S_mono hy (fun k_ hk => hk.1)); have n1_ := Aside0.mk (Kept.then_ HK.out hkp (fun k_ hk => .inl (.inr hk.1))); have n2_ := Aside0.mk hb; have n3_ := Aside0.mk (Kd.S_step HO.out (fun k_ ho_ hl_ => hkp.2 k_ hl_ (fun hs_ => HD.out k_ ho_ hs_.1))); clear HO HB HP HK hy hb hkp; have HP := n0_; have HK := n1_; have HB := n2_; have HO := n3_; clear n0_ n1_ n2_ n3_))
 go_ret
 exact ⟨rfl, HO.out, HP.out, HB.out, HK.out⟩

end Go.Proofs.Ytedhnaljedonfaa.G
