/- The printed functions that this law reaches, and their contracts: part 1. -/
-- printed by this repo's wip/printer out of the kit's print with its own changes
import Derived.Test.YtipigagbgpoecaaC0
namespace Go.Proofs.Ytipigagbgpoecaa.G
open Go.RowKit Go.Proofs.YtipigagbgpoecaaW.PrintWords Go.Proofs.YtipigagbgpoecaaW.PrintLast Go.Proofs.YtipigagbgpoecaaW.PrintMore
attribute [local go_sem] max2_int min2_int max_two min_two max_three min_three max_four min_four   -- for this text's walks alone
set_option linter.unusedVariables false
set_option linter.unusedSimpArgs false

/-! ### spec_l04Walk: function 82 -/
mutual
def spec_l04Walk.j0 : Nat → List Int → Bool → Int → List (List Int) → Int → List (List Int) → Option (List Int × Int)
 | 0, _, _, _, _, _, _ => none
 | k + 1, x1, x16, x154000, x154001, x154002, x154003 => if x16 = true then (some (([] : List Int), 2)) else ((spec_l02Closed.f k x154000 x154001 x1).bind fun t156 => (if t156 = true then (spec_l04Walk.l0 k x1 (([] : List Int)) 0 x154000 x154001 x154002 x154003) else (some (([] : List Int), 5))))
def spec_l04Walk.l0 : Nat → List Int → List Int → Int → Int → List (List Int) → Int → List (List Int) → Option (List Int × Int)
 | 0, _, _, _, _, _, _, _ => none
 | k + 1, x1, x6, x7, x154000, x154001, x154002, x154003 => if x7 < x154002 then (spec_l04Walk.l1 k x1 x6 x7 x7 0 x154000 x154001 x154002 x154003) else (some (x6, 0))
def spec_l04Walk.l1 : Nat → List Int → List Int → Int → Int → Int → Int → List (List Int) → Int → List (List Int) → Option (List Int × Int)
 | 0, _, _, _, _, _, _, _, _, _ => none
 | k + 1, x1, x6, x7, x8, x9, x154000, x154001, x154002, x154003 => if x9 < (x1.length : Int) then (if 0 ≤ x9 then (if 0 ≤ (wrap64 (Int.tdiv (rd x1 x9) 2)) then (if (wrap64 (Int.tdiv (rd x1 x9) 2)) < (x154003.length : Int) then (if (Int.tmod (rd x1 x9) 2) = 0 then (if 0 ≤ x8 then (if x8 < ((rd_L1 x154003 (wrap64 (Int.tdiv (rd x1 x9) 2))).length : Int) then (spec_l04Walk.l1 k x1 x6 x7 (rd (rd_L1 x154003 (wrap64 (Int.tdiv (rd x1 x9) 2))) x8) (wrap64 (x9 + 1)) x154000 x154001 x154002 x154003) else (none)) else (none)) else (spec_l04Walk.l2 k x1 x6 x7 x8 x9 (rd_L1 x154003 (wrap64 (Int.tdiv (rd x1 x9) 2))) 0 x154000 x154001 x154002 x154003)) else (none)) else (none)) else (none)) else (if x6.length < 17592186044416 then (spec_l04Walk.l0 k x1 (x6 ++ [x8]) (wrap64 (x7 + 1)) x154000 x154001 x154002 x154003) else (none))
def spec_l04Walk.l2 : Nat → List Int → List Int → Int → Int → Int → List Int → Int → Int → List (List Int) → Int → List (List Int) → Option (List Int × Int)
 | 0, _, _, _, _, _, _, _, _, _, _, _ => none
 | k + 1, x1, x6, x7, x8, x9, x10, x11, x154000, x154001, x154002, x154003 => if 0 ≤ x11 then (if x11 < (x10.length : Int) then (if (rd x10 x11) = x8 then (spec_l04Walk.l1 k x1 x6 x7 x11 (wrap64 (x9 + 1)) x154000 x154001 x154002 x154003) else (spec_l04Walk.l2 k x1 x6 x7 x8 x9 x10 (wrap64 (x11 + 1)) x154000 x154001 x154002 x154003)) else (none)) else (none)
end
def spec_l04Walk.f (k : Nat) (a0_0 : Int) (l0_1 : List (List Int)) (a0_2 : Int) (l0_3 : List (List Int)) (l1 : List Int) : Option (List Int × Int) := (spec_l04Is.f k a0_0 l0_1 a0_2 l0_3).bind fun t154 => (if t154 = true then (if (l1.length : Int) = 0 then (spec_l04Walk.j0 k l1 true a0_0 l0_1 a0_2 l0_3) else ((spec_l02Directed.f k a0_0 l0_1 l1).bind fun t155 => (spec_l04Walk.j0 k l1 (!t155) a0_0 l0_1 a0_2 l0_3))) else (some (([] : List Int), 1)))
set_option maxHeartbeats 8000000 in
set_option maxRecDepth 100000 in
theorem spec_l04Walk.calls (k : Nat) (a0_0 : Int) (A0_1 : Option Addr) (c0_1 : Nat) (l0_1 : List (List Int)) (a0_2 : Int) (A0_3 : Option Addr) (c0_3 : Nat) (l0_3 : List (List Int)) (A1 : Option Addr) (c1 : Nat) (l1 : List Int) (r1 : List Int) (r2 : Int) (w : World) (hr0_1 : Kd.C (Kd.slice 2 (Kd.int .i64)) w A0_1 l0_1.length l0_1) (hc0_1 : l0_1.length ≤ c0_1) (hr0_3 : Kd.C (Kd.slice 2 (Kd.int .i64)) w A0_3 l0_3.length l0_3) (hc0_3 : l0_3.length ≤ c0_3) (hr1 : Kd.C (Kd.int .i64) w A1 l1.length l1) (hc1 : l1.length ≤ c1) (h : spec_l04Walk.f k a0_0 l0_1 a0_2 l0_3 l1 = some (r1, r2)) :
  Calls Try.prog 82 #[.agg #[.int .i64 a0_0, .slice A0_1 l0_1.length c0_1, .int .i64 a0_2, .slice A0_3 l0_3.length c0_3], .slice A1 l1.length c1] w fun e w' => ∃ v0_ : Value, e = .returned (.tuple #[v0_, .int .i64 r2]) ∧ Kd.R (Kd.int .i64) 2 w' w.heap.size (fun _ => True) v0_ r1 ∧ Below w.heap.size w w' := by
 have hu52 := Try.underlying52
 have hu29 := Try.underlying29
 have HR0_1 := Aside0.mk hr0_1
 have HC0_1 := Aside0.mk hc0_1
 clear hr0_1 hc0_1
 have HR0_3 := Aside0.mk hr0_3
 have HC0_3 := Aside0.mk hc0_3
 clear hr0_3 hc0_3
 have HR1 := Aside0.mk hr1
 have HC1 := Aside0.mk hc1
 clear hr1 hc1
 have HB := Aside0.mk (Below.refl w.heap.size w)
 have H : ((spec_l04Is.f k a0_0 l0_1 a0_2 l0_3).bind fun t154 => (if t154 = true then (if (l1.length : Int) = 0 then (spec_l04Walk.j0 k l1 true a0_0 l0_1 a0_2 l0_3) else ((spec_l02Directed.f k a0_0 l0_1 l1).bind fun t155 => (spec_l04Walk.j0 k l1 (!t155) a0_0 l0_1 a0_2 l0_3))) else (some (([] : List Int), 1)))) = some (r1, r2) := h
 clear h
 obtain ⟨t154, A3, H⟩ := bnd_ H
 by_cases c4 : t154 = true
 ·subst c4
  have H1 : (if (l1.length : Int) = 0 then (spec_l04Walk.j0 k l1 true a0_0 l0_1 a0_2 l0_3) else ((spec_l02Directed.f k a0_0 l0_1 l1).bind fun t155 => (spec_l04Walk.j0 k l1 (!t155) a0_0 l0_1 a0_2 l0_3))) = some (r1, r2) := by rw [if_pos rfl] at H; exact H
  clear H
  have H := H1
  clear H1
  have HC5 := Aside0.mk H
  clear H
  go_enter Try.func82, Try.ntmps82
  go_upto_region 3 with (first | ((with_reducible refine gate_dst (N := 2) rfl ?_); refine box_event ?hg (N := 2) ?hd (cs := #[.int .i64 a0_0, .slice A0_1 l0_1.length c0_1, .int .i64 a0_2, .slice A0_3 l0_3.length c0_3]) (t := 52) ?hr ?_; (case hd => rfl); (case hg => rfl); (case hr => first | (go_simp; done) | (go_simp; rfl)); intro gb153 hg w6 hbox hb; have BK153 := Aside0.mk (hbox); have GW153 := Aside0.mk ((by rw [hg]; exact (below_size hb_) : w.heap.size ≤ gb153)); have GE153 := Aside0.mk ((by rw [hg]; exact (below_size hb_) : w.heap.size ≤ gb153)); replace HB := Aside0.mk (below_step hb_ hb); clear hb hbox hg; have hcz7_0 : w6.cell? ⟨gb153, 0, none⟩ = some (.int .i64 a0_0) := (blk_cell BK153.out 0).trans rfl; have hcz7_1 : w6.cell? ⟨gb153, 1, none⟩ = some (.slice A0_1 l0_1.length c0_1) := (blk_cell BK153.out 1).trans rfl; have hcz7_2 : w6.cell? ⟨gb153, 2, none⟩ = some (.int .i64 a0_2) := (blk_cell BK153.out 2).trans rfl; have hcz7_3 : w6.cell? ⟨gb153, 3, none⟩ = some (.slice A0_3 l0_3.length c0_3) := (blk_cell BK153.out 3).trans rfl; have hfz7_0 := blk_frozen BK153.out 0; have hfz7_1 := blk_frozen BK153.out 1; have hfz7_2 := blk_frozen BK153.out 2; have hfz7_3 := blk_frozen BK153.out 3) | (go_at_call 116; (with_reducible refine (spec_l04Is.calls k a0_0 _ _ l0_1 a0_2 _ _ l0_3 true _ ?side1 ?side2 ?side3 ?side4 A3.out).mono ?_); (case side1 => exact Kd.C_below (Kd.C_below HR0_1.out HB.out) bgo_); (case side2 => exact HC0_1.out); (case side3 => exact Kd.C_below (Kd.C_below HR0_3.out HB.out) bgo_); (case side4 => exact HC0_3.out); rintro e w8 ⟨rfl, hb⟩; replace BK153 := Aside0.mk (blk_below (g := gb153) (o := .cells #[.int .i64 a0_0, .slice A0_1 l0_1.length c0_1, .int .i64 a0_2, .slice A0_3 l0_3.length c0_3] 52 (0, 0)) (blk_below BK153.out bgo_) hb); replace HB := Aside0.mk (below_step hbs_ hb); (try clear hb); (try clear hb2); (try clear hk); (try clear hi)))
  repeat (go_quiet (first | ((with_reducible refine gate_dst (N := 2) rfl ?_); refine box_event ?hg (N := 2) ?hd (cs := #[.int .i64 a0_0, .slice A0_1 l0_1.length c0_1, .int .i64 a0_2, .slice A0_3 l0_3.length c0_3]) (t := 52) ?hr ?_; (case hd => rfl); (case hg => rfl); (case hr => first | (go_simp; done) | (go_simp; rfl)); intro gb153 hg w6 hbox hb; have BK153 := Aside0.mk (hbox); have GW153 := Aside0.mk ((by rw [hg]; exact (below_size hb_) : w.heap.size ≤ gb153)); have GE153 := Aside0.mk ((by rw [hg]; exact (below_size hb_) : w.heap.size ≤ gb153)); replace HB := Aside0.mk (below_step hb_ hb); clear hb hbox hg; have hcz7_0 : w6.cell? ⟨gb153, 0, none⟩ = some (.int .i64 a0_0) := (blk_cell BK153.out 0).trans rfl; have hcz7_1 : w6.cell? ⟨gb153, 1, none⟩ = some (.slice A0_1 l0_1.length c0_1) := (blk_cell BK153.out 1).trans rfl; have hcz7_2 : w6.cell? ⟨gb153, 2, none⟩ = some (.int .i64 a0_2) := (blk_cell BK153.out 2).trans rfl; have hcz7_3 : w6.cell? ⟨gb153, 3, none⟩ = some (.slice A0_3 l0_3.length c0_3) := (blk_cell BK153.out 3).trans rfl; have hfz7_0 := blk_frozen BK153.out 0; have hfz7_1 := blk_frozen BK153.out 1; have hfz7_2 := blk_frozen BK153.out 2; have hfz7_3 := blk_frozen BK153.out 3) | (go_at_call 116; (with_reducible refine (spec_l04Is.calls k a0_0 _ _ l0_1 a0_2 _ _ l0_3 true _ ?side1 ?side2 ?side3 ?side4 A3.out).mono ?_); (case side1 => exact Kd.C_below (Kd.C_below HR0_1.out HB.out) bgo_); (case side2 => exact HC0_1.out); (case side3 => exact Kd.C_below (Kd.C_below HR0_3.out HB.out) bgo_); (case side4 => exact HC0_3.out); rintro e w8 ⟨rfl, hb⟩; replace BK153 := Aside0.mk (blk_below (g := gb153) (o := .cells #[.int .i64 a0_0, .slice A0_1 l0_1.length c0_1, .int .i64 a0_2, .slice A0_3 l0_3.length c0_3] 52 (0, 0)) (blk_below BK153.out bgo_) hb); replace HB := Aside0.mk (below_step hbs_ hb); (try clear hb); (try clear hb2); (try clear hk); (try clear hi))); go_upto_region 3 with (first | ((with_reducible refine gate_dst (N := 2) rfl ?_); refine box_event ?hg (N := 2) ?hd (cs := #[.int .i64 a0_0, .slice A0_1 l0_1.length c0_1, .int .i64 a0_2, .slice A0_3 l0_3.length c0_3]) (t := 52) ?hr ?_; (case hd => rfl); (case hg => rfl); (case hr => first | (go_simp; done) | (go_simp; rfl)); intro gb153 hg w6 hbox hb; have BK153 := Aside0.mk (hbox); have GW153 := Aside0.mk ((by rw [hg]; exact (below_size hb_) : w.heap.size ≤ gb153)); have GE153 := Aside0.mk ((by rw [hg]; exact (below_size hb_) : w.heap.size ≤ gb153)); replace HB := Aside0.mk (below_step hb_ hb); clear hb hbox hg; have hcz7_0 : w6.cell? ⟨gb153, 0, none⟩ = some (.int .i64 a0_0) := (blk_cell BK153.out 0).trans rfl; have hcz7_1 : w6.cell? ⟨gb153, 1, none⟩ = some (.slice A0_1 l0_1.length c0_1) := (blk_cell BK153.out 1).trans rfl; have hcz7_2 : w6.cell? ⟨gb153, 2, none⟩ = some (.int .i64 a0_2) := (blk_cell BK153.out 2).trans rfl; have hcz7_3 : w6.cell? ⟨gb153, 3, none⟩ = some (.slice A0_3 l0_3.length c0_3) := (blk_cell BK153.out 3).trans rfl; have hfz7_0 := blk_frozen BK153.out 0; have hfz7_1 := blk_frozen BK153.out 1; have hfz7_2 := blk_frozen BK153.out 2; have hfz7_3 := blk_frozen BK153.out 3) | (go_at_call 116; (with_reducible refine (spec_l04Is.calls k a0_0 _ _ l0_1 a0_2 _ _ l0_3 true _ ?side1 ?side2 ?side3 ?side4 A3.out).mono ?_); (case side1 => exact Kd.C_below (Kd.C_below HR0_1.out HB.out) bgo_); (case side2 => exact HC0_1.out); (case side3 => exact Kd.C_below (Kd.C_below HR0_3.out HB.out) bgo_); (case side4 => exact HC0_3.out); rintro e w8 ⟨rfl, hb⟩; replace BK153 := Aside0.mk (blk_below (g := gb153) (o := .cells #[.int .i64 a0_0, .slice A0_1 l0_1.length c0_1, .int .i64 a0_2, .slice A0_3 l0_3.length c0_3] 52 (0, 0)) (blk_below BK153.out bgo_) hb); replace HB := Aside0.mk (below_step hbs_ hb); (try clear hb); (try clear hb2); (try clear hk); (try clear hi))))
  (try simp only [Act.put, List.setIfInBounds_toArray, List.set_cons_zero, List.set_cons_succ])
  go_cut [16] (fun v16 wc => ∃ (kq : Nat) (x16_4 : Bool), v16 = .bool x16_4 ∧ Aside0 (spec_l04Walk.j0 kq l1 x16_4 a0_0 l0_1 a0_2 l0_3 = some (r1, r2)) ∧ Aside0 (kq ≤ k) ∧ Aside0 (wc.heap[gb153]? = some (.cells #[.int .i64 a0_0, (.slice A0_1 l0_1.length c0_1), .int .i64 a0_2, (.slice A0_3 l0_3.length c0_3)] 52 (0, 0))) ∧ Aside0 (Below w.heap.size w wc))
  case first =>
   have H := HC5.out
   clear HC5
   by_cases c9 : (l1.length : Int) = 0
   ·rw [if_pos c9] at H
    have c9b0 : ((l1.length : Int) == 0) = true := beq_iff_eq.mpr c9
    have c9b1 : ((l1.length : Int) != 0) = false := bne_eq_false_iff_eq.mpr c9
    clear c9
    (first | rw [c9b0] | (simp only [i64_w, i32_w]; rw [c9b0]) | skip)
    have H' := Aside0.mk H
    clear H
    go_wp2
    repeat (go_quiet (fail); try go_wp2)
    go_meet
    case rel => exact ⟨_, (true), es_, H', ⟨by first | omega | exact Nat.le_refl _⟩, ⟨blk_below BK153.out bgo_⟩, ⟨hbs_⟩⟩
   ·rw [if_neg c9] at H
    have c9b0 : ((l1.length : Int) == 0) = false := beq_eq_false_iff_ne.mpr c9
    have c9b1 : ((l1.length : Int) != 0) = true := bne_iff_ne.mpr c9
    have c9b2 : ¬ (l1 = []) := fun h_ => c9 (by rw [h_]; rfl)
    (first | rw [c9b0] | (simp only [i64_w, i32_w]; rw [c9b0]) | skip)
    obtain ⟨t155, A10, H⟩ := bnd_ H
    have H' := Aside0.mk H
    clear H
    have hcz11_0 : w8.cell? ⟨gb153, 0, none⟩ = some (.int .i64 a0_0) := (blk_cell BK153.out 0).trans rfl
    have hcz11_1 : w8.cell? ⟨gb153, 1, none⟩ = some (.slice A0_1 l0_1.length c0_1) := (blk_cell BK153.out 1).trans rfl
    have hcz11_2 : w8.cell? ⟨gb153, 2, none⟩ = some (.int .i64 a0_2) := (blk_cell BK153.out 2).trans rfl
    have hcz11_3 : w8.cell? ⟨gb153, 3, none⟩ = some (.slice A0_3 l0_3.length c0_3) := (blk_cell BK153.out 3).trans rfl
    have hfz11_0 := blk_frozen BK153.out 0
    have hfz11_1 := blk_frozen BK153.out 1
    have hfz11_2 := blk_frozen BK153.out 2
    have hfz11_3 := blk_frozen BK153.out 3
    go_wp2_with (first | (go_at_call 117; (with_reducible refine (spec_l02Directed.calls k a0_0 _ _ l0_1 _ _ l1 t155 _ ?side1 ?side2 ?side3 ?side4 A10.out).mono ?_); (case side1 => exact Kd.C_below (Kd.C_below HR0_1.out HB.out) bgo_); (case side2 => exact HC0_1.out); (case side3 => exact Kd.C_below (Kd.C_below HR1.out HB.out) bgo_); (case side4 => exact HC1.out); rintro e w12 ⟨rfl, hb⟩; replace BK153 := Aside0.mk (blk_below (g := gb153) (o := .cells #[.int .i64 a0_0, .slice A0_1 l0_1.length c0_1, .int .i64 a0_2, .slice A0_3 l0_3.length c0_3] 52 (0, 0)) (blk_below BK153.out bgo_) hb); replace HB := Aside0.mk (below_step hbs_ hb); (try clear hb); (try clear hb2); (try clear hk); (try clear hi)))
    repeat (go_quiet (first | (go_at_call 117; (with_reducible refine (spec_l02Directed.calls k a0_0 _ _ l0_1 _ _ l1 t155 _ ?side1 ?side2 ?side3 ?side4 A10.out).mono ?_); (case side1 => exact Kd.C_below (Kd.C_below HR0_1.out HB.out) bgo_); (case side2 => exact HC0_1.out); (case side3 => exact Kd.C_below (Kd.C_below HR1.out HB.out) bgo_); (case side4 => exact HC1.out); rintro e w12 ⟨rfl, hb⟩; replace BK153 := Aside0.mk (blk_below (g := gb153) (o := .cells #[.int .i64 a0_0, .slice A0_1 l0_1.length c0_1, .int .i64 a0_2, .slice A0_3 l0_3.length c0_3] 52 (0, 0)) (blk_below BK153.out bgo_) hb); replace HB := Aside0.mk (below_step hbs_ hb); (try clear hb); (try clear hb2); (try clear hk); (try clear hi))); try go_wp2_with (first | (go_at_call 117; (with_reducible refine (spec_l02Directed.calls k a0_0 _ _ l0_1 _ _ l1 t155 _ ?side1 ?side2 ?side3 ?side4 A10.out).mono ?_); (case side1 => exact Kd.C_below (Kd.C_below HR0_1.out HB.out) bgo_); (case side2 => exact HC0_1.out); (case side3 => exact Kd.C_below (Kd.C_below HR1.out HB.out) bgo_); (case side4 => exact HC1.out); rintro e w12 ⟨rfl, hb⟩; replace BK153 := Aside0.mk (blk_below (g := gb153) (o := .cells #[.int .i64 a0_0, .slice A0_1 l0_1.length c0_1, .int .i64 a0_2, .slice A0_3 l0_3.length c0_3] 52 (0, 0)) (blk_below BK153.out bgo_) hb); replace HB := Aside0.mk (below_step hbs_ hb); (try clear hb); (try clear hb2); (try clear hk); (try clear hi))))
    go_meet
    case rel => exact ⟨_, (!t155), es_, H', ⟨by first | omega | exact Nat.le_refl _⟩, ⟨blk_below BK153.out bgo_⟩, ⟨hbs_⟩⟩
  case rest =>
   clear HC5
   obtain ⟨kq, x16_4, rfl, HA, HJ4, BK153, HB⟩ := hcut
   cases kq with
   | zero => exact absurd HA.out (by simp [spec_l04Walk.j0])
   | succ kj4 =>
    have H := HA.out
    clear HA
    simp only [spec_l04Walk.j0] at H
    by_cases c13 : x16_4 = true
    ·subst c13
     have H1 : (some (([] : List Int), 2)) = some (r1, r2) := by rw [if_pos rfl] at H; exact H
     clear H
     have H := H1
     clear H1
     simp only [Option.some.injEq, Prod.mk.injEq] at H
     obtain ⟨rfl, rfl⟩ := H
     go_wp2
     repeat (go_quiet (fail); try go_wp2)
     go_ret2
     exact ⟨_, er_, by first | exact Kd.R_nil _ _ _ _ _ | exact Kd.N_nil _ _ _ _ _ | exact Kd.V_nil _ _ _ _ _ | exact Kd.Q_nil _ _ _ _ _ | exact Kd.S_nil _ _ _ _ _, hbs_⟩
    ·replace c13 := Bool.eq_false_iff.mpr c13
     subst c13
     have H1 : ((spec_l02Closed.f kj4 a0_0 l0_1 l1).bind fun t156 => (if t156 = true then (spec_l04Walk.l0 kj4 l1 (([] : List Int)) 0 a0_0 l0_1 a0_2 l0_3) else (some (([] : List Int), 5)))) = some (r1, r2) := by rw [if_neg (show ¬ (false = true) by decide)] at H; exact H
     clear H
     have H := H1
     clear H1
     obtain ⟨t156, A14, H⟩ := bnd_ H
     by_cases c15 : t156 = true
     ·subst c15
      have H1 : (spec_l04Walk.l0 kj4 l1 (([] : List Int)) 0 a0_0 l0_1 a0_2 l0_3) = some (r1, r2) := by rw [if_pos rfl] at H; exact H
      clear H
      have H := H1
      clear H1
      obtain ⟨y157, Ny157, H⟩ : ∃ y157 : List Int, Aside0 (y157 = (([] : List Int))) ∧ (spec_l04Walk.l0 kj4 l1 y157 0 a0_0 l0_1 a0_2 l0_3) = some (r1, r2) := ⟨_, ⟨rfl⟩, H⟩
      have H' := Aside0.mk H
      clear H
      have hcz16_0 : wc.cell? ⟨gb153, 0, none⟩ = some (.int .i64 a0_0) := (blk_cell BK153.out 0).trans rfl
      have hcz16_1 : wc.cell? ⟨gb153, 1, none⟩ = some (.slice A0_1 l0_1.length c0_1) := (blk_cell BK153.out 1).trans rfl
      have hcz16_2 : wc.cell? ⟨gb153, 2, none⟩ = some (.int .i64 a0_2) := (blk_cell BK153.out 2).trans rfl
      have hcz16_3 : wc.cell? ⟨gb153, 3, none⟩ = some (.slice A0_3 l0_3.length c0_3) := (blk_cell BK153.out 3).trans rfl
      have hfz16_0 := blk_frozen BK153.out 0
      have hfz16_1 := blk_frozen BK153.out 1
      have hfz16_2 := blk_frozen BK153.out 2
      have hfz16_3 := blk_frozen BK153.out 3
      go_wp2_with (first | (go_at_call 118; (with_reducible refine (spec_l02Closed.calls kj4 a0_0 _ _ l0_1 _ _ l1 true _ ?side1 ?side2 ?side3 ?side4 A14.out).mono ?_); (case side1 => exact Kd.C_below (Kd.C_below HR0_1.out HB.out) bgo_); (case side2 => exact HC0_1.out); (case side3 => exact Kd.C_below (Kd.C_below HR1.out HB.out) bgo_); (case side4 => exact HC1.out); rintro e w17 ⟨rfl, hb⟩; replace BK153 := Aside0.mk (blk_below (g := gb153) (o := .cells #[.int .i64 a0_0, .slice A0_1 l0_1.length c0_1, .int .i64 a0_2, .slice A0_3 l0_3.length c0_3] 52 (0, 0)) (blk_below BK153.out bgo_) hb); replace HB := Aside0.mk (below_step hbs_ hb); (try clear hb); (try clear hb2); (try clear hk); (try clear hi)) | ((with_reducible refine gate_dst (N := 33) rfl ?_); refine Kd.R_lit (Kd.int .i64) _ 2 ?hg (N := 33) ?hd (xs := ([] : List Int)) (inner := []) (ok := fun _ => True) (okp := fun _ => True) ?hr ?hp (fun _ hk => hk) trivial (Below.refl _ _) (Nat.le_refl _) (by simp) ?_; (case hd => rfl); (case hg => rfl); (case hr => first | (go_simp; done) | (go_simp; rfl)); (case hp => exact (Reps.none _ _)); intro v158 w18 ho19 hb hg_ hnew_; clear hg_ hnew_; (first | rw [← Ny157.out] at ho19 | (simp only [Int.reduceToNat] at ho19; rw [← Ny157.out] at ho19)); have HO159 := Aside0.mk (Kd.R_lower ho19 (below_size hbs_)); replace BK153 := Aside0.mk (blk_below (g := gb153) (o := .cells #[.int .i64 a0_0, .slice A0_1 l0_1.length c0_1, .int .i64 a0_2, .slice A0_3 l0_3.length c0_3] 52 (0, 0)) (blk_below BK153.out bgo_) hb); replace HB := Aside0.mk (below_step hbs_ hb); clear hb ho19))
      repeat (go_quiet (first | (go_at_call 118; (with_reducible refine (spec_l02Closed.calls kj4 a0_0 _ _ l0_1 _ _ l1 true _ ?side1 ?side2 ?side3 ?side4 A14.out).mono ?_); (case side1 => exact Kd.C_below (Kd.C_below HR0_1.out HB.out) bgo_); (case side2 => exact HC0_1.out); (case side3 => exact Kd.C_below (Kd.C_below HR1.out HB.out) bgo_); (case side4 => exact HC1.out); rintro e w17 ⟨rfl, hb⟩; replace BK153 := Aside0.mk (blk_below (g := gb153) (o := .cells #[.int .i64 a0_0, .slice A0_1 l0_1.length c0_1, .int .i64 a0_2, .slice A0_3 l0_3.length c0_3] 52 (0, 0)) (blk_below BK153.out bgo_) hb); replace HB := Aside0.mk (below_step hbs_ hb); (try clear hb); (try clear hb2); (try clear hk); (try clear hi)) | ((with_reducible refine gate_dst (N := 33) rfl ?_); refine Kd.R_lit (Kd.int .i64) _ 2 ?hg (N := 33) ?hd (xs := ([] : List Int)) (inner := []) (ok := fun _ => True) (okp := fun _ => True) ?hr ?hp (fun _ hk => hk) trivial (Below.refl _ _) (Nat.le_refl _) (by simp) ?_; (case hd => rfl); (case hg => rfl); (case hr => first | (go_simp; done) | (go_simp; rfl)); (case hp => exact (Reps.none _ _)); intro v158 w18 ho19 hb hg_ hnew_; clear hg_ hnew_; (first | rw [← Ny157.out] at ho19 | (simp only [Int.reduceToNat] at ho19; rw [← Ny157.out] at ho19)); have HO159 := Aside0.mk (Kd.R_lower ho19 (below_size hbs_)); replace BK153 := Aside0.mk (blk_below (g := gb153) (o := .cells #[.int .i64 a0_0, .slice A0_1 l0_1.length c0_1, .int .i64 a0_2, .slice A0_3 l0_3.length c0_3] 52 (0, 0)) (blk_below BK153.out bgo_) hb); replace HB := Aside0.mk (below_step hbs_ hb); clear hb ho19)); try go_wp2_with (first | (go_at_call 118; (with_reducible refine (spec_l02Closed.calls kj4 a0_0 _ _ l0_1 _ _ l1 true _ ?side1 ?side2 ?side3 ?side4 A14.out).mono ?_); (case side1 => exact Kd.C_below (Kd.C_below HR0_1.out HB.out) bgo_); (case side2 => exact HC0_1.out); (case side3 => exact Kd.C_below (Kd.C_below HR1.out HB.out) bgo_); (case side4 => exact HC1.out); rintro e w17 ⟨rfl, hb⟩; replace BK153 := Aside0.mk (blk_below (g := gb153) (o := .cells #[.int .i64 a0_0, .slice A0_1 l0_1.length c0_1, .int .i64 a0_2, .slice A0_3 l0_3.length c0_3] 52 (0, 0)) (blk_below BK153.out bgo_) hb); replace HB := Aside0.mk (below_step hbs_ hb); (try clear hb); (try clear hb2); (try clear hk); (try clear hi)) | ((with_reducible refine gate_dst (N := 33) rfl ?_); refine Kd.R_lit (Kd.int .i64) _ 2 ?hg (N := 33) ?hd (xs := ([] : List Int)) (inner := []) (ok := fun _ => True) (okp := fun _ => True) ?hr ?hp (fun _ hk => hk) trivial (Below.refl _ _) (Nat.le_refl _) (by simp) ?_; (case hd => rfl); (case hg => rfl); (case hr => first | (go_simp; done) | (go_simp; rfl)); (case hp => exact (Reps.none _ _)); intro v158 w18 ho19 hb hg_ hnew_; clear hg_ hnew_; (first | rw [← Ny157.out] at ho19 | (simp only [Int.reduceToNat] at ho19; rw [← Ny157.out] at ho19)); have HO159 := Aside0.mk (Kd.R_lower ho19 (below_size hbs_)); replace BK153 := Aside0.mk (blk_below (g := gb153) (o := .cells #[.int .i64 a0_0, .slice A0_1 l0_1.length c0_1, .int .i64 a0_2, .slice A0_3 l0_3.length c0_3] 52 (0, 0)) (blk_below BK153.out bgo_) hb); replace HB := Aside0.mk (below_step hbs_ hb); clear hb ho19)))
      go_loopg [6, 7] kj4 (fun kq v6 v7 w' => ∃ (x6_2 : List Int) (x7_2 : Int), v7 = .int .i64 x7_2 ∧ Aside0 (spec_l04Walk.l0 kq l1 x6_2 x7_2 a0_0 l0_1 a0_2 l0_3 = some (r1, r2)) ∧ Aside0 (kq ≤ kj4) ∧ Aside0 (Kd.R (Kd.int .i64) 2 w' w.heap.size (fun _ => True) v6 x6_2) ∧ Aside0 (w'.heap[gb153]? = some (.cells #[.int .i64 a0_0, (.slice A0_1 l0_1.length c0_1), .int .i64 a0_2, (.slice A0_3 l0_3.length c0_3)] 52 (0, 0))) ∧ Aside0 (Below w.heap.size w w'))
      case atStart => exact ⟨(y157), (0), es_, H', ⟨Nat.le_refl _⟩, ⟨Kd.R_below HO159.out bgo_⟩, ⟨blk_below BK153.out bgo_⟩, ⟨hbs_⟩⟩
      case round =>
       clear H'
       obtain ⟨x6_2, x7_2, rfl, HA, HK2, HO_6, BK153, HB⟩ := hrel
       cases gk with
       | zero => exact absurd HA.out (by simp [spec_l04Walk.l0])
       | succ k2 =>
        have H := HA.out
        clear HA
        simp only [spec_l04Walk.l0] at H
        by_cases c20 : x7_2 < a0_2
        ·rw [if_pos c20] at H
         have c20b0 := decide_eq_true c20
         clear c20
         have H' := Aside0.mk H
         clear H
         have hcz21_0 : wr.cell? ⟨gb153, 0, none⟩ = some (.int .i64 a0_0) := (blk_cell BK153.out 0).trans rfl
         have hcz21_1 : wr.cell? ⟨gb153, 1, none⟩ = some (.slice A0_1 l0_1.length c0_1) := (blk_cell BK153.out 1).trans rfl
         have hcz21_2 : wr.cell? ⟨gb153, 2, none⟩ = some (.int .i64 a0_2) := (blk_cell BK153.out 2).trans rfl
         have hcz21_3 : wr.cell? ⟨gb153, 3, none⟩ = some (.slice A0_3 l0_3.length c0_3) := (blk_cell BK153.out 3).trans rfl
         have hfz21_0 := blk_frozen BK153.out 0
         have hfz21_1 := blk_frozen BK153.out 1
         have hfz21_2 := blk_frozen BK153.out 2
         have hfz21_3 := blk_frozen BK153.out 3
         go_wp2
         repeat (go_quiet (fail); try go_wp2)
         go_loopg [8, 9] k2 (fun kq v8 v9 w' => ∃ (x8_3 : Int) (x9_3 : Int), v8 = .int .i64 x8_3 ∧ v9 = .int .i64 x9_3 ∧ Aside0 (spec_l04Walk.l1 kq l1 x6_2 x7_2 x8_3 x9_3 a0_0 l0_1 a0_2 l0_3 = some (r1, r2)) ∧ Aside0 (kq ≤ k2) ∧ Aside0 (Kd.R (Kd.int .i64) 2 w' w.heap.size (fun _ => True) u6 x6_2) ∧ Aside0 (w'.heap[gb153]? = some (.cells #[.int .i64 a0_0, (.slice A0_1 l0_1.length c0_1), .int .i64 a0_2, (.slice A0_3 l0_3.length c0_3)] 52 (0, 0))) ∧ Aside0 (Below w.heap.size w w'))
         case atStart => exact ⟨(x7_2), (0), es_, es_, H', ⟨Nat.le_refl _⟩, ⟨Kd.R_below HO_6.out bgo_⟩, ⟨blk_below BK153.out bgo_⟩, ⟨hbs_⟩⟩
         case round =>
          clear H'
          obtain ⟨x8_3, x9_3, rfl, rfl, HA, HK3, HO_6, BK153, HB⟩ := hrel
          cases gk with
          | zero => exact absurd HA.out (by simp [spec_l04Walk.l1])
          | succ k3 =>
           have H := HA.out
           clear HA
           simp only [spec_l04Walk.l1] at H
           by_cases c22 : x9_3 < (l1.length : Int)
           ·rw [if_pos c22] at H
            have c22b0 := decide_eq_true c22
            clear c22
            obtain ⟨c23, H⟩ := itn_ H
            have c23b0 := decide_eq_true c23
            clear c23
            obtain ⟨ji24, hji24⟩ : ∃ j_ : Int, (wrap64 (Int.tdiv (rd l1 x9_3) 2)) = j_ := ⟨_, rfl⟩
            (try rw [hji24])
            replace H : (if 0 ≤ (ji24) then (if (ji24) < (l0_3.length : Int) then (if (Int.tmod (rd l1 x9_3) 2) = 0 then (if 0 ≤ x8_3 then (if x8_3 < ((rd_L1 l0_3 (ji24)).length : Int) then (spec_l04Walk.l1 k3 l1 x6_2 x7_2 (rd (rd_L1 l0_3 (ji24)) x8_3) (wrap64 (x9_3 + 1)) a0_0 l0_1 a0_2 l0_3) else (none)) else (none)) else (spec_l04Walk.l2 k3 l1 x6_2 x7_2 x8_3 x9_3 (rd_L1 l0_3 (ji24)) 0 a0_0 l0_1 a0_2 l0_3)) else (none)) else (none)) = some (r1, r2) := by first | (rw [hji24] at H; exact H) | (simp only [hji24] at H ⊢; exact H)
            have hji24w : (IntKind.i64.wrap (Int.tdiv (rd l1 x9_3) 2)) = ji24 := (i64_w _).trans hji24
            obtain ⟨c25, H⟩ := itn_ H
            have c25b0 := decide_eq_true c25
            clear c25
            obtain ⟨c26, H⟩ := itn_ H
            have c26b0 := decide_eq_true c26
            clear c26
            by_cases c27 : (Int.tmod (rd l1 x9_3) 2) = 0
            ·rw [if_pos c27] at H
             have c27b0 : ((Int.tmod (rd l1 x9_3) 2) == 0) = true := beq_iff_eq.mpr c27
             have c27b1 : ((Int.tmod (rd l1 x9_3) 2) != 0) = false := bne_eq_false_iff_eq.mpr c27
             clear c27
             obtain ⟨c28, H⟩ := itn_ H
             have c28b0 := decide_eq_true c28
             clear c28
             obtain ⟨c29, H⟩ := itn_ H
             have c29b0 := decide_eq_true c29
             clear c29
             have H' := Aside0.mk H
             clear H
             have hcz30_0 : wr.cell? ⟨gb153, 0, none⟩ = some (.int .i64 a0_0) := (blk_cell BK153.out 0).trans rfl
             have hcz30_1 : wr.cell? ⟨gb153, 1, none⟩ = some (.slice A0_1 l0_1.length c0_1) := (blk_cell BK153.out 1).trans rfl
             have hcz30_2 : wr.cell? ⟨gb153, 2, none⟩ = some (.int .i64 a0_2) := (blk_cell BK153.out 2).trans rfl
             have hcz30_3 : wr.cell? ⟨gb153, 3, none⟩ = some (.slice A0_3 l0_3.length c0_3) := (blk_cell BK153.out 3).trans rfl
             have hfz30_0 := blk_frozen BK153.out 0
             have hfz30_1 := blk_frozen BK153.out 1
             have hfz30_2 := blk_frozen BK153.out 2
             have hfz30_3 := blk_frozen BK153.out 3
             have p163 : 0 ≤ (x9_3 : Int) := od_
             have q163 : x9_3 < (l1.length : Int) := od_
             obtain ⟨ad163, e163, hx163_0⟩ := Kd.at_int HR1.out x9_3 p163 q163
             cases e163
             replace hx163_0 := (HB.out.cell (World.block_lt_of_cell? w _ hx163_0)).trans hx163_0
             replace p163 := eq_true p163
             replace q163 := eq_true q163
             have p164 : 0 ≤ ((ji24) : Int) := od_
             have q164 : (ji24) < (l0_3.length : Int) := od_
             obtain ⟨ad164, A164_0, c164_0, e164, hx164_0, hl164_0, hi164_0⟩ := at_L1 HR0_3.out (ji24) p164 q164
             cases e164
             replace hx164_0 := (HB.out.cell (World.block_lt_of_cell? w _ hx164_0)).trans hx164_0
             have HR164_0 := Aside0.mk hi164_0
             have HC164_0 := Aside0.mk hl164_0
             clear hi164_0 hl164_0
             replace p164 := eq_true p164
             replace q164 := eq_true q164
             have p165 : 0 ≤ (x9_3 : Int) := od_
             have q165 : x9_3 < (l1.length : Int) := od_
             obtain ⟨ad165, e165, hx165_0⟩ := Kd.at_int HR1.out x9_3 p165 q165
             obtain rfl : ad163 = ad165 := (by injection e165)
             replace hx165_0 := (HB.out.cell (World.block_lt_of_cell? w _ hx165_0)).trans hx165_0
             replace p165 := eq_true p165
             replace q165 := eq_true q165
             have p166 : 0 ≤ (x8_3 : Int) := od_
             have q166 : x8_3 < ((rd_L1 l0_3 (ji24)).length : Int) := od_
             obtain ⟨ad166, e166, hx166_0⟩ := Kd.at_int HR164_0.out x8_3 p166 q166
             cases e166
             replace hx166_0 := (HB.out.cell (World.block_lt_of_cell? w _ hx166_0)).trans hx166_0
             replace p166 := eq_true p166
             replace q166 := eq_true q166
             go_wp2
             repeat (go_quiet (fail); try go_wp2)
             first | (first | go_roundg k3 | (refine Handed.intro k3 ?measure ?_; rotate_left; go_step; (try simp only [add_plain]); (repeat apply Exists.intro); refine ⟨?rel, rfl⟩)) | ((try subst hji24); (first | go_roundg k3 | (refine Handed.intro k3 ?measure ?_; rotate_left; go_step; (try simp only [add_plain]); (repeat apply Exists.intro); refine ⟨?rel, rfl⟩)))
             case measure => have := HJ4.out; have := HK2.out; have := HK3.out; omega
             case rel => exact ⟨(rd (rd_L1 l0_3 (ji24)) x8_3), (wrap64 (x9_3 + 1)), (by first | rfl | (simp; done) | (simp only [← hji24] <;> (first | rfl | simp)) | (simp [*]; done)), es_, H', ⟨by have := HJ4.out; have := HK2.out; have := HK3.out; omega⟩, ⟨Kd.R_below HO_6.out bgo_⟩, ⟨blk_below BK153.out bgo_⟩, ⟨hbs_⟩⟩
            ·rw [if_neg c27] at H
             have c27b0 : ((Int.tmod (rd l1 x9_3) 2) == 0) = false := beq_eq_false_iff_ne.mpr c27
             have c27b1 : ((Int.tmod (rd l1 x9_3) 2) != 0) = true := bne_iff_ne.mpr c27
             have H' := Aside0.mk H
             clear H
             have hcz31_0 : wr.cell? ⟨gb153, 0, none⟩ = some (.int .i64 a0_0) := (blk_cell BK153.out 0).trans rfl
             have hcz31_1 : wr.cell? ⟨gb153, 1, none⟩ = some (.slice A0_1 l0_1.length c0_1) := (blk_cell BK153.out 1).trans rfl
             have hcz31_2 : wr.cell? ⟨gb153, 2, none⟩ = some (.int .i64 a0_2) := (blk_cell BK153.out 2).trans rfl
             have hcz31_3 : wr.cell? ⟨gb153, 3, none⟩ = some (.slice A0_3 l0_3.length c0_3) := (blk_cell BK153.out 3).trans rfl
             have hfz31_0 := blk_frozen BK153.out 0
             have hfz31_1 := blk_frozen BK153.out 1
             have hfz31_2 := blk_frozen BK153.out 2
             have hfz31_3 := blk_frozen BK153.out 3
             have p163 : 0 ≤ (x9_3 : Int) := od_
             have q163 : x9_3 < (l1.length : Int) := od_
             obtain ⟨ad163, e163, hx163_0⟩ := Kd.at_int HR1.out x9_3 p163 q163
             cases e163
             replace hx163_0 := (HB.out.cell (World.block_lt_of_cell? w _ hx163_0)).trans hx163_0
             replace p163 := eq_true p163
             replace q163 := eq_true q163
             have p164 : 0 ≤ ((ji24) : Int) := od_
             have q164 : (ji24) < (l0_3.length : Int) := od_
             obtain ⟨ad164, A164_0, c164_0, e164, hx164_0, hl164_0, hi164_0⟩ := at_L1 HR0_3.out (ji24) p164 q164
             cases e164
             replace hx164_0 := (HB.out.cell (World.block_lt_of_cell? w _ hx164_0)).trans hx164_0
             have HR164_0 := Aside0.mk hi164_0
             have HC164_0 := Aside0.mk hl164_0
             clear hi164_0 hl164_0
             replace p164 := eq_true p164
             replace q164 := eq_true q164
             have p165 : 0 ≤ (x9_3 : Int) := od_
             have q165 : x9_3 < (l1.length : Int) := od_
             obtain ⟨ad165, e165, hx165_0⟩ := Kd.at_int HR1.out x9_3 p165 q165
             obtain rfl : ad163 = ad165 := (by injection e165)
             replace hx165_0 := (HB.out.cell (World.block_lt_of_cell? w _ hx165_0)).trans hx165_0
             replace p165 := eq_true p165
             replace q165 := eq_true q165
             go_wp2
             repeat (go_quiet (fail); try go_wp2)
             go_loopg [11] k3 (fun kq v11 w' => ∃ (x11_4 : Int), v11 = .int .i64 x11_4 ∧ Aside0 (spec_l04Walk.l2 kq l1 x6_2 x7_2 x8_3 x9_3 (rd_L1 l0_3 (ji24)) x11_4 a0_0 l0_1 a0_2 l0_3 = some (r1, r2)) ∧ Aside0 (kq ≤ k3) ∧ Aside0 (Kd.R (Kd.int .i64) 2 w' w.heap.size (fun _ => True) u6 x6_2) ∧ Aside0 (w'.heap[gb153]? = some (.cells #[.int .i64 a0_0, (.slice A0_1 l0_1.length c0_1), .int .i64 a0_2, (.slice (some ad164) l0_3.length c0_3)] 52 (0, 0))) ∧ Aside0 (Below w.heap.size w w'))
             case atStart => exact ⟨(0), es_, H', ⟨Nat.le_refl _⟩, ⟨Kd.R_below HO_6.out bgo_⟩, ⟨blk_below BK153.out bgo_⟩, ⟨hbs_⟩⟩
             case round =>
              clear H'
              obtain ⟨x11_4, rfl, HA, HK4, HO_6, BK153, HB⟩ := hrel
              cases gk with
              | zero => exact absurd HA.out (by simp [spec_l04Walk.l2])
              | succ k4 =>
               have H := HA.out
               clear HA
               simp only [spec_l04Walk.l2] at H
               obtain ⟨c32, H⟩ := itn_ H
               have c32b0 := decide_eq_true c32
               clear c32
               obtain ⟨c33, H⟩ := itn_ H
               have c33b0 := decide_eq_true c33
               clear c33
               by_cases c34 : (rd (rd_L1 l0_3 (ji24)) x11_4) = x8_3
               ·rw [if_pos c34] at H
                have c34b0 : ((rd (rd_L1 l0_3 (ji24)) x11_4) == x8_3) = true := beq_iff_eq.mpr c34
                have c34b1 : ((rd (rd_L1 l0_3 (ji24)) x11_4) != x8_3) = false := bne_eq_false_iff_eq.mpr c34
                clear c34
                have H' := Aside0.mk H
                clear H
                have p167 : 0 ≤ (x11_4 : Int) := od_
                have q167 : x11_4 < ((rd_L1 l0_3 (ji24)).length : Int) := od_
                obtain ⟨ad167, e167, hx167_0⟩ := Kd.at_int HR164_0.out x11_4 p167 q167
                cases e167
                replace hx167_0 := (HB.out.cell (World.block_lt_of_cell? w _ hx167_0)).trans hx167_0
                replace p167 := eq_true p167
                replace q167 := eq_true q167
                go_wp2
                repeat (go_quiet (fail); try go_wp2)
                first | (first | go_roundg k4 | (refine Handed.intro k4 ?measure ?_; rotate_left; go_step; (try simp only [add_plain]); (repeat apply Exists.intro); refine ⟨?rel, rfl⟩)) | ((try subst hji24); (first | go_roundg k4 | (refine Handed.intro k4 ?measure ?_; rotate_left; go_step; (try simp only [add_plain]); (repeat apply Exists.intro); refine ⟨?rel, rfl⟩)))
                case measure => have := HJ4.out; have := HK2.out; have := HK3.out; have := HK4.out; omega
                case rel => exact ⟨(x11_4), (wrap64 (x9_3 + 1)), es_, es_, H', ⟨by have := HJ4.out; have := HK2.out; have := HK3.out; have := HK4.out; omega⟩, ⟨Kd.R_below HO_6.out bgo_⟩, ⟨blk_below BK153.out bgo_⟩, ⟨hbs_⟩⟩
               ·rw [if_neg c34] at H
                have c34b0 : ((rd (rd_L1 l0_3 (ji24)) x11_4) == x8_3) = false := beq_eq_false_iff_ne.mpr c34
                have c34b1 : ((rd (rd_L1 l0_3 (ji24)) x11_4) != x8_3) = true := bne_iff_ne.mpr c34
                have H' := Aside0.mk H
                clear H
                have p167 : 0 ≤ (x11_4 : Int) := od_
                have q167 : x11_4 < ((rd_L1 l0_3 (ji24)).length : Int) := od_
                obtain ⟨ad167, e167, hx167_0⟩ := Kd.at_int HR164_0.out x11_4 p167 q167
                cases e167
                replace hx167_0 := (HB.out.cell (World.block_lt_of_cell? w _ hx167_0)).trans hx167_0
                replace p167 := eq_true p167
                replace q167 := eq_true q167
                go_wp2
                repeat (go_quiet (fail); try go_wp2)
                first | (first | go_roundg k4 | (refine Handed.intro k4 ?measure ?_; rotate_left; go_step; (try simp only [add_plain]); (repeat apply Exists.intro); refine ⟨?rel, rfl⟩)) | ((try subst hji24); (first | go_roundg k4 | (refine Handed.intro k4 ?measure ?_; rotate_left; go_step; (try simp only [add_plain]); (repeat apply Exists.intro); refine ⟨?rel, rfl⟩)))
                case measure => have := HJ4.out; have := HK2.out; have := HK3.out; have := HK4.out; omega
                case rel => exact ⟨(wrap64 (x11_4 + 1)), es_, H', ⟨by have := HJ4.out; have := HK2.out; have := HK3.out; have := HK4.out; omega⟩, ⟨Kd.R_below HO_6.out bgo_⟩, ⟨blk_below BK153.out bgo_⟩, ⟨hbs_⟩⟩
           ·rw [if_neg c22] at H
            have c22b0 := decide_eq_false c22
            clear c22
            obtain ⟨c35, H⟩ := itn_ H
            have LMc35 := Aside0.mk c35
            clear c35
            obtain ⟨y160, Ny160, H⟩ : ∃ y160 : List Int, Aside0 (y160 = (x6_2 ++ [x8_3])) ∧ (spec_l04Walk.l0 k3 l1 y160 (wrap64 (x7_2 + 1)) a0_0 l0_1 a0_2 l0_3) = some (r1, r2) := ⟨_, ⟨rfl⟩, H⟩
            have H' := Aside0.mk H
            clear H
            go_wp2_with (first | ((with_reducible refine gate_builtin (b := .append) (xs := #[.tmp 75, .tmp 77]) rfl ?_); at_builtin; refine Kd.R_append (Kd.int .i64) (w0 := w) w.heap.size rfl (.tmp 75) (.tmp 77) 26 2 (.int .i64 0) 8 rfl Try.underlying26 info2 rfl (by decide) (by omega) u6 x6_2 x8_3 [.int .i64 x8_3] (fun _ => True) (fun _ => False) rfl rfl ?aP (fun _ hk => hk.elim) ?aF ?aO ?aB ?aS ?aL ?_; (case aP => exact rfl); (case aB => exact hbs_); (case aF => exact (fun _ _ => trivial)); (case aO => exact (Kd.R_below HO_6.out bgo_)); (case aS => exact (below_size hbs_)); (case aL => have := LMc35.out; omega); intro v161 w36 ho hb hg hat; rw [← Ny160.out] at ho; replace BK153 := Aside0.mk (blk_grown (g := gb153) (o := .cells #[.int .i64 a0_0, .slice A0_1 l0_1.length c0_1, .int .i64 a0_2, .slice A0_3 l0_3.length c0_3] 52 (0, 0)) (blk_below BK153.out bgo_) hg (Kd.R_ne HO_6.out BK153.out (by decide))); replace HB := Aside0.mk (hb); have HO162 := Aside0.mk (ho); clear HO_6; clear ho hb hg hat))
            repeat (go_quiet (first | ((with_reducible refine gate_builtin (b := .append) (xs := #[.tmp 75, .tmp 77]) rfl ?_); at_builtin; refine Kd.R_append (Kd.int .i64) (w0 := w) w.heap.size rfl (.tmp 75) (.tmp 77) 26 2 (.int .i64 0) 8 rfl Try.underlying26 info2 rfl (by decide) (by omega) u6 x6_2 x8_3 [.int .i64 x8_3] (fun _ => True) (fun _ => False) rfl rfl ?aP (fun _ hk => hk.elim) ?aF ?aO ?aB ?aS ?aL ?_; (case aP => exact rfl); (case aB => exact hbs_); (case aF => exact (fun _ _ => trivial)); (case aO => exact (Kd.R_below HO_6.out bgo_)); (case aS => exact (below_size hbs_)); (case aL => have := LMc35.out; omega); intro v161 w36 ho hb hg hat; rw [← Ny160.out] at ho; replace BK153 := Aside0.mk (blk_grown (g := gb153) (o := .cells #[.int .i64 a0_0, .slice A0_1 l0_1.length c0_1, .int .i64 a0_2, .slice A0_3 l0_3.length c0_3] 52 (0, 0)) (blk_below BK153.out bgo_) hg (Kd.R_ne HO_6.out BK153.out (by decide))); replace HB := Aside0.mk (hb); have HO162 := Aside0.mk (ho); clear HO_6; clear ho hb hg hat)); try go_wp2_with (first | ((with_reducible refine gate_builtin (b := .append) (xs := #[.tmp 75, .tmp 77]) rfl ?_); at_builtin; refine Kd.R_append (Kd.int .i64) (w0 := w) w.heap.size rfl (.tmp 75) (.tmp 77) 26 2 (.int .i64 0) 8 rfl Try.underlying26 info2 rfl (by decide) (by omega) u6 x6_2 x8_3 [.int .i64 x8_3] (fun _ => True) (fun _ => False) rfl rfl ?aP (fun _ hk => hk.elim) ?aF ?aO ?aB ?aS ?aL ?_; (case aP => exact rfl); (case aB => exact hbs_); (case aF => exact (fun _ _ => trivial)); (case aO => exact (Kd.R_below HO_6.out bgo_)); (case aS => exact (below_size hbs_)); (case aL => have := LMc35.out; omega); intro v161 w36 ho hb hg hat; rw [← Ny160.out] at ho; replace BK153 := Aside0.mk (blk_grown (g := gb153) (o := .cells #[.int .i64 a0_0, .slice A0_1 l0_1.length c0_1, .int .i64 a0_2, .slice A0_3 l0_3.length c0_3] 52 (0, 0)) (blk_below BK153.out bgo_) hg (Kd.R_ne HO_6.out BK153.out (by decide))); replace HB := Aside0.mk (hb); have HO162 := Aside0.mk (ho); clear HO_6; clear ho hb hg hat)))
            first | go_roundg k3 | (refine Handed.intro k3 ?measure ?_; rotate_left; go_step; (try simp only [add_plain]); (repeat apply Exists.intro); refine ⟨?rel, rfl⟩)
            case measure => have := HJ4.out; have := HK2.out; have := HK3.out; omega
            case rel => exact ⟨(y160), (wrap64 (x7_2 + 1)), es_, H', ⟨by have := HJ4.out; have := HK2.out; have := HK3.out; omega⟩, ⟨Kd.R_below HO162.out bgo_⟩, ⟨blk_below BK153.out bgo_⟩, ⟨hbs_⟩⟩
        ·rw [if_neg c20] at H
         have c20b0 := decide_eq_false c20
         clear c20
         simp only [Option.some.injEq, Prod.mk.injEq] at H
         obtain ⟨rfl, rfl⟩ := H
         have hcz37_0 : wr.cell? ⟨gb153, 0, none⟩ = some (.int .i64 a0_0) := (blk_cell BK153.out 0).trans rfl
         have hcz37_1 : wr.cell? ⟨gb153, 1, none⟩ = some (.slice A0_1 l0_1.length c0_1) := (blk_cell BK153.out 1).trans rfl
         have hcz37_2 : wr.cell? ⟨gb153, 2, none⟩ = some (.int .i64 a0_2) := (blk_cell BK153.out 2).trans rfl
         have hcz37_3 : wr.cell? ⟨gb153, 3, none⟩ = some (.slice A0_3 l0_3.length c0_3) := (blk_cell BK153.out 3).trans rfl
         have hfz37_0 := blk_frozen BK153.out 0
         have hfz37_1 := blk_frozen BK153.out 1
         have hfz37_2 := blk_frozen BK153.out 2
         have hfz37_3 := blk_frozen BK153.out 3
         go_wp2
         repeat (go_quiet (fail); try go_wp2)
         go_ret2
         exact ⟨_, er_, (Kd.R_below HO_6.out bgo_), hbs_⟩
     ·replace c15 := Bool.eq_false_iff.mpr c15
      subst c15
      have H1 : (some (([] : List Int), 5)) = some (r1, r2) := by rw [if_neg (show ¬ (false = true) by decide)] at H; exact H
      clear H
      have H := H1
      clear H1
      simp only [Option.some.injEq, Prod.mk.injEq] at H
      obtain ⟨rfl, rfl⟩ := H
      have hcz38_0 : wc.cell? ⟨gb153, 0, none⟩ = some (.int .i64 a0_0) := (blk_cell BK153.out 0).trans rfl
      have hcz38_1 : wc.cell? ⟨gb153, 1, none⟩ = some (.slice A0_1 l0_1.length c0_1) := (blk_cell BK153.out 1).trans rfl
      have hcz38_2 : wc.cell? ⟨gb153, 2, none⟩ = some (.int .i64 a0_2) := (blk_cell BK153.out 2).trans rfl
      have hcz38_3 : wc.cell? ⟨gb153, 3, none⟩ = some (.slice A0_3 l0_3.length c0_3) := (blk_cell BK153.out 3).trans rfl
      have hfz38_0 := blk_frozen BK153.out 0
      have hfz38_1 := blk_frozen BK153.out 1
      have hfz38_2 := blk_frozen BK153.out 2
      have hfz38_3 := blk_frozen BK153.out 3
      go_wp2_with (first | (go_at_call 118; (with_reducible refine (spec_l02Closed.calls kj4 a0_0 _ _ l0_1 _ _ l1 false _ ?side1 ?side2 ?side3 ?side4 A14.out).mono ?_); (case side1 => exact Kd.C_below (Kd.C_below HR0_1.out HB.out) bgo_); (case side2 => exact HC0_1.out); (case side3 => exact Kd.C_below (Kd.C_below HR1.out HB.out) bgo_); (case side4 => exact HC1.out); rintro e w39 ⟨rfl, hb⟩; replace BK153 := Aside0.mk (blk_below (g := gb153) (o := .cells #[.int .i64 a0_0, .slice A0_1 l0_1.length c0_1, .int .i64 a0_2, .slice A0_3 l0_3.length c0_3] 52 (0, 0)) (blk_below BK153.out bgo_) hb); replace HB := Aside0.mk (below_step hbs_ hb); (try clear hb); (try clear hb2); (try clear hk); (try clear hi)))
      repeat (go_quiet (first | (go_at_call 118; (with_reducible refine (spec_l02Closed.calls kj4 a0_0 _ _ l0_1 _ _ l1 false _ ?side1 ?side2 ?side3 ?side4 A14.out).mono ?_); (case side1 => exact Kd.C_below (Kd.C_below HR0_1.out HB.out) bgo_); (case side2 => exact HC0_1.out); (case side3 => exact Kd.C_below (Kd.C_below HR1.out HB.out) bgo_); (case side4 => exact HC1.out); rintro e w39 ⟨rfl, hb⟩; replace BK153 := Aside0.mk (blk_below (g := gb153) (o := .cells #[.int .i64 a0_0, .slice A0_1 l0_1.length c0_1, .int .i64 a0_2, .slice A0_3 l0_3.length c0_3] 52 (0, 0)) (blk_below BK153.out bgo_) hb); replace HB := Aside0.mk (below_step hbs_ hb); (try clear hb); (try clear hb2); (try clear hk); (try clear hi))); try go_wp2_with (first | (go_at_call 118; (with_reducible refine (spec_l02Closed.calls kj4 a0_0 _ _ l0_1 _ _ l1 false _ ?side1 ?side2 ?side3 ?side4 A14.out).mono ?_); (case side1 => exact Kd.C_below (Kd.C_below HR0_1.out HB.out) bgo_); (case side2 => exact HC0_1.out); (case side3 => exact Kd.C_below (Kd.C_below HR1.out HB.out) bgo_); (case side4 => exact HC1.out); rintro e w39 ⟨rfl, hb⟩; replace BK153 := Aside0.mk (blk_below (g := gb153) (o := .cells #[.int .i64 a0_0, .slice A0_1 l0_1.length c0_1, .int .i64 a0_2, .slice A0_3 l0_3.length c0_3] 52 (0, 0)) (blk_below BK153.out bgo_) hb); replace HB := Aside0.mk (below_step hbs_ hb); (try clear hb); (try clear hb2); (try clear hk); (try clear hi))))
      go_ret2
      exact ⟨_, er_, by first | exact Kd.R_nil _ _ _ _ _ | exact Kd.N_nil _ _ _ _ _ | exact Kd.V_nil _ _ _ _ _ | exact Kd.Q_nil _ _ _ _ _ | exact Kd.S_nil _ _ _ _ _, hbs_⟩
 ·replace c4 := Bool.eq_false_iff.mpr c4
  subst c4
  have H1 : (some (([] : List Int), 1)) = some (r1, r2) := by rw [if_neg (show ¬ (false = true) by decide)] at H; exact H
  clear H
  have H := H1
  clear H1
  simp only [Option.some.injEq, Prod.mk.injEq] at H
  obtain ⟨rfl, rfl⟩ := H
  go_enter Try.func82, Try.ntmps82
  go_wp2_with (first | ((with_reducible refine gate_dst (N := 2) rfl ?_); refine box_event ?hg (N := 2) ?hd (cs := #[.int .i64 a0_0, .slice A0_1 l0_1.length c0_1, .int .i64 a0_2, .slice A0_3 l0_3.length c0_3]) (t := 52) ?hr ?_; (case hd => rfl); (case hg => rfl); (case hr => first | (go_simp; done) | (go_simp; rfl)); intro gb153 hg w40 hbox hb; have BK153 := Aside0.mk (hbox); have GW153 := Aside0.mk ((by rw [hg]; exact (below_size hb_) : w.heap.size ≤ gb153)); have GE153 := Aside0.mk ((by rw [hg]; exact (below_size hb_) : w.heap.size ≤ gb153)); replace HB := Aside0.mk (below_step hb_ hb); clear hb hbox hg; have hcz41_0 : w40.cell? ⟨gb153, 0, none⟩ = some (.int .i64 a0_0) := (blk_cell BK153.out 0).trans rfl; have hcz41_1 : w40.cell? ⟨gb153, 1, none⟩ = some (.slice A0_1 l0_1.length c0_1) := (blk_cell BK153.out 1).trans rfl; have hcz41_2 : w40.cell? ⟨gb153, 2, none⟩ = some (.int .i64 a0_2) := (blk_cell BK153.out 2).trans rfl; have hcz41_3 : w40.cell? ⟨gb153, 3, none⟩ = some (.slice A0_3 l0_3.length c0_3) := (blk_cell BK153.out 3).trans rfl; have hfz41_0 := blk_frozen BK153.out 0; have hfz41_1 := blk_frozen BK153.out 1; have hfz41_2 := blk_frozen BK153.out 2; have hfz41_3 := blk_frozen BK153.out 3) | (go_at_call 116; (with_reducible refine (spec_l04Is.calls k a0_0 _ _ l0_1 a0_2 _ _ l0_3 false _ ?side1 ?side2 ?side3 ?side4 A3.out).mono ?_); (case side1 => exact Kd.C_below (Kd.C_below HR0_1.out HB.out) bgo_); (case side2 => exact HC0_1.out); (case side3 => exact Kd.C_below (Kd.C_below HR0_3.out HB.out) bgo_); (case side4 => exact HC0_3.out); rintro e w42 ⟨rfl, hb⟩; replace BK153 := Aside0.mk (blk_below (g := gb153) (o := .cells #[.int .i64 a0_0, .slice A0_1 l0_1.length c0_1, .int .i64 a0_2, .slice A0_3 l0_3.length c0_3] 52 (0, 0)) (blk_below BK153.out bgo_) hb); replace HB := Aside0.mk (below_step hbs_ hb); (try clear hb); (try clear hb2); (try clear hk); (try clear hi)))
  repeat (go_quiet (first | ((with_reducible refine gate_dst (N := 2) rfl ?_); refine box_event ?hg (N := 2) ?hd (cs := #[.int .i64 a0_0, .slice A0_1 l0_1.length c0_1, .int .i64 a0_2, .slice A0_3 l0_3.length c0_3]) (t := 52) ?hr ?_; (case hd => rfl); (case hg => rfl); (case hr => first | (go_simp; done) | (go_simp; rfl)); intro gb153 hg w40 hbox hb; have BK153 := Aside0.mk (hbox); have GW153 := Aside0.mk ((by rw [hg]; exact (below_size hb_) : w.heap.size ≤ gb153)); have GE153 := Aside0.mk ((by rw [hg]; exact (below_size hb_) : w.heap.size ≤ gb153)); replace HB := Aside0.mk (below_step hb_ hb); clear hb hbox hg; have hcz41_0 : w40.cell? ⟨gb153, 0, none⟩ = some (.int .i64 a0_0) := (blk_cell BK153.out 0).trans rfl; have hcz41_1 : w40.cell? ⟨gb153, 1, none⟩ = some (.slice A0_1 l0_1.length c0_1) := (blk_cell BK153.out 1).trans rfl; have hcz41_2 : w40.cell? ⟨gb153, 2, none⟩ = some (.int .i64 a0_2) := (blk_cell BK153.out 2).trans rfl; have hcz41_3 : w40.cell? ⟨gb153, 3, none⟩ = some (.slice A0_3 l0_3.length c0_3) := (blk_cell BK153.out 3).trans rfl; have hfz41_0 := blk_frozen BK153.out 0; have hfz41_1 := blk_frozen BK153.out 1; have hfz41_2 := blk_frozen BK153.out 2; have hfz41_3 := blk_frozen BK153.out 3) | (go_at_call 116; (with_reducible refine (spec_l04Is.calls k a0_0 _ _ l0_1 a0_2 _ _ l0_3 false _ ?side1 ?side2 ?side3 ?side4 A3.out).mono ?_); (case side1 => exact Kd.C_below (Kd.C_below HR0_1.out HB.out) bgo_); (case side2 => exact HC0_1.out); (case side3 => exact Kd.C_below (Kd.C_below HR0_3.out HB.out) bgo_); (case side4 => exact HC0_3.out); rintro e w42 ⟨rfl, hb⟩; replace BK153 := Aside0.mk (blk_below (g := gb153) (o := .cells #[.int .i64 a0_0, .slice A0_1 l0_1.length c0_1, .int .i64 a0_2, .slice A0_3 l0_3.length c0_3] 52 (0, 0)) (blk_below BK153.out bgo_) hb); replace HB := Aside0.mk (below_step hbs_ hb); (try clear hb); (try clear hb2); (try clear hk); (try clear hi))); try go_wp2_with (first | ((with_reducible refine gate_dst (N := 2) rfl ?_); refine box_event ?hg (N := 2) ?hd (cs := #[.int .i64 a0_0, .slice A0_1 l0_1.length c0_1, .int .i64 a0_2, .slice A0_3 l0_3.length c0_3]) (t := 52) ?hr ?_; (case hd => rfl); (case hg => rfl); (case hr => first | (go_simp; done) | (go_simp; rfl)); intro gb153 hg w40 hbox hb; have BK153 := Aside0.mk (hbox); have GW153 := Aside0.mk ((by rw [hg]; exact (below_size hb_) : w.heap.size ≤ gb153)); have GE153 := Aside0.mk ((by rw [hg]; exact (below_size hb_) : w.heap.size ≤ gb153)); replace HB := Aside0.mk (below_step hb_ hb); clear hb hbox hg; have hcz41_0 : w40.cell? ⟨gb153, 0, none⟩ = some (.int .i64 a0_0) := (blk_cell BK153.out 0).trans rfl; have hcz41_1 : w40.cell? ⟨gb153, 1, none⟩ = some (.slice A0_1 l0_1.length c0_1) := (blk_cell BK153.out 1).trans rfl; have hcz41_2 : w40.cell? ⟨gb153, 2, none⟩ = some (.int .i64 a0_2) := (blk_cell BK153.out 2).trans rfl; have hcz41_3 : w40.cell? ⟨gb153, 3, none⟩ = some (.slice A0_3 l0_3.length c0_3) := (blk_cell BK153.out 3).trans rfl; have hfz41_0 := blk_frozen BK153.out 0; have hfz41_1 := blk_frozen BK153.out 1; have hfz41_2 := blk_frozen BK153.out 2; have hfz41_3 := blk_frozen BK153.out 3) | (go_at_call 116; (with_reducible refine (spec_l04Is.calls k a0_0 _ _ l0_1 a0_2 _ _ l0_3 false _ ?side1 ?side2 ?side3 ?side4 A3.out).mono ?_); (case side1 => exact Kd.C_below (Kd.C_below HR0_1.out HB.out) bgo_); (case side2 => exact HC0_1.out); (case side3 => exact Kd.C_below (Kd.C_below HR0_3.out HB.out) bgo_); (case side4 => exact HC0_3.out); rintro e w42 ⟨rfl, hb⟩; replace BK153 := Aside0.mk (blk_below (g := gb153) (o := .cells #[.int .i64 a0_0, .slice A0_1 l0_1.length c0_1, .int .i64 a0_2, .slice A0_3 l0_3.length c0_3] 52 (0, 0)) (blk_below BK153.out bgo_) hb); replace HB := Aside0.mk (below_step hbs_ hb); (try clear hb); (try clear hb2); (try clear hk); (try clear hi))))
  go_ret2
  exact ⟨_, er_, by first | exact Kd.R_nil _ _ _ _ _ | exact Kd.N_nil _ _ _ _ _ | exact Kd.V_nil _ _ _ _ _ | exact Kd.Q_nil _ _ _ _ _ | exact Kd.S_nil _ _ _ _ _, hbs_⟩

/-! ### spec_TypeOfWalk: function 34 -/
theorem spec_TypeOfWalk.row4 {w : World} {g base : Nat} (h : w.heap[g]? = some (.cells #[.bool false, .bool false, .bool false, .bool false] 85 (0, 0))) (hb : base ≤ g) : Kd.R Kd.bool 85 w base (fun _ => True) (.slice (some ⟨g, 0, none⟩) 4 4) (List.replicate 4 false) :=
 ⟨fun _ _ => trivial, [.bool false, .bool false, .bool false, .bool false], ⟨rfl, .inr ⟨g, 4, #[.bool false, .bool false, .bool false, .bool false], rfl, hb, h, Nat.le_refl _, by decide, rfl, rfl⟩⟩, Kd.reps_scalar (enc := Value.bool) (List.replicate 4 false)⟩
theorem spec_TypeOfWalk.len4 {w : World} {e g base : Nat} {ok : Nat → Prop} {xs : List Bool} (h : Kd.R Kd.bool e w base ok (.slice (some ⟨g, 0, none⟩) 4 4) xs) : xs.length = 4 := by
 obtain ⟨A, c, e⟩ := Kd.R_slice h
 injection e with _ e _
 exact e.symm
theorem spec_TypeOfWalk.same1 {w : World} {g i : Nat} {v : Value} {cs : Array Value} {t : Nat} {f : Nat × Nat} (h : w.heap[g]? = some (.cells cs t f)) (hi : cs[i]? = some v) : w.setCell ⟨g, i, none⟩ v = w := by
 have e : w.heap.modify g (fun | .cells c elem frozen => .cells (if (none : Option Nat).isSome then c else c.setIfInBounds i v) elem frozen | o => o) = w.heap := by
  apply Array.ext
  ·simp
  ·intro k h1 h2
   rw [Array.getElem_modify]
   split
   ·next hk =>
    subst hk
    have hg : w.heap[g]? = some w.heap[g] := Array.getElem?_eq_getElem h2
    rw [h] at hg
    rw [← Option.some.inj hg]
    have : cs.setIfInBounds i v = cs := by
     apply Array.ext
     ·simp
     ·intro m m1 m2
      rw [Array.getElem_setIfInBounds]
      split
      ·next hm =>
       subst hm
       rw [Array.getElem?_eq_getElem m2] at hi
       exact (Option.some.inj hi).symm
      ·rfl
    simp [this]
   ·rfl
 unfold World.setCell
 exact congrArg (fun z => { w with heap := z }) e
theorem spec_TypeOfWalk.same4 {w : World} {g : Nat} {t : Nat} {f : Nat × Nat} (h : w.heap[g]? = some (.cells #[.bool false, .bool false, .bool false, .bool false] t f)) : (((w.setCell ⟨g, 0, none⟩ (.bool false)).setCell ⟨g, 1, none⟩ (.bool false)).setCell ⟨g, 2, none⟩ (.bool false)).setCell ⟨g, 3, none⟩ (.bool false) = w := by
 rw [spec_TypeOfWalk.same1 h rfl, spec_TypeOfWalk.same1 h rfl, spec_TypeOfWalk.same1 h rfl, spec_TypeOfWalk.same1 h rfl]
mutual
def spec_TypeOfWalk.l0 : Nat → List Int → List Bool → List Int → Int → Int → List (List Int) → Int → List (List Int) → Option (List Int × Int)
 | 0, _, _, _, _, _, _, _, _ => none
 | k + 1, x6, x8, x9, x10, x169000, x169001, x169002, x169003 => if x10 < x169002 then (spec_TypeOfWalk.l1 k x6 x8 x9 x10 0 x10 x169000 x169001 x169002 x169003) else (some (x9, 0))
def spec_TypeOfWalk.l1 : Nat → List Int → List Bool → List Int → Int → Int → Int → Int → List (List Int) → Int → List (List Int) → Option (List Int × Int)
 | 0, _, _, _, _, _, _, _, _, _, _ => none
 | k + 1, x6, x8, x9, x10, x11, x12, x169000, x169001, x169002, x169003 => if 0 ≤ x12 then (if x12 < (x8.length : Int) then (if rdOf false x8 x12 = true then (spec_TypeOfWalk.l2 k x6 x8 x9 x10 x11 (x9.length : Int) x169000 x169001 x169002 x169003) else (if x12 < (x6.length : Int) then (spec_TypeOfWalk.l1 k x6 (x8.set (x12 : Int).toNat true) x9 x10 (wrap64 (x11 + 1)) (rd x6 x12) x169000 x169001 x169002 x169003) else (none))) else (none)) else (none)
def spec_TypeOfWalk.l2 : Nat → List Int → List Bool → List Int → Int → Int → Int → Int → List (List Int) → Int → List (List Int) → Option (List Int × Int)
 | 0, _, _, _, _, _, _, _, _, _, _ => none
 | k + 1, x6, x8, x9, x10, x11, x13, x169000, x169001, x169002, x169003 => if x13 > 0 then (if 0 ≤ (wrap64 (x13 - 1)) then (if (wrap64 (x13 - 1)) < (x9.length : Int) then (if (rd x9 (wrap64 (x13 - 1))) < x11 then (spec_TypeOfWalk.l2 k x6 x8 x9 x10 x11 (wrap64 (x13 - 1)) x169000 x169001 x169002 x169003) else (if x11 > 0 then ((some (([x11] : List Int) : List Int)).bind fun y183 => (if 0 ≤ x13 then (if x13 ≤ (x9.length : Int) then ((some (x9.drop (x13 : Int).toNat : List Int)).bind fun y186 => (if y183.length + y186.length < 17592186044416 then ((some (y183 ++ y186 : List Int)).bind fun y190 => ((spec_l01Own.f (x9.take (x13 : Int).toNat)).bind fun t197 => (if t197.length + y190.length < 17592186044416 then (spec_TypeOfWalk.l0 k x6 x8 (t197 ++ y190) (wrap64 (x10 + 1)) x169000 x169001 x169002 x169003) else (none)))) else (none))) else (none)) else (none))) else (spec_TypeOfWalk.l0 k x6 x8 x9 (wrap64 (x10 + 1)) x169000 x169001 x169002 x169003))) else (none)) else (none)) else (if x11 > 0 then ((some (([x11] : List Int) : List Int)).bind fun y203 => (if 0 ≤ x13 then (if x13 ≤ (x9.length : Int) then ((some (x9.drop (x13 : Int).toNat : List Int)).bind fun y206 => (if y203.length + y206.length < 17592186044416 then ((some (y203 ++ y206 : List Int)).bind fun y210 => ((spec_l01Own.f (x9.take (x13 : Int).toNat)).bind fun t217 => (if t217.length + y210.length < 17592186044416 then (spec_TypeOfWalk.l0 k x6 x8 (t217 ++ y210) (wrap64 (x10 + 1)) x169000 x169001 x169002 x169003) else (none)))) else (none))) else (none)) else (none))) else (spec_TypeOfWalk.l0 k x6 x8 x9 (wrap64 (x10 + 1)) x169000 x169001 x169002 x169003))
end
def spec_TypeOfWalk.f (k : Nat) (a0_0 : Int) (l0_1 : List (List Int)) (a0_2 : Int) (l0_3 : List (List Int)) (l1 : List Int) : Option (List Int × Int) := (spec_l04Walk.f k a0_0 l0_1 a0_2 l0_3 l1).bind fun bt169 => (if bt169.2 = 0 then (if 4 ≤ 281474976710656 then (spec_TypeOfWalk.l0 k bt169.1 (List.replicate 4 false) (([] : List Int)) 0 a0_0 l0_1 a0_2 l0_3) else (none)) else (some (([] : List Int), bt169.2)))
theorem spec_TypeOfWalk.mono_l : ∀ k, (∀ y0 y1 y2 y3 y4 y5 y6 y7, LeO (spec_TypeOfWalk.l0 k y0 y1 y2 y3 y4 y5 y6 y7) (spec_TypeOfWalk.l0 (k + 1) y0 y1 y2 y3 y4 y5 y6 y7)) ∧ (∀ y0 y1 y2 y3 y4 y5 y6 y7 y8 y9, LeO (spec_TypeOfWalk.l1 k y0 y1 y2 y3 y4 y5 y6 y7 y8 y9) (spec_TypeOfWalk.l1 (k + 1) y0 y1 y2 y3 y4 y5 y6 y7 y8 y9)) ∧ (∀ y0 y1 y2 y3 y4 y5 y6 y7 y8 y9, LeO (spec_TypeOfWalk.l2 k y0 y1 y2 y3 y4 y5 y6 y7 y8 y9) (spec_TypeOfWalk.l2 (k + 1) y0 y1 y2 y3 y4 y5 y6 y7 y8 y9))
 | 0 => ⟨fun _ _ _ _ _ _ _ _ r h => by simp [spec_TypeOfWalk.l0] at h, fun _ _ _ _ _ _ _ _ _ _ r h => by simp [spec_TypeOfWalk.l1] at h, fun _ _ _ _ _ _ _ _ _ _ r h => by simp [spec_TypeOfWalk.l2] at h⟩
 | k + 1 => by
  obtain ⟨ih0, ih1, ih2⟩ := spec_TypeOfWalk.mono_l k
  refine ⟨?_, ?_, ?_⟩
  ·intro y0 y1 y2 y3 y4 y5 y6 y7
   unfold spec_TypeOfWalk.l0
   repeat' first
   | (with_reducible exact ih0 _ _ _ _ _ _ _ _)
   | (with_reducible exact ih1 _ _ _ _ _ _ _ _ _ _)
   | (with_reducible exact ih2 _ _ _ _ _ _ _ _ _ _)
   | (with_reducible exact spec_l04Walk.mono _ _ _ _ _ _)
   | (with_reducible exact LeO.refl _)
   | (with_reducible exact LeO.none _)
   | (with_reducible refine LeO.ite ?_ ?_)
   | (with_reducible refine LeO.bind ?_ (fun _ => ?_))
  ·intro y0 y1 y2 y3 y4 y5 y6 y7 y8 y9
   unfold spec_TypeOfWalk.l1
   repeat' first
   | (with_reducible exact ih0 _ _ _ _ _ _ _ _)
   | (with_reducible exact ih1 _ _ _ _ _ _ _ _ _ _)
   | (with_reducible exact ih2 _ _ _ _ _ _ _ _ _ _)
   | (with_reducible exact spec_l04Walk.mono _ _ _ _ _ _)
   | (with_reducible exact LeO.refl _)
   | (with_reducible exact LeO.none _)
   | (with_reducible refine LeO.ite ?_ ?_)
   | (with_reducible refine LeO.bind ?_ (fun _ => ?_))
  ·intro y0 y1 y2 y3 y4 y5 y6 y7 y8 y9
   unfold spec_TypeOfWalk.l2
   repeat' first
   | (with_reducible exact ih0 _ _ _ _ _ _ _ _)
   | (with_reducible exact ih1 _ _ _ _ _ _ _ _ _ _)
   | (with_reducible exact ih2 _ _ _ _ _ _ _ _ _ _)
   | (with_reducible exact spec_l04Walk.mono _ _ _ _ _ _)
   | (with_reducible exact LeO.refl _)
   | (with_reducible exact LeO.none _)
   | (with_reducible refine LeO.ite ?_ ?_)
   | (with_reducible refine LeO.bind ?_ (fun _ => ?_))
set_option maxHeartbeats 8000000 in
set_option maxRecDepth 100000 in
theorem spec_TypeOfWalk.calls (k : Nat) (a0_0 : Int) (A0_1 : Option Addr) (c0_1 : Nat) (l0_1 : List (List Int)) (a0_2 : Int) (A0_3 : Option Addr) (c0_3 : Nat) (l0_3 : List (List Int)) (A1 : Option Addr) (c1 : Nat) (l1 : List Int) (r1 : List Int) (r2 : Int) (w : World) (hr0_1 : Kd.C (Kd.slice 2 (Kd.int .i64)) w A0_1 l0_1.length l0_1) (hc0_1 : l0_1.length ≤ c0_1) (hr0_3 : Kd.C (Kd.slice 2 (Kd.int .i64)) w A0_3 l0_3.length l0_3) (hc0_3 : l0_3.length ≤ c0_3) (hr1 : Kd.C (Kd.int .i64) w A1 l1.length l1) (hc1 : l1.length ≤ c1) (h : spec_TypeOfWalk.f k a0_0 l0_1 a0_2 l0_3 l1 = some (r1, r2)) :
  Calls Try.prog 34 #[.agg #[.int .i64 a0_0, .slice A0_1 l0_1.length c0_1, .int .i64 a0_2, .slice A0_3 l0_3.length c0_3], .slice A1 l1.length c1] w fun e w' => ∃ v0_ : Value, e = .returned (.tuple #[v0_, .int .i64 r2]) ∧ Kd.R (Kd.int .i64) 2 w' w.heap.size (fun _ => True) v0_ r1 ∧ Below w.heap.size w w' := by
 have hu52 := Try.underlying52
 have HR0_1 := Aside0.mk hr0_1
 have HC0_1 := Aside0.mk hc0_1
 clear hr0_1 hc0_1
 have HR0_3 := Aside0.mk hr0_3
 have HC0_3 := Aside0.mk hc0_3
 clear hr0_3 hc0_3
 have HR1 := Aside0.mk hr1
 have HC1 := Aside0.mk hc1
 clear hr1 hc1
 have HB := Aside0.mk (Below.refl w.heap.size w)
 have H : ((spec_l04Walk.f k a0_0 l0_1 a0_2 l0_3 l1).bind fun bt169 => (if bt169.2 = 0 then (if 4 ≤ 281474976710656 then (spec_TypeOfWalk.l0 k bt169.1 (List.replicate 4 false) (([] : List Int)) 0 a0_0 l0_1 a0_2 l0_3) else (none)) else (some (([] : List Int), bt169.2)))) = some (r1, r2) := h
 clear h
 obtain ⟨⟨t169, t172⟩, A3, H⟩ := bnd_ H
 dsimp only at H
 by_cases c4 : t172 = 0
 ·rw [if_pos c4] at H
  have c4b0 : (t172 == 0) = true := beq_iff_eq.mpr c4
  have c4b1 : (t172 != 0) = false := bne_eq_false_iff_eq.mpr c4
  clear c4
  obtain ⟨c5, H⟩ := itn_ H
  have c5b0 := eq_true c5
  have c5b1 := decide_eq_true c5
  clear c5
  obtain ⟨y173, Ny173, H⟩ : ∃ y173 : List Bool, Aside0 (y173 = (List.replicate 4 false)) ∧ (spec_TypeOfWalk.l0 k t169 y173 (([] : List Int)) 0 a0_0 l0_1 a0_2 l0_3) = some (r1, r2) := ⟨_, ⟨rfl⟩, H⟩
  obtain ⟨y176, Ny176, H⟩ : ∃ y176 : List Int, Aside0 (y176 = (([] : List Int))) ∧ (spec_TypeOfWalk.l0 k t169 y173 y176 0 a0_0 l0_1 a0_2 l0_3) = some (r1, r2) := ⟨_, ⟨rfl⟩, H⟩
  have H' := Aside0.mk H
  clear H
  go_enter Try.func34, Try.ntmps34
  go_wp2_with (first | ((with_reducible refine gate_dst (N := 2) rfl ?_); refine box_event ?hg (N := 2) ?hd (cs := #[.int .i64 a0_0, .slice A0_1 l0_1.length c0_1, .int .i64 a0_2, .slice A0_3 l0_3.length c0_3]) (t := 52) ?hr ?_; (case hd => rfl); (case hg => rfl); (case hr => first | (go_simp; done) | (go_simp; rfl)); intro gb168 hg w6 hbox hb; have BK168 := Aside0.mk (hbox); have GW168 := Aside0.mk ((by rw [hg]; exact (below_size hb_) : w.heap.size ≤ gb168)); have GE168 := Aside0.mk ((by rw [hg]; exact (below_size hb_) : w.heap.size ≤ gb168)); replace HB := Aside0.mk (below_step hb_ hb); clear hb hbox hg; have hcz7_0 : w6.cell? ⟨gb168, 0, none⟩ = some (.int .i64 a0_0) := (blk_cell BK168.out 0).trans rfl; have hcz7_1 : w6.cell? ⟨gb168, 1, none⟩ = some (.slice A0_1 l0_1.length c0_1) := (blk_cell BK168.out 1).trans rfl; have hcz7_2 : w6.cell? ⟨gb168, 2, none⟩ = some (.int .i64 a0_2) := (blk_cell BK168.out 2).trans rfl; have hcz7_3 : w6.cell? ⟨gb168, 3, none⟩ = some (.slice A0_3 l0_3.length c0_3) := (blk_cell BK168.out 3).trans rfl; have hfz7_0 := blk_frozen BK168.out 0; have hfz7_1 := blk_frozen BK168.out 1; have hfz7_2 := blk_frozen BK168.out 2; have hfz7_3 := blk_frozen BK168.out 3) | ((with_reducible refine gate_callee (f := 82) rfl ?_); refine goesL_ (some 18) rfl rfl Try.func82 (by kernel_rfl) rfl #[.agg #[.int .i64 a0_0, .slice A0_1 l0_1.length c0_1, .int .i64 a0_2, .slice A0_3 l0_3.length c0_3], .slice A1 l1.length c1] rfl arg_ ?_; (with_reducible refine (spec_l04Walk.calls k a0_0 _ _ l0_1 a0_2 _ _ l0_3 _ _ l1 t169 t172 _ ?side1 ?side2 ?side3 ?side4 ?side5 ?side6 A3.out).mono ?_); (case side1 => exact Kd.C_below (Kd.C_below HR0_1.out HB.out) bgo_); (case side2 => exact HC0_1.out); (case side3 => exact Kd.C_below (Kd.C_below HR0_3.out HB.out) bgo_); (case side4 => exact HC0_3.out); (case side5 => exact Kd.C_below (Kd.C_below HR1.out HB.out) bgo_); (case side6 => exact HC1.out); rintro e w8 ⟨v170, rfl, ho0, hb⟩; refine ⟨_, rfl, ?_⟩; have HO171 := Aside0.mk (Kd.R_lower ho0 (below_size hbs_)); replace BK168 := Aside0.mk (blk_below (g := gb168) (o := .cells #[.int .i64 a0_0, .slice A0_1 l0_1.length c0_1, .int .i64 a0_2, .slice A0_3 l0_3.length c0_3] 52 (0, 0)) (blk_below BK168.out bgo_) hb); replace HB := Aside0.mk (below_step hbs_ hb); (try clear hb); (try clear hb2); (try clear hk); (try clear hi); (try clear ho0)) | ((with_reducible refine gate_dst (N := 25) rfl ?_); refine Kd.R_lit (Kd.int .i64) _ 2 ?hg (N := 25) ?hd (xs := ([] : List Int)) (inner := []) (ok := fun _ => True) (okp := fun _ => True) ?hr ?hp (fun _ hk => hk) trivial (Below.refl _ _) (Nat.le_refl _) (by simp) ?_; (case hd => rfl); (case hg => rfl); (case hr => first | (go_simp; done) | (go_simp; rfl)); (case hp => exact (Reps.none _ _)); intro v177 w11 ho12 hb hg_ hnew_; clear hg_ hnew_; (first | rw [← Ny176.out] at ho12 | (simp only [Int.reduceToNat] at ho12; rw [← Ny176.out] at ho12)); have HO178 := Aside0.mk (Kd.R_lower (Kd.R_new' ho12 (Kd.R_lt (Kd.R_below HO171.out bgo_))) (below_size hbs_)); replace HO171 := Aside0.mk (Kd.R_elder' (Kd.R_below HO171.out bgo_) (Kd.R_base ho12) hb); replace BK168 := Aside0.mk (blk_below (g := gb168) (o := .cells #[.int .i64 a0_0, .slice A0_1 l0_1.length c0_1, .int .i64 a0_2, .slice A0_3 l0_3.length c0_3] 52 (0, 0)) (blk_below BK168.out bgo_) hb); replace HB := Aside0.mk (below_step hbs_ hb); clear hb ho12) | ((with_reducible refine gate_dst (N := 8) rfl ?_); refine box_event ?hg (N := 8) ?hd (cs := #[.bool false, .bool false, .bool false, .bool false]) (t := 85) ?hr ?_; (case hd => rfl); (case hg => rfl); (case hr => first | (go_simp; done) | (go_simp; rfl)); intro gb8 hg w12 hbox hb; have n0_ := Aside0.mk (Kd.R_below (Kd.R_below HO171.out bgo_) hb); have n2_ := Aside0.mk (Kd.R_below (Kd.R_below HO178.out bgo_) hb); have n3_ := Aside0.mk (blk_below (g := gb168) (o := .cells #[.int .i64 a0_0, .slice A0_1 l0_1.length c0_1, .int .i64 a0_2, .slice A0_3 l0_3.length c0_3] 52 (0, 0)) (blk_below BK168.out bgo_) hb); have n5_ := Aside0.mk (spec_TypeOfWalk.row4 hbox (show w.heap.size ≤ gb8 from by rw [hg]; exact (below_size hbs_))); have n6_ := Aside0.mk hbox; have n4_ := Aside0.mk (below_step hbs_ hb); clear HO171; clear HO178; clear BK168; clear HB; have HO171 := n0_; have HO178 := n2_; have BK168 := n3_; have HB := n4_; have HO175 := n5_; have BK8 := n6_; rw [← Ny173.out] at HO175; clear n0_ n2_ n3_ n4_ n5_ n6_; clear hb hbox hg; have hc0_ : w12.cell? ⟨gb8, 0, none⟩ = some (.bool false) := (blk_cell BK8.out 0).trans rfl; have hc1_ : w12.cell? ⟨gb8, 1, none⟩ = some (.bool false) := (blk_cell BK8.out 1).trans rfl; have hc2_ : w12.cell? ⟨gb8, 2, none⟩ = some (.bool false) := (blk_cell BK8.out 2).trans rfl; have hc3_ : w12.cell? ⟨gb8, 3, none⟩ = some (.bool false) := (blk_cell BK8.out 3).trans rfl; have hf0_ := blk_frozen BK8.out 0; have hf1_ := blk_frozen BK8.out 1; have hf2_ := blk_frozen BK8.out 2; have hf3_ := blk_frozen BK8.out 3))
  clear hc0_ hc1_ hc2_ hc3_ hf0_ hf1_ hf2_ hf3_
  rw [spec_TypeOfWalk.same4 BK8.out]
  go_loopg [9, 10] k (fun kq v9 v10 w' => ∃ (x8_1 : List Bool) (x9_1 : List Int) (x10_1 : Int), v10 = .int .i64 x10_1 ∧ Aside0 (spec_TypeOfWalk.l0 kq t169 x8_1 x9_1 x10_1 a0_0 l0_1 a0_2 l0_3 = some (r1, r2)) ∧ Aside0 (kq ≤ k) ∧ Aside0 (Kd.R (Kd.int .i64) 2 w' w.heap.size (fun k_ => some k_ ≠ (v9 : Value).ownBlock) v170 t169) ∧ Aside0 (Kd.R Kd.bool 85 w' w.heap.size (fun _ => True) (.slice (some ⟨gb8, 0, none⟩) 4 4) x8_1) ∧ Aside0 (Kd.R (Kd.int .i64) 2 w' w.heap.size (fun k_ => some k_ ≠ (v170 : Value).ownBlock) v9 x9_1) ∧ Aside0 (w'.heap[gb168]? = some (.cells #[.int .i64 a0_0, (.slice A0_1 l0_1.length c0_1), .int .i64 a0_2, (.slice A0_3 l0_3.length c0_3)] 52 (0, 0))) ∧ Aside0 (Below w.heap.size w w'))
  case atStart => exact ⟨(y173), (y176), (0), es_, H', ⟨Nat.le_refl _⟩, ⟨by (with_reducible repeat (first | apply Kd.R_alloc | apply Kd.R_drewN | apply Kd.R_drew)); exact Kd.R_mono HO171.out (fun _ hk => hk.2)⟩, ⟨Kd.R_below HO175.out bgo_⟩, ⟨by (with_reducible repeat (first | apply Kd.R_alloc | apply Kd.R_drewN | apply Kd.R_drew)); exact Kd.R_mono HO178.out (fun _ hk => hk.2)⟩, ⟨blk_below BK168.out bgo_⟩, ⟨hbs_⟩⟩
  case round =>
   clear H'
   obtain ⟨x8_1, x9_1, x10_1, rfl, HA, HK1, HO_6, HO_8, HO_9, BK168, HB⟩ := hrel
   cases gk with
   | zero => exact absurd HA.out (by simp [spec_TypeOfWalk.l0])
   | succ k1 =>
    have H := HA.out
    clear HA
    simp only [spec_TypeOfWalk.l0] at H
    by_cases c13 : x10_1 < a0_2
    ·rw [if_pos c13] at H
     have c13b0 := decide_eq_true c13
     clear c13
     have H' := Aside0.mk H
     clear H
     have hcz14_0 : wr.cell? ⟨gb168, 0, none⟩ = some (.int .i64 a0_0) := (blk_cell BK168.out 0).trans rfl
     have hcz14_1 : wr.cell? ⟨gb168, 1, none⟩ = some (.slice A0_1 l0_1.length c0_1) := (blk_cell BK168.out 1).trans rfl
     have hcz14_2 : wr.cell? ⟨gb168, 2, none⟩ = some (.int .i64 a0_2) := (blk_cell BK168.out 2).trans rfl
     have hcz14_3 : wr.cell? ⟨gb168, 3, none⟩ = some (.slice A0_3 l0_3.length c0_3) := (blk_cell BK168.out 3).trans rfl
     have hfz14_0 := blk_frozen BK168.out 0
     have hfz14_1 := blk_frozen BK168.out 1
     have hfz14_2 := blk_frozen BK168.out 2
     have hfz14_3 := blk_frozen BK168.out 3
     go_wp2
     go_loopg [11, 12] k1 (fun kq v11 v12 w' => ∃ (x8_2 : List Bool) (x11_2 : Int) (x12_2 : Int), v11 = .int .i64 x11_2 ∧ v12 = .int .i64 x12_2 ∧ Aside0 (spec_TypeOfWalk.l1 kq t169 x8_2 x9_1 x10_1 x11_2 x12_2 a0_0 l0_1 a0_2 l0_3 = some (r1, r2)) ∧ Aside0 (kq ≤ k1) ∧ Aside0 (Kd.R (Kd.int .i64) 2 w' w.heap.size (fun k_ => some k_ ≠ (u9 : Value).ownBlock) v170 t169) ∧ Aside0 (Kd.R Kd.bool 85 w' w.heap.size (fun _ => True) (.slice (some ⟨gb8, 0, none⟩) 4 4) x8_2) ∧ Aside0 (Kd.R (Kd.int .i64) 2 w' w.heap.size (fun k_ => some k_ ≠ (v170 : Value).ownBlock) u9 x9_1) ∧ Aside0 (w'.heap[gb168]? = some (.cells #[.int .i64 a0_0, (.slice A0_1 l0_1.length c0_1), .int .i64 a0_2, (.slice A0_3 l0_3.length c0_3)] 52 (0, 0))) ∧ Aside0 (Below w.heap.size w w'))
     case atStart => exact ⟨(x8_1), (0), (x10_1), es_, es_, H', ⟨Nat.le_refl _⟩, ⟨Kd.R_below HO_6.out bgo_⟩, ⟨Kd.R_below HO_8.out bgo_⟩, ⟨Kd.R_below HO_9.out bgo_⟩, ⟨blk_below BK168.out bgo_⟩, ⟨hbs_⟩⟩
     case round =>
      clear H'
      obtain ⟨x8_2, x11_2, x12_2, rfl, rfl, HA, HK2, HO_6, HO_8, HO_9, BK168, HB⟩ := hrel
      cases gk with
      | zero => exact absurd HA.out (by simp [spec_TypeOfWalk.l1])
      | succ k2 =>
       have H := HA.out
       clear HA
       simp only [spec_TypeOfWalk.l1] at H
       obtain ⟨c15, H⟩ := itn_ H
       have c15b0 := decide_eq_true c15
       clear c15
       obtain ⟨c16, H⟩ := itn_ H
       have c16b0 := decide_eq_true c16
       clear c16
       obtain ⟨bq17, hbq17⟩ : ∃ b_ : Bool, b_ = (rdOf false x8_2 x12_2) := ⟨_, rfl⟩
       replace H : (if bq17 = true then (spec_TypeOfWalk.l2 k2 t169 x8_2 x9_1 x10_1 x11_2 (x9_1.length : Int) a0_0 l0_1 a0_2 l0_3) else (if x12_2 < (t169.length : Int) then (spec_TypeOfWalk.l1 k2 t169 (x8_2.set (x12_2 : Int).toNat true) x9_1 x10_1 (wrap64 (x11_2 + 1)) (rd t169 x12_2) a0_0 l0_1 a0_2 l0_3) else (none))) = some (r1, r2) := by rw [← hbq17] at H; exact H
       have Nbq17 := Aside0.mk hbq17
       clear hbq17
       by_cases c18 : bq17 = true
       ·subst c18
        have H1 : (spec_TypeOfWalk.l2 k2 t169 x8_2 x9_1 x10_1 x11_2 (x9_1.length : Int) a0_0 l0_1 a0_2 l0_3) = some (r1, r2) := by rw [if_pos rfl] at H; exact H
        clear H
        have H := H1
        clear H1
        have H' := Aside0.mk H
        clear H
        have HL8 := Aside0.mk (spec_TypeOfWalk.len4 HO_8.out)
        have p179 : 0 ≤ (x12_2 : Int) := od_
        have q179 : x12_2 < (x8_2.length : Int) := od_
        obtain ⟨ad179, e179, hx179_0⟩ := Kd.at_bool (Kd.R_reads' HO_8.out).2.2 x12_2 p179 q179
        (try rw [← Nbq17.out] at hx179_0)
        cases e179
        replace p179 := eq_true p179
        (first | simp only [add_plain] at hx179_0 | skip)
        replace q179 := eq_true (show x12_2 < 4 from by have := HL8.out; omega)
        obtain ⟨Ao20, co20, eo20⟩ := Kd.R_slice HO_9.out
        subst eo20
        go_wp2
        go_loopg [13] k2 (fun kq v13 w' => ∃ (x13_3 : Int), v13 = .int .i64 x13_3 ∧ Aside0 (spec_TypeOfWalk.l2 kq t169 x8_2 x9_1 x10_1 x11_2 x13_3 a0_0 l0_1 a0_2 l0_3 = some (r1, r2)) ∧ Aside0 (kq ≤ k2) ∧ Aside0 (Kd.R (Kd.int .i64) 2 w' w.heap.size (fun k_ => some k_ ≠ ((.slice Ao20 x9_1.length co20) : Value).ownBlock) v170 t169) ∧ Aside0 (Kd.R Kd.bool 85 w' w.heap.size (fun _ => True) (.slice (some ⟨gb8, 0, none⟩) 4 4) x8_2) ∧ Aside0 (Kd.R (Kd.int .i64) 2 w' w.heap.size (fun k_ => some k_ ≠ (v170 : Value).ownBlock) (.slice Ao20 x9_1.length co20) x9_1) ∧ Aside0 (w'.heap[gb168]? = some (.cells #[.int .i64 a0_0, (.slice A0_1 l0_1.length c0_1), .int .i64 a0_2, (.slice A0_3 l0_3.length c0_3)] 52 (0, 0))) ∧ Aside0 (Below w.heap.size w w'))
        case atStart => exact ⟨((x9_1.length : Int)), es_, H', ⟨Nat.le_refl _⟩, ⟨Kd.R_below HO_6.out bgo_⟩, ⟨Kd.R_below HO_8.out bgo_⟩, ⟨Kd.R_below HO_9.out bgo_⟩, ⟨blk_below BK168.out bgo_⟩, ⟨hbs_⟩⟩
        case round =>
         clear H'
         obtain ⟨x13_3, rfl, HA, HK3, HO_6, HO_8, HO_9, BK168, HB⟩ := hrel
         cases gk with
         | zero => exact absurd HA.out (by simp [spec_TypeOfWalk.l2])
         | succ k3 =>
          have H := HA.out
          clear HA
          simp only [spec_TypeOfWalk.l2] at H
          by_cases c21 : x13_3 > 0
          ·rw [if_pos c21] at H
           have c21b0 := decide_eq_true c21
           clear c21
           obtain ⟨ji22, hji22⟩ : ∃ j_ : Int, (wrap64 (x13_3 - 1)) = j_ := ⟨_, rfl⟩
           (try rw [hji22])
           replace H : (if 0 ≤ (ji22) then (if (ji22) < (x9_1.length : Int) then (if (rd x9_1 (ji22)) < x11_2 then (spec_TypeOfWalk.l2 k3 t169 x8_2 x9_1 x10_1 x11_2 ji22 a0_0 l0_1 a0_2 l0_3) else (if x11_2 > 0 then ((some (([x11_2] : List Int) : List Int)).bind fun y183 => (if 0 ≤ x13_3 then (if x13_3 ≤ (x9_1.length : Int) then ((some (x9_1.drop (x13_3 : Int).toNat : List Int)).bind fun y186 => (if y183.length + y186.length < 17592186044416 then ((some (y183 ++ y186 : List Int)).bind fun y190 => ((spec_l01Own.f (x9_1.take (x13_3 : Int).toNat)).bind fun t197 => (if t197.length + y190.length < 17592186044416 then (spec_TypeOfWalk.l0 k3 t169 x8_2 (t197 ++ y190) (wrap64 (x10_1 + 1)) a0_0 l0_1 a0_2 l0_3) else (none)))) else (none))) else (none)) else (none))) else (spec_TypeOfWalk.l0 k3 t169 x8_2 x9_1 (wrap64 (x10_1 + 1)) a0_0 l0_1 a0_2 l0_3))) else (none)) else (none)) = some (r1, r2) := by first | (rw [hji22] at H; exact H) | (simp only [hji22] at H ⊢; exact H)
           have hji22w : (IntKind.i64.wrap (x13_3 - 1)) = ji22 := (i64_w _).trans hji22
           obtain ⟨c23, H⟩ := itn_ H
           have c23b0 := decide_eq_true c23
           clear c23
           obtain ⟨c24, H⟩ := itn_ H
           have c24b0 := decide_eq_true c24
           clear c24
           by_cases c25 : (rd x9_1 (ji22)) < x11_2
           ·rw [if_pos c25] at H
            have c25b0 := decide_eq_true c25
            clear c25
            have H' := Aside0.mk H
            clear H
            have p182 : 0 ≤ ((ji22) : Int) := od_
            have q182 : (ji22) < (x9_1.length : Int) := od_
            obtain ⟨ad182, e182, hx182_0⟩ := Kd.at_int (Kd.R_reads' HO_9.out).2.2 (ji22) p182 q182
            cases e182
            replace p182 := eq_true p182
            replace q182 := eq_true q182
            go_wp2
            first | (first | go_roundg k3 | (refine Handed.intro k3 ?measure ?_; rotate_left; go_step; (try simp only [add_plain]); (repeat apply Exists.intro); refine ⟨?rel, rfl⟩)) | ((try subst hji22); (first | go_roundg k3 | (refine Handed.intro k3 ?measure ?_; rotate_left; go_step; (try simp only [add_plain]); (repeat apply Exists.intro); refine ⟨?rel, rfl⟩)))
            case measure => have := HK1.out; have := HK2.out; have := HK3.out; omega
            case rel => exact ⟨(ji22), (by first | rfl | (simp; done) | (simp only [← hji22] <;> (first | rfl | simp)) | (simp [*]; done)), H', ⟨by have := HK1.out; have := HK2.out; have := HK3.out; omega⟩, ⟨Kd.R_below HO_6.out bgo_⟩, ⟨Kd.R_below HO_8.out bgo_⟩, ⟨Kd.R_below HO_9.out bgo_⟩, ⟨blk_below BK168.out bgo_⟩, ⟨hbs_⟩⟩
           ·rw [if_neg c25] at H
            have c25b0 := decide_eq_false c25
            clear c25
            by_cases c26 : x11_2 > 0
            ·rw [if_pos c26] at H
             have c26b0 := decide_eq_true c26
             clear c26
             obtain ⟨y183, Ny183, H⟩ : ∃ y183 : List Int, Aside0 (y183 = (([x11_2] : List Int))) ∧ (if 0 ≤ x13_3 then (if x13_3 ≤ (x9_1.length : Int) then ((some (x9_1.drop (x13_3 : Int).toNat : List Int)).bind fun y186 => (if y183.length + y186.length < 17592186044416 then ((some (y183 ++ y186 : List Int)).bind fun y190 => ((spec_l01Own.f (x9_1.take (x13_3 : Int).toNat)).bind fun t197 => (if t197.length + y190.length < 17592186044416 then (spec_TypeOfWalk.l0 k3 t169 x8_2 (t197 ++ y190) (wrap64 (x10_1 + 1)) a0_0 l0_1 a0_2 l0_3) else (none)))) else (none))) else (none)) else (none)) = some (r1, r2) := ⟨_, ⟨rfl⟩, H⟩
             obtain ⟨c27, H⟩ := itn_ H
             have c27b0 := eq_true c27
             have c27b1 := decide_eq_true c27
             clear c27
             obtain ⟨c28, H⟩ := itn_ H
             have c28b0 := eq_true c28
             have c28b1 := decide_eq_true c28
             clear c28
             obtain ⟨y186, Ny186, H⟩ : ∃ y186 : List Int, Aside0 (y186 = (x9_1.drop (x13_3 : Int).toNat)) ∧ (if y183.length + y186.length < 17592186044416 then ((some (y183 ++ y186 : List Int)).bind fun y190 => ((spec_l01Own.f (x9_1.take (x13_3 : Int).toNat)).bind fun t197 => (if t197.length + y190.length < 17592186044416 then (spec_TypeOfWalk.l0 k3 t169 x8_2 (t197 ++ y190) (wrap64 (x10_1 + 1)) a0_0 l0_1 a0_2 l0_3) else (none)))) else (none)) = some (r1, r2) := ⟨_, ⟨rfl⟩, H⟩
             obtain ⟨c29, H⟩ := itn_ H
             have LMc29 := Aside0.mk c29
             clear c29
             obtain ⟨y190, Ny190, H⟩ : ∃ y190 : List Int, Aside0 (y190 = (y183 ++ y186)) ∧ ((spec_l01Own.f (x9_1.take (x13_3 : Int).toNat)).bind fun t197 => (if t197.length + y190.length < 17592186044416 then (spec_TypeOfWalk.l0 k3 t169 x8_2 (t197 ++ y190) (wrap64 (x10_1 + 1)) a0_0 l0_1 a0_2 l0_3) else (none))) = some (r1, r2) := ⟨_, ⟨rfl⟩, H⟩
             have c30b0 := eq_true (od_ : 0 ≤ x13_3)
             have c31b0 := eq_true (od_ : x13_3 ≤ (x9_1.length : Int))
             obtain ⟨y193, Ny193, H⟩ : ∃ y193 : List Int, Aside0 (y193 = (x9_1.take (x13_3 : Int).toNat)) ∧ ((spec_l01Own.f y193).bind fun t197 => (if t197.length + y190.length < 17592186044416 then (spec_TypeOfWalk.l0 k3 t169 x8_2 (t197 ++ y190) (wrap64 (x10_1 + 1)) a0_0 l0_1 a0_2 l0_3) else (none))) = some (r1, r2) := ⟨_, ⟨rfl⟩, H⟩
             obtain ⟨t197, A32, H⟩ := bnd_ H
             obtain ⟨c33, H⟩ := itn_ H
             have LMc33 := Aside0.mk c33
             clear c33
             obtain ⟨y200, Ny200, H⟩ : ∃ y200 : List Int, Aside0 (y200 = (t197 ++ y190)) ∧ (spec_TypeOfWalk.l0 k3 t169 x8_2 y200 (wrap64 (x10_1 + 1)) a0_0 l0_1 a0_2 l0_3) = some (r1, r2) := ⟨_, ⟨rfl⟩, H⟩
             have H' := Aside0.mk H
             clear H
             have p182 : 0 ≤ ((ji22) : Int) := od_
             have q182 : (ji22) < (x9_1.length : Int) := od_
             obtain ⟨ad182, e182, hx182_0⟩ := Kd.at_int (Kd.R_reads' HO_9.out).2.2 (ji22) p182 q182
             cases e182
             replace p182 := eq_true p182
             replace q182 := eq_true q182
             go_wp2_with (first | ((with_reducible refine gate_dst (N := 63) rfl ?_); refine Kd.R_lit (Kd.int .i64) _ 2 ?hg (N := 63) ?hd (xs := ([x11_2] : List Int)) (inner := [.int .i64 x11_2]) (ok := fun _ => True) (okp := fun _ => True) ?hr ?hp (fun _ hk => hk) trivial (Below.refl _ _) (Nat.le_refl _) (by simp) ?_; (case hd => rfl); (case hg => rfl); (case hr => first | (go_simp; done) | (go_simp; rfl)); (case hp => exact (Reps.one (show Kd.M (Kd.int .i64) _ _ _ x11_2 [.int .i64 x11_2] from rfl) (Reps.none _ _))); intro v184 w34 ho35 hb hg_ hnew_; clear hg_ hnew_; (first | rw [← Ny183.out] at ho35 | (simp only [Int.reduceToNat] at ho35; rw [← Ny183.out] at ho35)); replace HO_8 := Aside0.mk (Kd.R_below (Kd.R_below HO_8.out bgo_) hb); have HO185 := Aside0.mk (Kd.R_lower (Kd.R_new' (Kd.R_new' ho35 (Kd.R_lt (Kd.R_below HO_6.out bgo_))) (Kd.R_lt (Kd.R_below HO_9.out bgo_))) (below_size hbs_)); replace HO_6 := Aside0.mk (Kd.R_elder' (Kd.R_below HO_6.out bgo_) (Kd.R_base ho35) hb); replace HO_9 := Aside0.mk (Kd.R_elder' (Kd.R_below HO_9.out bgo_) (Kd.R_base ho35) hb); replace BK168 := Aside0.mk (blk_below (g := gb168) (o := .cells #[.int .i64 a0_0, .slice A0_1 l0_1.length c0_1, .int .i64 a0_2, .slice A0_3 l0_3.length c0_3] 52 (0, 0)) (blk_below BK168.out bgo_) hb); replace HB := Aside0.mk (below_step hbs_ hb); clear hb ho35; have q36 : (x13_3 : Int) ≤ ((x9_1.length : Int) : Int) := od_; obtain ⟨i036, hi036, _, hsz36, _⟩ := info_parts info2; have hroom36 : x9_1.length ≤ co20 := (Kd.R_reads' HO_9.out).2.1; have hC36 : Kd.C (Kd.int .i64) _ (some ad182) x9_1.length x9_1 := (Kd.R_reads' HO_9.out).2.2; have q036 : (0 : Int) ≤ (x13_3 : Int) := od_; have hcut36 := cut_from (P := Try.prog) 26 2 .i64 Try.underlying26 hi036 1 hsz36 (some ad182) x9_1.length co20 x13_3 q036 q36; have hr36 := Kd.C_drop (m := (x13_3 : Int).toNat) (c := co20) hC36 (by omega) hroom36; obtain ⟨A36, hA36⟩ : ∃ A1, A1 = (if co20 = (x13_3 : Int).toNat then (some ad182) else ((some ad182) : Option Addr).map (·.add ((x13_3 : Int).toNat * 1))) := ⟨_, rfl⟩; obtain ⟨c36, hc36⟩ : ∃ c1, c1 = co20 - (x13_3 : Int).toNat := ⟨_, rfl⟩; have hy36 : y186.length = x9_1.length - (x13_3 : Int).toNat := (by rw [Ny186.out, List.length_drop] <;> omega); rw [show (x9_1).drop (x13_3 : Int).toNat = y186 from Ny186.out.symm] at hr36; replace hr36 : Kd.C (Kd.int .i64) _ A36 y186.length y186 := (by rw [hA36]; exact hr36); rw [← hy36, ← hA36, ← hc36] at hcut36; have HR189 := Aside0.mk hr36; have HC189 := Aside0.mk (show y186.length ≤ c36 from by rw [hy36, hc36]; exact Nat.sub_le_sub_right hroom36 _); clear hr36 hC36 hroom36 hi036 hsz36 hc36; have KY36 := Aside0.mk hy36; have KA36 := Aside0.mk hA36; clear hy36 hA36; have KL36 := Aside0.mk (show (x13_3 : Int).toNat ≤ x9_1.length from by omega); replace q36 := eq_true q36) | ((with_reducible refine gate_builtin (b := .append) (xs := #[.tmp 63, .tmp 66]) rfl ?_); at_builtin; refine Kd.R_append_rows (Kd.int .i64) (w0 := w) w.heap.size rfl (.tmp 63) (.tmp 66) 26 2 (.int .i64 0) 8 rfl Try.underlying26 info2 rfl (by decide) (by omega) v184 y183 y186 _ _ _ (fun k_ => some k_ ≠ (v170 : Value).ownBlock ∧ some k_ ≠ (.slice (some ad182) x9_1.length co20 : Value).ownBlock) (fun _ => False) rfl rfl ?aO ?aR (fun _ _ h => h) (fun _ h => h.elim) ?aF ?aB ?aS ?aL ?_; (case aR => repeat (first | exact (by repeat (first | (with_reducible exact HR189.out) | (with_reducible refine Kd.C_alloc ?_ _) | (with_reducible refine Kd.C_drewN ?_ _) | (with_reducible refine Kd.C_drew ?_) | exact HR189.out)) | (with_reducible refine Kd.C_alloc ?_ _) | (with_reducible refine Kd.C_drewN ?_ _) | (with_reducible refine Kd.C_drew ?_))); (case aB => exact hbs_); (case aF => exact (fun k_ hk => ⟨Kd.fresh' (Kd.R_lt (Kd.R_below HO_6.out bgo_)) k_ hk, Kd.fresh' (Kd.R_lt (Kd.R_below HO_9.out bgo_)) k_ hk⟩)); (case aO => exact (by (with_reducible repeat (first | apply Kd.R_alloc | apply Kd.R_drewN | apply Kd.R_drew)); exact Kd.R_mono HO185.out (fun _ hk => ⟨hk.1.2, hk.2⟩))); (case aS => exact (below_size hbs_)); (case aL => have := LMc29.out; omega); intro v191 w37 ho hb hg hat; rw [← Ny190.out] at ho; replace HO_6 := Aside0.mk (Kd.R_after (ok := (fun k_ => some k_ ≠ (.slice (some ad182) x9_1.length co20 : Value).ownBlock)) (Kd.R_below HO_6.out bgo_) hg hat); replace HO_8 := Aside0.mk (Kd.R_over' (Kd.R_below HO_8.out bgo_) (Kd.R_typed (Kd.R_below HO185.out bgo_)) (by decide) hg); replace BK168 := Aside0.mk (blk_grown (g := gb168) (o := .cells #[.int .i64 a0_0, .slice A0_1 l0_1.length c0_1, .int .i64 a0_2, .slice A0_3 l0_3.length c0_3] 52 (0, 0)) (blk_below BK168.out bgo_) hg (Kd.R_ne HO185.out BK168.out (by decide))); replace HB := Aside0.mk (hb); replace HR189 := Aside0.mk ((show Kd.C (Kd.int .i64) w37 A36 y186.length y186 from by rw [Ny186.out, KA36.out]; exact Kd.C_drop (m := (x13_3 : Int).toNat) (c := co20) ((Kd.R_reads' (Kd.R_after (ok := (fun k_ => some k_ ≠ (v170 : Value).ownBlock)) (Kd.R_below HO_9.out bgo_) hg hat)).2.2) KL36.out ((Kd.R_reads' (Kd.R_after (ok := (fun k_ => some k_ ≠ (v170 : Value).ownBlock)) (Kd.R_below HO_9.out bgo_) hg hat)).2.1))); replace HO_9 := Aside0.mk (Kd.R_after (ok := (fun k_ => some k_ ≠ (v170 : Value).ownBlock)) (Kd.R_below HO_9.out bgo_) hg hat); have HO192 := Aside0.mk (ho); clear HO185; clear ho hb hg hat; have q38 : (x13_3 : Int) ≤ ((x9_1.length : Int) : Int) := od_; obtain ⟨i038, hi038, _, hsz38, _⟩ := info_parts info2; have hroom38 : x9_1.length ≤ co20 := (Kd.R_reads' HO_9.out).2.1; have hC38 : Kd.C (Kd.int .i64) _ (some ad182) x9_1.length x9_1 := (Kd.R_reads' HO_9.out).2.2; have hcut38 := cut_to (P := Try.prog) 26 2 .i64 Try.underlying26 hi038 (some ad182) x9_1.length co20 x13_3 (od_) q38 hroom38; have hr38 := Kd.C_take (m := (x13_3 : Int).toNat) hC38 (by omega); have hy38 : y193.length = (x13_3 : Int).toNat := (by rw [Ny193.out, List.length_take]; omega); rw [← Ny193.out] at hr38; rw [← hy38] at hcut38; have HR196 := Aside0.mk hr38; have HC196 := Aside0.mk (show y193.length ≤ co20 from by omega); clear hr38 hC38 hroom38 hi038 hsz38; have KY38 := Aside0.mk hy38; clear hy38; have KL38 := Aside0.mk (show (x13_3 : Int).toNat ≤ x9_1.length from by omega); replace q38 := eq_true q38) | ((with_reducible refine gate_callee (f := 42) rfl ?_); refine goesL_ (some 71) rfl rfl Try.func42 (by kernel_rfl) rfl #[.slice (some ad182) y193.length co20] rfl arg_ ?_; (with_reducible refine (spec_l01Own.calls _ _ y193 t197 _ ?side1 ?side2 A32.out).mono ?_); (case side1 => repeat (first | exact (by repeat (first | (with_reducible exact HR196.out) | (with_reducible refine Kd.C_alloc ?_ _) | (with_reducible refine Kd.C_drewN ?_ _) | (with_reducible refine Kd.C_drew ?_) | exact HR196.out)) | (with_reducible refine Kd.C_alloc ?_ _) | (with_reducible refine Kd.C_drewN ?_ _) | (with_reducible refine Kd.C_drew ?_))); (case side2 => exact HC196.out); rintro e w39 ⟨v198, rfl, ho0, hb⟩; refine ⟨_, rfl, ?_⟩; replace HO_8 := Aside0.mk (Kd.R_below (Kd.R_below HO_8.out bgo_) hb); have HO199 := Aside0.mk (Kd.R_lower (Kd.R_new' (Kd.R_new' (Kd.R_new' ho0 (Kd.R_lt (Kd.R_below HO_6.out bgo_))) (Kd.R_lt (Kd.R_below HO_9.out bgo_))) (Kd.R_lt (Kd.R_below HO192.out bgo_))) (below_size hbs_)); replace HO_6 := Aside0.mk (Kd.R_elder' (Kd.R_below HO_6.out bgo_) (Kd.R_base ho0) hb); replace HO_9 := Aside0.mk (Kd.R_elder' (Kd.R_below HO_9.out bgo_) (Kd.R_base ho0) hb); replace HO192 := Aside0.mk (Kd.R_elder' (Kd.R_below HO192.out bgo_) (Kd.R_base ho0) hb); replace BK168 := Aside0.mk (blk_below (g := gb168) (o := .cells #[.int .i64 a0_0, .slice A0_1 l0_1.length c0_1, .int .i64 a0_2, .slice A0_3 l0_3.length c0_3] 52 (0, 0)) (blk_below BK168.out bgo_) hb); replace HR189 := Aside0.mk (Kd.C_below (by repeat (first | (with_reducible exact HR189.out) | (with_reducible refine Kd.C_alloc ?_ _) | (with_reducible refine Kd.C_drewN ?_ _) | (with_reducible refine Kd.C_drew ?_) | exact HR189.out)) hb); replace HR196 := Aside0.mk (Kd.C_below (by repeat (first | (with_reducible exact HR196.out) | (with_reducible refine Kd.C_alloc ?_ _) | (with_reducible refine Kd.C_drewN ?_ _) | (with_reducible refine Kd.C_drew ?_) | exact HR196.out)) hb); replace HB := Aside0.mk (below_step hbs_ hb); (try clear hb); (try clear hb2); (try clear hk); (try clear hi); (try clear ho0); obtain ⟨Ao41, co41, eo41⟩ := Kd.R_slice HO192.out; subst eo41) | ((with_reducible refine gate_builtin (b := .append) (xs := #[.tmp 71, .tmp 72]) rfl ?_); at_builtin; refine Kd.R_append_rows (Kd.int .i64) (w0 := w) w.heap.size rfl (.tmp 71) (.tmp 72) 26 2 (.int .i64 0) 8 rfl Try.underlying26 info2 rfl (by decide) (by omega) v198 t197 y190 _ _ _ (fun k_ => some k_ ≠ (v170 : Value).ownBlock ∧ some k_ ≠ (.slice (some ad182) x9_1.length co20 : Value).ownBlock ∧ some k_ ≠ (.slice Ao41 y190.length co41 : Value).ownBlock) (fun _ => False) rfl rfl ?aO ?aR (fun _ _ h => h) (fun _ h => h.elim) ?aF ?aB ?aS ?aL ?_; (case aR => repeat (first | exact (Kd.R_reads' HO192.out).2.2 | (with_reducible refine Kd.C_alloc ?_ _) | (with_reducible refine Kd.C_drewN ?_ _) | (with_reducible refine Kd.C_drew ?_))); (case aB => exact hbs_); (case aF => exact (fun k_ hk => ⟨Kd.fresh' (Kd.R_lt (Kd.R_below HO_6.out bgo_)) k_ hk, Kd.fresh' (Kd.R_lt (Kd.R_below HO_9.out bgo_)) k_ hk, Kd.fresh' (Kd.R_lt (Kd.R_below HO192.out bgo_)) k_ hk⟩)); (case aO => exact (by (with_reducible repeat (first | apply Kd.R_alloc | apply Kd.R_drewN | apply Kd.R_drew)); exact Kd.R_mono HO199.out (fun _ hk => ⟨hk.1.1.2, ⟨hk.1.2, hk.2⟩⟩))); (case aS => exact (below_size hbs_)); (case aL => have := LMc33.out; omega); intro v201 w40 ho hb hg hat; rw [← Ny200.out] at ho; replace HO_6 := Aside0.mk (Kd.R_after (ok := (fun k_ => some k_ ≠ (.slice (some ad182) x9_1.length co20 : Value).ownBlock ∧ some k_ ≠ (.slice Ao41 y190.length co41 : Value).ownBlock)) (Kd.R_below HO_6.out bgo_) hg hat); replace HO_8 := Aside0.mk (Kd.R_over' (Kd.R_below HO_8.out bgo_) (Kd.R_typed (Kd.R_below HO199.out bgo_)) (by decide) hg); replace BK168 := Aside0.mk (blk_grown (g := gb168) (o := .cells #[.int .i64 a0_0, .slice A0_1 l0_1.length c0_1, .int .i64 a0_2, .slice A0_3 l0_3.length c0_3] 52 (0, 0)) (blk_below BK168.out bgo_) hg (Kd.R_ne HO199.out BK168.out (by decide))); replace HO192 := Aside0.mk (Kd.R_after (ok := (fun k_ => some k_ ≠ (v170 : Value).ownBlock ∧ some k_ ≠ (.slice (some ad182) x9_1.length co20 : Value).ownBlock)) (Kd.R_below HO192.out bgo_) hg hat); replace HB := Aside0.mk (hb); replace HR189 := Aside0.mk ((show Kd.C (Kd.int .i64) w40 A36 y186.length y186 from by rw [Ny186.out, KA36.out]; exact Kd.C_drop (m := (x13_3 : Int).toNat) (c := co20) ((Kd.R_reads' (Kd.R_after (ok := (fun k_ => some k_ ≠ (v170 : Value).ownBlock ∧ some k_ ≠ (.slice Ao41 y190.length co41 : Value).ownBlock)) (Kd.R_below HO_9.out bgo_) hg hat)).2.2) KL36.out ((Kd.R_reads' (Kd.R_after (ok := (fun k_ => some k_ ≠ (v170 : Value).ownBlock ∧ some k_ ≠ (.slice Ao41 y190.length co41 : Value).ownBlock)) (Kd.R_below HO_9.out bgo_) hg hat)).2.1))); replace HR196 := Aside0.mk ((show Kd.C (Kd.int .i64) w40 (some ad182) y193.length y193 from by rw [Ny193.out]; exact Kd.C_take (m := (x13_3 : Int).toNat) ((Kd.R_reads' (Kd.R_after (ok := (fun k_ => some k_ ≠ (v170 : Value).ownBlock ∧ some k_ ≠ (.slice Ao41 y190.length co41 : Value).ownBlock)) (Kd.R_below HO_9.out bgo_) hg hat)).2.2) KL38.out)); replace HO_9 := Aside0.mk (Kd.R_after (ok := (fun k_ => some k_ ≠ (v170 : Value).ownBlock ∧ some k_ ≠ (.slice Ao41 y190.length co41 : Value).ownBlock)) (Kd.R_below HO_9.out bgo_) hg hat); have HO202 := Aside0.mk (ho); clear HO199; clear ho hb hg hat))
             first | (first | go_roundg k3 | (refine Handed.intro k3 ?measure ?_; rotate_left; go_step; (try simp only [add_plain]); (repeat apply Exists.intro); refine ⟨?rel, rfl⟩)) | ((try subst hji22); (first | go_roundg k3 | (refine Handed.intro k3 ?measure ?_; rotate_left; go_step; (try simp only [add_plain]); (repeat apply Exists.intro); refine ⟨?rel, rfl⟩)))
             case measure => have := HK1.out; have := HK2.out; have := HK3.out; omega
             case rel => exact ⟨(x8_2), (y200), (wrap64 (x10_1 + 1)), es_, H', ⟨by have := HK1.out; have := HK2.out; have := HK3.out; omega⟩, ⟨by (with_reducible repeat (first | apply Kd.R_alloc | apply Kd.R_drewN | apply Kd.R_drew)); exact Kd.R_mono HO_6.out (fun _ hk => hk.2)⟩, ⟨Kd.R_below HO_8.out bgo_⟩, ⟨by (with_reducible repeat (first | apply Kd.R_alloc | apply Kd.R_drewN | apply Kd.R_drew)); exact Kd.R_mono HO202.out (fun _ hk => hk.1)⟩, ⟨blk_below BK168.out bgo_⟩, ⟨hbs_⟩⟩
            ·rw [if_neg c26] at H
             have c26b0 := decide_eq_false c26
             clear c26
             have H' := Aside0.mk H
             clear H
             have p182 : 0 ≤ ((ji22) : Int) := od_
             have q182 : (ji22) < (x9_1.length : Int) := od_
             obtain ⟨ad182, e182, hx182_0⟩ := Kd.at_int (Kd.R_reads' HO_9.out).2.2 (ji22) p182 q182
             cases e182
             replace p182 := eq_true p182
             replace q182 := eq_true q182
             go_wp2
             first | (first | go_roundg k3 | (refine Handed.intro k3 ?measure ?_; rotate_left; go_step; (try simp only [add_plain]); (repeat apply Exists.intro); refine ⟨?rel, rfl⟩)) | ((try subst hji22); (first | go_roundg k3 | (refine Handed.intro k3 ?measure ?_; rotate_left; go_step; (try simp only [add_plain]); (repeat apply Exists.intro); refine ⟨?rel, rfl⟩)))
             case measure => have := HK1.out; have := HK2.out; have := HK3.out; omega
             case rel => exact ⟨(x8_2), (x9_1), (wrap64 (x10_1 + 1)), es_, H', ⟨by have := HK1.out; have := HK2.out; have := HK3.out; omega⟩, ⟨Kd.R_below HO_6.out bgo_⟩, ⟨Kd.R_below HO_8.out bgo_⟩, ⟨Kd.R_below HO_9.out bgo_⟩, ⟨blk_below BK168.out bgo_⟩, ⟨hbs_⟩⟩
          ·rw [if_neg c21] at H
           have c21b0 := decide_eq_false c21
           clear c21
           by_cases c42 : x11_2 > 0
           ·rw [if_pos c42] at H
            have c42b0 := decide_eq_true c42
            clear c42
            obtain ⟨y203, Ny203, H⟩ : ∃ y203 : List Int, Aside0 (y203 = (([x11_2] : List Int))) ∧ (if 0 ≤ x13_3 then (if x13_3 ≤ (x9_1.length : Int) then ((some (x9_1.drop (x13_3 : Int).toNat : List Int)).bind fun y206 => (if y203.length + y206.length < 17592186044416 then ((some (y203 ++ y206 : List Int)).bind fun y210 => ((spec_l01Own.f (x9_1.take (x13_3 : Int).toNat)).bind fun t217 => (if t217.length + y210.length < 17592186044416 then (spec_TypeOfWalk.l0 k3 t169 x8_2 (t217 ++ y210) (wrap64 (x10_1 + 1)) a0_0 l0_1 a0_2 l0_3) else (none)))) else (none))) else (none)) else (none)) = some (r1, r2) := ⟨_, ⟨rfl⟩, H⟩
            obtain ⟨c43, H⟩ := itn_ H
            have c43b0 := eq_true c43
            have c43b1 := decide_eq_true c43
            clear c43
            obtain ⟨c44, H⟩ := itn_ H
            have c44b0 := eq_true c44
            have c44b1 := decide_eq_true c44
            clear c44
            obtain ⟨y206, Ny206, H⟩ : ∃ y206 : List Int, Aside0 (y206 = (x9_1.drop (x13_3 : Int).toNat)) ∧ (if y203.length + y206.length < 17592186044416 then ((some (y203 ++ y206 : List Int)).bind fun y210 => ((spec_l01Own.f (x9_1.take (x13_3 : Int).toNat)).bind fun t217 => (if t217.length + y210.length < 17592186044416 then (spec_TypeOfWalk.l0 k3 t169 x8_2 (t217 ++ y210) (wrap64 (x10_1 + 1)) a0_0 l0_1 a0_2 l0_3) else (none)))) else (none)) = some (r1, r2) := ⟨_, ⟨rfl⟩, H⟩
            obtain ⟨c45, H⟩ := itn_ H
            have LMc45 := Aside0.mk c45
            clear c45
            obtain ⟨y210, Ny210, H⟩ : ∃ y210 : List Int, Aside0 (y210 = (y203 ++ y206)) ∧ ((spec_l01Own.f (x9_1.take (x13_3 : Int).toNat)).bind fun t217 => (if t217.length + y210.length < 17592186044416 then (spec_TypeOfWalk.l0 k3 t169 x8_2 (t217 ++ y210) (wrap64 (x10_1 + 1)) a0_0 l0_1 a0_2 l0_3) else (none))) = some (r1, r2) := ⟨_, ⟨rfl⟩, H⟩
            have c46b0 := eq_true (od_ : 0 ≤ x13_3)
            have c47b0 := eq_true (od_ : x13_3 ≤ (x9_1.length : Int))
            obtain ⟨y213, Ny213, H⟩ : ∃ y213 : List Int, Aside0 (y213 = (x9_1.take (x13_3 : Int).toNat)) ∧ ((spec_l01Own.f y213).bind fun t217 => (if t217.length + y210.length < 17592186044416 then (spec_TypeOfWalk.l0 k3 t169 x8_2 (t217 ++ y210) (wrap64 (x10_1 + 1)) a0_0 l0_1 a0_2 l0_3) else (none))) = some (r1, r2) := ⟨_, ⟨rfl⟩, H⟩
            obtain ⟨t217, A48, H⟩ := bnd_ H
            obtain ⟨c49, H⟩ := itn_ H
            have LMc49 := Aside0.mk c49
            clear c49
            obtain ⟨y220, Ny220, H⟩ : ∃ y220 : List Int, Aside0 (y220 = (t217 ++ y210)) ∧ (spec_TypeOfWalk.l0 k3 t169 x8_2 y220 (wrap64 (x10_1 + 1)) a0_0 l0_1 a0_2 l0_3) = some (r1, r2) := ⟨_, ⟨rfl⟩, H⟩
            have H' := Aside0.mk H
            clear H
            go_wp2_with (first | ((with_reducible refine gate_dst (N := 63) rfl ?_); refine Kd.R_lit (Kd.int .i64) _ 2 ?hg (N := 63) ?hd (xs := ([x11_2] : List Int)) (inner := [.int .i64 x11_2]) (ok := fun _ => True) (okp := fun _ => True) ?hr ?hp (fun _ hk => hk) trivial (Below.refl _ _) (Nat.le_refl _) (by simp) ?_; (case hd => rfl); (case hg => rfl); (case hr => first | (go_simp; done) | (go_simp; rfl)); (case hp => exact (Reps.one (show Kd.M (Kd.int .i64) _ _ _ x11_2 [.int .i64 x11_2] from rfl) (Reps.none _ _))); intro v204 w50 ho51 hb hg_ hnew_; clear hg_ hnew_; (first | rw [← Ny203.out] at ho51 | (simp only [Int.reduceToNat] at ho51; rw [← Ny203.out] at ho51)); replace HO_8 := Aside0.mk (Kd.R_below (Kd.R_below HO_8.out bgo_) hb); have HO205 := Aside0.mk (Kd.R_lower (Kd.R_new' (Kd.R_new' ho51 (Kd.R_lt (Kd.R_below HO_6.out bgo_))) (Kd.R_lt (Kd.R_below HO_9.out bgo_))) (below_size hbs_)); replace HO_6 := Aside0.mk (Kd.R_elder' (Kd.R_below HO_6.out bgo_) (Kd.R_base ho51) hb); replace HO_9 := Aside0.mk (Kd.R_elder' (Kd.R_below HO_9.out bgo_) (Kd.R_base ho51) hb); replace BK168 := Aside0.mk (blk_below (g := gb168) (o := .cells #[.int .i64 a0_0, .slice A0_1 l0_1.length c0_1, .int .i64 a0_2, .slice A0_3 l0_3.length c0_3] 52 (0, 0)) (blk_below BK168.out bgo_) hb); replace HB := Aside0.mk (below_step hbs_ hb); clear hb ho51; have q52 : (x13_3 : Int) ≤ ((x9_1.length : Int) : Int) := od_; obtain ⟨i052, hi052, _, hsz52, _⟩ := info_parts info2; have hroom52 : x9_1.length ≤ co20 := (Kd.R_reads' HO_9.out).2.1; have hC52 : Kd.C (Kd.int .i64) _ Ao20 x9_1.length x9_1 := (Kd.R_reads' HO_9.out).2.2; have q052 : (0 : Int) ≤ (x13_3 : Int) := od_; have hcut52 := cut_from (P := Try.prog) 26 2 .i64 Try.underlying26 hi052 1 hsz52 Ao20 x9_1.length co20 x13_3 q052 q52; have hr52 := Kd.C_drop (m := (x13_3 : Int).toNat) (c := co20) hC52 (by omega) hroom52; obtain ⟨A52, hA52⟩ : ∃ A1, A1 = (if co20 = (x13_3 : Int).toNat then Ao20 else (Ao20 : Option Addr).map (·.add ((x13_3 : Int).toNat * 1))) := ⟨_, rfl⟩; obtain ⟨c52, hc52⟩ : ∃ c1, c1 = co20 - (x13_3 : Int).toNat := ⟨_, rfl⟩; have hy52 : y206.length = x9_1.length - (x13_3 : Int).toNat := (by rw [Ny206.out, List.length_drop] <;> omega); rw [show (x9_1).drop (x13_3 : Int).toNat = y206 from Ny206.out.symm] at hr52; replace hr52 : Kd.C (Kd.int .i64) _ A52 y206.length y206 := (by rw [hA52]; exact hr52); rw [← hy52, ← hA52, ← hc52] at hcut52; have HR209 := Aside0.mk hr52; have HC209 := Aside0.mk (show y206.length ≤ c52 from by rw [hy52, hc52]; exact Nat.sub_le_sub_right hroom52 _); clear hr52 hC52 hroom52 hi052 hsz52 hc52; have KY52 := Aside0.mk hy52; have KA52 := Aside0.mk hA52; clear hy52 hA52; have KL52 := Aside0.mk (show (x13_3 : Int).toNat ≤ x9_1.length from by omega); replace q52 := eq_true q52) | ((with_reducible refine gate_builtin (b := .append) (xs := #[.tmp 63, .tmp 66]) rfl ?_); at_builtin; refine Kd.R_append_rows (Kd.int .i64) (w0 := w) w.heap.size rfl (.tmp 63) (.tmp 66) 26 2 (.int .i64 0) 8 rfl Try.underlying26 info2 rfl (by decide) (by omega) v204 y203 y206 _ _ _ (fun k_ => some k_ ≠ (v170 : Value).ownBlock ∧ some k_ ≠ (.slice Ao20 x9_1.length co20 : Value).ownBlock) (fun _ => False) rfl rfl ?aO ?aR (fun _ _ h => h) (fun _ h => h.elim) ?aF ?aB ?aS ?aL ?_; (case aR => repeat (first | exact (by repeat (first | (with_reducible exact HR209.out) | (with_reducible refine Kd.C_alloc ?_ _) | (with_reducible refine Kd.C_drewN ?_ _) | (with_reducible refine Kd.C_drew ?_) | exact HR209.out)) | (with_reducible refine Kd.C_alloc ?_ _) | (with_reducible refine Kd.C_drewN ?_ _) | (with_reducible refine Kd.C_drew ?_))); (case aB => exact hbs_); (case aF => exact (fun k_ hk => ⟨Kd.fresh' (Kd.R_lt (Kd.R_below HO_6.out bgo_)) k_ hk, Kd.fresh' (Kd.R_lt (Kd.R_below HO_9.out bgo_)) k_ hk⟩)); (case aO => exact (by (with_reducible repeat (first | apply Kd.R_alloc | apply Kd.R_drewN | apply Kd.R_drew)); exact Kd.R_mono HO205.out (fun _ hk => ⟨hk.1.2, hk.2⟩))); (case aS => exact (below_size hbs_)); (case aL => have := LMc45.out; omega); intro v211 w53 ho hb hg hat; rw [← Ny210.out] at ho; replace HO_6 := Aside0.mk (Kd.R_after (ok := (fun k_ => some k_ ≠ (.slice Ao20 x9_1.length co20 : Value).ownBlock)) (Kd.R_below HO_6.out bgo_) hg hat); replace HO_8 := Aside0.mk (Kd.R_over' (Kd.R_below HO_8.out bgo_) (Kd.R_typed (Kd.R_below HO205.out bgo_)) (by decide) hg); replace BK168 := Aside0.mk (blk_grown (g := gb168) (o := .cells #[.int .i64 a0_0, .slice A0_1 l0_1.length c0_1, .int .i64 a0_2, .slice A0_3 l0_3.length c0_3] 52 (0, 0)) (blk_below BK168.out bgo_) hg (Kd.R_ne HO205.out BK168.out (by decide))); replace HB := Aside0.mk (hb); replace HR209 := Aside0.mk ((show Kd.C (Kd.int .i64) w53 A52 y206.length y206 from by rw [Ny206.out, KA52.out]; exact Kd.C_drop (m := (x13_3 : Int).toNat) (c := co20) ((Kd.R_reads' (Kd.R_after (ok := (fun k_ => some k_ ≠ (v170 : Value).ownBlock)) (Kd.R_below HO_9.out bgo_) hg hat)).2.2) KL52.out ((Kd.R_reads' (Kd.R_after (ok := (fun k_ => some k_ ≠ (v170 : Value).ownBlock)) (Kd.R_below HO_9.out bgo_) hg hat)).2.1))); replace HO_9 := Aside0.mk (Kd.R_after (ok := (fun k_ => some k_ ≠ (v170 : Value).ownBlock)) (Kd.R_below HO_9.out bgo_) hg hat); have HO212 := Aside0.mk (ho); clear HO205; clear ho hb hg hat; have q54 : (x13_3 : Int) ≤ ((x9_1.length : Int) : Int) := od_; obtain ⟨i054, hi054, _, hsz54, _⟩ := info_parts info2; have hroom54 : x9_1.length ≤ co20 := (Kd.R_reads' HO_9.out).2.1; have hC54 : Kd.C (Kd.int .i64) _ Ao20 x9_1.length x9_1 := (Kd.R_reads' HO_9.out).2.2; have hcut54 := cut_to (P := Try.prog) 26 2 .i64 Try.underlying26 hi054 Ao20 x9_1.length co20 x13_3 (od_) q54 hroom54; have hr54 := Kd.C_take (m := (x13_3 : Int).toNat) hC54 (by omega); have hy54 : y213.length = (x13_3 : Int).toNat := (by rw [Ny213.out, List.length_take]; omega); rw [← Ny213.out] at hr54; rw [← hy54] at hcut54; have HR216 := Aside0.mk hr54; have HC216 := Aside0.mk (show y213.length ≤ co20 from by omega); clear hr54 hC54 hroom54 hi054 hsz54; have KY54 := Aside0.mk hy54; clear hy54; have KL54 := Aside0.mk (show (x13_3 : Int).toNat ≤ x9_1.length from by omega); replace q54 := eq_true q54) | ((with_reducible refine gate_callee (f := 42) rfl ?_); refine goesL_ (some 71) rfl rfl Try.func42 (by kernel_rfl) rfl #[.slice Ao20 y213.length co20] rfl arg_ ?_; (with_reducible refine (spec_l01Own.calls _ _ y213 t217 _ ?side1 ?side2 A48.out).mono ?_); (case side1 => repeat (first | exact (by repeat (first | (with_reducible exact HR216.out) | (with_reducible refine Kd.C_alloc ?_ _) | (with_reducible refine Kd.C_drewN ?_ _) | (with_reducible refine Kd.C_drew ?_) | exact HR216.out)) | (with_reducible refine Kd.C_alloc ?_ _) | (with_reducible refine Kd.C_drewN ?_ _) | (with_reducible refine Kd.C_drew ?_))); (case side2 => exact HC216.out); rintro e w55 ⟨v218, rfl, ho0, hb⟩; refine ⟨_, rfl, ?_⟩; replace HO_8 := Aside0.mk (Kd.R_below (Kd.R_below HO_8.out bgo_) hb); have HO219 := Aside0.mk (Kd.R_lower (Kd.R_new' (Kd.R_new' (Kd.R_new' ho0 (Kd.R_lt (Kd.R_below HO_6.out bgo_))) (Kd.R_lt (Kd.R_below HO_9.out bgo_))) (Kd.R_lt (Kd.R_below HO212.out bgo_))) (below_size hbs_)); replace HO_6 := Aside0.mk (Kd.R_elder' (Kd.R_below HO_6.out bgo_) (Kd.R_base ho0) hb); replace HO_9 := Aside0.mk (Kd.R_elder' (Kd.R_below HO_9.out bgo_) (Kd.R_base ho0) hb); replace HO212 := Aside0.mk (Kd.R_elder' (Kd.R_below HO212.out bgo_) (Kd.R_base ho0) hb); replace BK168 := Aside0.mk (blk_below (g := gb168) (o := .cells #[.int .i64 a0_0, .slice A0_1 l0_1.length c0_1, .int .i64 a0_2, .slice A0_3 l0_3.length c0_3] 52 (0, 0)) (blk_below BK168.out bgo_) hb); replace HR209 := Aside0.mk (Kd.C_below (by repeat (first | (with_reducible exact HR209.out) | (with_reducible refine Kd.C_alloc ?_ _) | (with_reducible refine Kd.C_drewN ?_ _) | (with_reducible refine Kd.C_drew ?_) | exact HR209.out)) hb); replace HR216 := Aside0.mk (Kd.C_below (by repeat (first | (with_reducible exact HR216.out) | (with_reducible refine Kd.C_alloc ?_ _) | (with_reducible refine Kd.C_drewN ?_ _) | (with_reducible refine Kd.C_drew ?_) | exact HR216.out)) hb); replace HB := Aside0.mk (below_step hbs_ hb); (try clear hb); (try clear hb2); (try clear hk); (try clear hi); (try clear ho0); obtain ⟨Ao57, co57, eo57⟩ := Kd.R_slice HO212.out; subst eo57) | ((with_reducible refine gate_builtin (b := .append) (xs := #[.tmp 71, .tmp 72]) rfl ?_); at_builtin; refine Kd.R_append_rows (Kd.int .i64) (w0 := w) w.heap.size rfl (.tmp 71) (.tmp 72) 26 2 (.int .i64 0) 8 rfl Try.underlying26 info2 rfl (by decide) (by omega) v218 t217 y210 _ _ _ (fun k_ => some k_ ≠ (v170 : Value).ownBlock ∧ some k_ ≠ (.slice Ao20 x9_1.length co20 : Value).ownBlock ∧ some k_ ≠ (.slice Ao57 y210.length co57 : Value).ownBlock) (fun _ => False) rfl rfl ?aO ?aR (fun _ _ h => h) (fun _ h => h.elim) ?aF ?aB ?aS ?aL ?_; (case aR => repeat (first | exact (Kd.R_reads' HO212.out).2.2 | (with_reducible refine Kd.C_alloc ?_ _) | (with_reducible refine Kd.C_drewN ?_ _) | (with_reducible refine Kd.C_drew ?_))); (case aB => exact hbs_); (case aF => exact (fun k_ hk => ⟨Kd.fresh' (Kd.R_lt (Kd.R_below HO_6.out bgo_)) k_ hk, Kd.fresh' (Kd.R_lt (Kd.R_below HO_9.out bgo_)) k_ hk, Kd.fresh' (Kd.R_lt (Kd.R_below HO212.out bgo_)) k_ hk⟩)); (case aO => exact (by (with_reducible repeat (first | apply Kd.R_alloc | apply Kd.R_drewN | apply Kd.R_drew)); exact Kd.R_mono HO219.out (fun _ hk => ⟨hk.1.1.2, ⟨hk.1.2, hk.2⟩⟩))); (case aS => exact (below_size hbs_)); (case aL => have := LMc49.out; omega); intro v221 w56 ho hb hg hat; rw [← Ny220.out] at ho; replace HO_6 := Aside0.mk (Kd.R_after (ok := (fun k_ => some k_ ≠ (.slice Ao20 x9_1.length co20 : Value).ownBlock ∧ some k_ ≠ (.slice Ao57 y210.length co57 : Value).ownBlock)) (Kd.R_below HO_6.out bgo_) hg hat); replace HO_8 := Aside0.mk (Kd.R_over' (Kd.R_below HO_8.out bgo_) (Kd.R_typed (Kd.R_below HO219.out bgo_)) (by decide) hg); replace BK168 := Aside0.mk (blk_grown (g := gb168) (o := .cells #[.int .i64 a0_0, .slice A0_1 l0_1.length c0_1, .int .i64 a0_2, .slice A0_3 l0_3.length c0_3] 52 (0, 0)) (blk_below BK168.out bgo_) hg (Kd.R_ne HO219.out BK168.out (by decide))); replace HO212 := Aside0.mk (Kd.R_after (ok := (fun k_ => some k_ ≠ (v170 : Value).ownBlock ∧ some k_ ≠ (.slice Ao20 x9_1.length co20 : Value).ownBlock)) (Kd.R_below HO212.out bgo_) hg hat); replace HB := Aside0.mk (hb); replace HR209 := Aside0.mk ((show Kd.C (Kd.int .i64) w56 A52 y206.length y206 from by rw [Ny206.out, KA52.out]; exact Kd.C_drop (m := (x13_3 : Int).toNat) (c := co20) ((Kd.R_reads' (Kd.R_after (ok := (fun k_ => some k_ ≠ (v170 : Value).ownBlock ∧ some k_ ≠ (.slice Ao57 y210.length co57 : Value).ownBlock)) (Kd.R_below HO_9.out bgo_) hg hat)).2.2) KL52.out ((Kd.R_reads' (Kd.R_after (ok := (fun k_ => some k_ ≠ (v170 : Value).ownBlock ∧ some k_ ≠ (.slice Ao57 y210.length co57 : Value).ownBlock)) (Kd.R_below HO_9.out bgo_) hg hat)).2.1))); replace HR216 := Aside0.mk ((show Kd.C (Kd.int .i64) w56 Ao20 y213.length y213 from by rw [Ny213.out]; exact Kd.C_take (m := (x13_3 : Int).toNat) ((Kd.R_reads' (Kd.R_after (ok := (fun k_ => some k_ ≠ (v170 : Value).ownBlock ∧ some k_ ≠ (.slice Ao57 y210.length co57 : Value).ownBlock)) (Kd.R_below HO_9.out bgo_) hg hat)).2.2) KL54.out)); replace HO_9 := Aside0.mk (Kd.R_after (ok := (fun k_ => some k_ ≠ (v170 : Value).ownBlock ∧ some k_ ≠ (.slice Ao57 y210.length co57 : Value).ownBlock)) (Kd.R_below HO_9.out bgo_) hg hat); have HO222 := Aside0.mk (ho); clear HO219; clear ho hb hg hat))
            first | go_roundg k3 | (refine Handed.intro k3 ?measure ?_; rotate_left; go_step; (try simp only [add_plain]); (repeat apply Exists.intro); refine ⟨?rel, rfl⟩)
            case measure => have := HK1.out; have := HK2.out; have := HK3.out; omega
            case rel => exact ⟨(x8_2), (y220), (wrap64 (x10_1 + 1)), es_, H', ⟨by have := HK1.out; have := HK2.out; have := HK3.out; omega⟩, ⟨by (with_reducible repeat (first | apply Kd.R_alloc | apply Kd.R_drewN | apply Kd.R_drew)); exact Kd.R_mono HO_6.out (fun _ hk => hk.2)⟩, ⟨Kd.R_below HO_8.out bgo_⟩, ⟨by (with_reducible repeat (first | apply Kd.R_alloc | apply Kd.R_drewN | apply Kd.R_drew)); exact Kd.R_mono HO222.out (fun _ hk => hk.1)⟩, ⟨blk_below BK168.out bgo_⟩, ⟨hbs_⟩⟩
           ·rw [if_neg c42] at H
            have c42b0 := decide_eq_false c42
            clear c42
            have H' := Aside0.mk H
            clear H
            go_wp2
            first | go_roundg k3 | (refine Handed.intro k3 ?measure ?_; rotate_left; go_step; (try simp only [add_plain]); (repeat apply Exists.intro); refine ⟨?rel, rfl⟩)
            case measure => have := HK1.out; have := HK2.out; have := HK3.out; omega
            case rel => exact ⟨(x8_2), (x9_1), (wrap64 (x10_1 + 1)), es_, H', ⟨by have := HK1.out; have := HK2.out; have := HK3.out; omega⟩, ⟨Kd.R_below HO_6.out bgo_⟩, ⟨Kd.R_below HO_8.out bgo_⟩, ⟨Kd.R_below HO_9.out bgo_⟩, ⟨blk_below BK168.out bgo_⟩, ⟨hbs_⟩⟩
       ·replace c18 := Bool.eq_false_iff.mpr c18
        subst c18
        have H1 : (if x12_2 < (t169.length : Int) then (spec_TypeOfWalk.l1 k2 t169 (x8_2.set (x12_2 : Int).toNat true) x9_1 x10_1 (wrap64 (x11_2 + 1)) (rd t169 x12_2) a0_0 l0_1 a0_2 l0_3) else (none)) = some (r1, r2) := by rw [if_neg (show ¬ (false = true) by decide)] at H; exact H
        clear H
        have H := H1
        clear H1
        obtain ⟨y180, Ny180, H⟩ : ∃ y180 : List Bool, Aside0 (y180 = (x8_2.set (x12_2 : Int).toNat true)) ∧ (if x12_2 < (t169.length : Int) then (spec_TypeOfWalk.l1 k2 t169 y180 x9_1 x10_1 (wrap64 (x11_2 + 1)) (rd t169 x12_2) a0_0 l0_1 a0_2 l0_3) else (none)) = some (r1, r2) := ⟨_, ⟨rfl⟩, H⟩
        obtain ⟨c59, H⟩ := itn_ H
        have c59b0 := decide_eq_true c59
        clear c59
        have H' := Aside0.mk H
        clear H
        have HL8 := Aside0.mk (spec_TypeOfWalk.len4 HO_8.out)
        have p179 : 0 ≤ (x12_2 : Int) := od_
        have q179 : x12_2 < (x8_2.length : Int) := od_
        obtain ⟨ad179, e179, hx179_0⟩ := Kd.at_bool (Kd.R_reads' HO_8.out).2.2 x12_2 p179 q179
        (try rw [← Nbq17.out] at hx179_0)
        cases e179
        replace p179 := eq_true p179
        (first | simp only [add_plain] at hx179_0 | skip)
        replace q179 := eq_true (show x12_2 < 4 from by have := HL8.out; omega)
        have p58 : 0 ≤ (x12_2 : Int) := od_
        have q58 : (x12_2 : Int) < ((4 : Nat) : Int) := (by have := HL8.out; have h_ : x12_2 < (x8_2.length : Int) := od_; omega)
        obtain ⟨go58, co58, eo58, gb58, gl58, cl58, HG58⟩ := Kd.R_form HO_8.out (by have := HL8.out; omega)
        injection eo58 with ea_ en_ ec_
        injection ea_ with ea_
        injection ea_ with ea_ _ _
        subst ea_
        subst ec_
        clear en_
        have GB58 := Aside0.mk gb58
        have GG58 := Aside0.mk HG58
        clear gb58 gl58 HG58
        (first | simp only [add_plain] at hx179_0 | skip)
        obtain ⟨hx58_0, hf58_0⟩ := Kd.R_celln false HO_8.out (x12_2 : Int) p58 q58
        replace p58 := eq_true p58
        replace q58 := eq_true q58
        have HP61 := Kd.R_putg HO_8.out (x12_2 : Int) true
        go_wp2_with (first | ((with_reducible refine gate_store (t := 4) (p := 42) rfl ?_); refine store_event (t := 4) (p := 42) (v := ?vo_w62) (w1 := (wr.setCell ⟨gb8, (x12_2 : Int).toNat, none⟩ (.bool true))) ?hg ?ho ?hn ?hr ?_; (case ho => rfl); (case hg => rfl); (case hn => rfl); (case hr => first | (go_simp; done) | (go_simp; rfl)); intro w62 hw; have hg : wr.grownBy w62 (some gb8) := (by rw [hw]; exact HP61.2); have hp_ : Kd.R Kd.bool 85 w62 w.heap.size (fun _ => True) (.slice (some ⟨gb8, 0, none⟩) 4 4) y180 := (by rw [hw, Ny180.out]; exact HP61.1); clear HP61; replace HO_6 := Aside0.mk (Kd.R_over' (v := (.slice (some ⟨gb8, 0, none⟩) 4 4)) (Kd.R_below HO_6.out bgo_) (Kd.R_typed HO_8.out) (by decide) hg); replace HO_9 := Aside0.mk (Kd.R_over' (v := (.slice (some ⟨gb8, 0, none⟩) 4 4)) (Kd.R_below HO_9.out bgo_) (Kd.R_typed HO_8.out) (by decide) hg); replace BK168 := Aside0.mk (blk_grown (g := gb168) (o := .cells #[.int .i64 a0_0, .slice A0_1 l0_1.length c0_1, .int .i64 a0_2, .slice A0_3 l0_3.length c0_3] 52 (0, 0)) (blk_below BK168.out bgo_) hg (Kd.R_ne HO_8.out BK168.out (by decide))); replace HO_8 := Aside0.mk (hp_); replace HB := Aside0.mk ((by rw [hw]; exact below_set (HB.out) GB58.out : Below w.heap.size w w62)); clear hg hw hp_; obtain ⟨Ao63, co63, eo63⟩ := Kd.R_slice HO_6.out; subst eo63; have p181 : 0 ≤ (x12_2 : Int) := od_; have q181 : x12_2 < (t169.length : Int) := od_; obtain ⟨ad181, e181, hx181_0⟩ := Kd.at_int (Kd.R_reads' HO_6.out).2.2 x12_2 p181 q181; cases e181; replace p181 := eq_true p181; replace q181 := eq_true q181))
        first | go_roundg k2 | (refine Handed.intro k2 ?measure ?_; rotate_left; go_step; (try simp only [add_plain]); (repeat apply Exists.intro); refine ⟨?rel, rfl⟩)
        case measure => have := HK1.out; have := HK2.out; omega
        case rel => exact ⟨(y180), (wrap64 (x11_2 + 1)), (rd t169 x12_2), es_, es_, H', ⟨by have := HK1.out; have := HK2.out; omega⟩, ⟨Kd.R_below HO_6.out bgo_⟩, ⟨Kd.R_below HO_8.out bgo_⟩, ⟨Kd.R_below HO_9.out bgo_⟩, ⟨blk_below BK168.out bgo_⟩, ⟨hbs_⟩⟩
    ·rw [if_neg c13] at H
     have c13b0 := decide_eq_false c13
     clear c13
     simp only [Option.some.injEq, Prod.mk.injEq] at H
     obtain ⟨rfl, rfl⟩ := H
     have hcz64_0 : wr.cell? ⟨gb168, 0, none⟩ = some (.int .i64 a0_0) := (blk_cell BK168.out 0).trans rfl
     have hcz64_1 : wr.cell? ⟨gb168, 1, none⟩ = some (.slice A0_1 l0_1.length c0_1) := (blk_cell BK168.out 1).trans rfl
     have hcz64_2 : wr.cell? ⟨gb168, 2, none⟩ = some (.int .i64 a0_2) := (blk_cell BK168.out 2).trans rfl
     have hcz64_3 : wr.cell? ⟨gb168, 3, none⟩ = some (.slice A0_3 l0_3.length c0_3) := (blk_cell BK168.out 3).trans rfl
     have hfz64_0 := blk_frozen BK168.out 0
     have hfz64_1 := blk_frozen BK168.out 1
     have hfz64_2 := blk_frozen BK168.out 2
     have hfz64_3 := blk_frozen BK168.out 3
     go_wp2
     go_ret2
     exact ⟨_, er_, by (with_reducible repeat (first | apply Kd.R_alloc | apply Kd.R_drewN | apply Kd.R_drew)); exact Kd.R_mono HO_9.out (fun _ hk => trivial), hbs_⟩
 ·rw [if_neg c4] at H
  have c4b0 : (t172 == 0) = false := beq_eq_false_iff_ne.mpr c4
  have c4b1 : (t172 != 0) = true := bne_iff_ne.mpr c4
  simp only [Option.some.injEq, Prod.mk.injEq] at H
  obtain ⟨rfl, rfl⟩ := H
  go_enter Try.func34, Try.ntmps34
  go_wp2_with (first | ((with_reducible refine gate_dst (N := 2) rfl ?_); refine box_event ?hg (N := 2) ?hd (cs := #[.int .i64 a0_0, .slice A0_1 l0_1.length c0_1, .int .i64 a0_2, .slice A0_3 l0_3.length c0_3]) (t := 52) ?hr ?_; (case hd => rfl); (case hg => rfl); (case hr => first | (go_simp; done) | (go_simp; rfl)); intro gb168 hg w65 hbox hb; have BK168 := Aside0.mk (hbox); have GW168 := Aside0.mk ((by rw [hg]; exact (below_size hb_) : w.heap.size ≤ gb168)); have GE168 := Aside0.mk ((by rw [hg]; exact (below_size hb_) : w.heap.size ≤ gb168)); replace HB := Aside0.mk (below_step hb_ hb); clear hb hbox hg; have hcz66_0 : w65.cell? ⟨gb168, 0, none⟩ = some (.int .i64 a0_0) := (blk_cell BK168.out 0).trans rfl; have hcz66_1 : w65.cell? ⟨gb168, 1, none⟩ = some (.slice A0_1 l0_1.length c0_1) := (blk_cell BK168.out 1).trans rfl; have hcz66_2 : w65.cell? ⟨gb168, 2, none⟩ = some (.int .i64 a0_2) := (blk_cell BK168.out 2).trans rfl; have hcz66_3 : w65.cell? ⟨gb168, 3, none⟩ = some (.slice A0_3 l0_3.length c0_3) := (blk_cell BK168.out 3).trans rfl; have hfz66_0 := blk_frozen BK168.out 0; have hfz66_1 := blk_frozen BK168.out 1; have hfz66_2 := blk_frozen BK168.out 2; have hfz66_3 := blk_frozen BK168.out 3) | ((with_reducible refine gate_callee (f := 82) rfl ?_); refine goesL_ (some 18) rfl rfl Try.func82 (by kernel_rfl) rfl #[.agg #[.int .i64 a0_0, .slice A0_1 l0_1.length c0_1, .int .i64 a0_2, .slice A0_3 l0_3.length c0_3], .slice A1 l1.length c1] rfl arg_ ?_; (with_reducible refine (spec_l04Walk.calls k a0_0 _ _ l0_1 a0_2 _ _ l0_3 _ _ l1 t169 t172 _ ?side1 ?side2 ?side3 ?side4 ?side5 ?side6 A3.out).mono ?_); (case side1 => exact Kd.C_below (Kd.C_below HR0_1.out HB.out) bgo_); (case side2 => exact HC0_1.out); (case side3 => exact Kd.C_below (Kd.C_below HR0_3.out HB.out) bgo_); (case side4 => exact HC0_3.out); (case side5 => exact Kd.C_below (Kd.C_below HR1.out HB.out) bgo_); (case side6 => exact HC1.out); rintro e w67 ⟨v170, rfl, ho0, hb⟩; refine ⟨_, rfl, ?_⟩; have HO171 := Aside0.mk (Kd.R_lower ho0 (below_size hbs_)); replace BK168 := Aside0.mk (blk_below (g := gb168) (o := .cells #[.int .i64 a0_0, .slice A0_1 l0_1.length c0_1, .int .i64 a0_2, .slice A0_3 l0_3.length c0_3] 52 (0, 0)) (blk_below BK168.out bgo_) hb); replace HB := Aside0.mk (below_step hbs_ hb); (try clear hb); (try clear hb2); (try clear hk); (try clear hi); (try clear ho0)))
  go_ret2
  exact ⟨_, er_, by first | exact Kd.R_nil _ _ _ _ _ | exact Kd.N_nil _ _ _ _ _ | exact Kd.V_nil _ _ _ _ _ | exact Kd.Q_nil _ _ _ _ _ | exact Kd.S_nil _ _ _ _ _, hbs_⟩

/-! ### laws_toInt64SS: function 45 -/
def laws_toInt64SS.l0 : Nat → List (List Int) → List (List Int) → Int → Option ((List (List Int)))
 | 0, _, _, _ => none
 | k + 1, x0, x3, x4 => if x4 < (x0.length : Int) then (if 0 ≤ x4 then ((laws_toInt64S.f k (rd_L1 x0 x4)).bind fun t172 => (if x4 < (x3.length : Int) then (laws_toInt64SS.l0 k x0 (x3.set (x4 : Int).toNat t172) (wrap64 (x4 + 1))) else (none))) else (none)) else (some x3)
def laws_toInt64SS.f (k : Nat) (l0 : List (List Int)) : Option ((List (List Int))) := if 0 ≤ (l0.length : Int) then (if ((l0.length : Int) : Int).toNat ≤ 11728124029610 then (laws_toInt64SS.l0 k l0 (List.replicate ((l0.length : Int) : Int).toNat []) 0) else (none)) else (none)
set_option maxHeartbeats 8000000 in
set_option maxRecDepth 100000 in
theorem laws_toInt64SS.calls (k : Nat) (A0 : Option Addr) (c0 : Nat) (l0 : List (List Int)) (r : List (List Int)) (w : World) (hr0 : Kd.C (Kd.slice 2 (Kd.int .i64)) w A0 l0.length l0) (hc0 : l0.length ≤ c0) (h : laws_toInt64SS.f k l0 = some r) :
  Calls Try.prog 45 #[.slice A0 l0.length c0] w fun e w' => ∃ v0_ : Value, e = .returned (v0_) ∧ Kd.S (Kd.slice 2 (Kd.int .i64)) 26 w' w.heap.size (fun _ => True) v0_ r ∧ Below w.heap.size w w' := by
 have HR0 := Aside0.mk hr0
 have HC0 := Aside0.mk hc0
 clear hr0 hc0
 have HB := Aside0.mk (Below.refl w.heap.size w)
 have H : (if 0 ≤ (l0.length : Int) then (if ((l0.length : Int) : Int).toNat ≤ 11728124029610 then (laws_toInt64SS.l0 k l0 (List.replicate ((l0.length : Int) : Int).toNat []) 0) else (none)) else (none)) = some r := h
 clear h
 by_cases c2 : 0 ≤ (l0.length : Int)
 ·rw [if_pos c2] at H
  have c2b0 := eq_true c2
  have c2b1 := decide_eq_true c2
  clear c2
  obtain ⟨c3, H⟩ := itn_ H
  have c3b0 := eq_true c3
  have c3b1 := decide_eq_true c3
  clear c3
  obtain ⟨y168, Ny168, H⟩ : ∃ y168 : List (List Int), Aside0 (y168 = (List.replicate ((l0.length : Int) : Int).toNat [])) ∧ (laws_toInt64SS.l0 k l0 y168 0) = some r := ⟨_, ⟨rfl⟩, H⟩
  have H' := Aside0.mk H
  clear H
  go_enter Try.func45, Try.ntmps45
  go_wp2_with (first | ((with_reducible refine gate_dst (N := 7) rfl ?_); refine Kd.S_make (Kd.slice 2 (Kd.int .i64)) _ 26 rfl (N := 7) rfl 22 _ _ rfl (l0.length : Int) rfl rfl Try.underlying22 (.slice none 0 0) 24 info26 rfl (by decide) (by omega) [] (ok := fun _ => True) (okp := fun _ => True) ⟨_, rfl, Kd.R_nil _ _ _ _ _⟩ (fun _ hk => hk) trivial (od_) (Nat.le_trans (Nat.mul_le_mul_right _ (od_ : (l0.length : Int).toNat ≤ 11728124029610)) (by omega)) (Below.refl _ _) (Nat.le_refl _) ?_; intro v169 w4 ho5 hb hg_ hnew_; clear hg_ hnew_; (first | rw [← Ny168.out] at ho5 | (simp only [Int.reduceToNat] at ho5; rw [← Ny168.out] at ho5)); have HO170 := Aside0.mk (Kd.S_lower ho5 (below_size hb_)); replace HB := Aside0.mk (below_step hb_ hb); clear hb ho5))
  go_loopg [4] k (fun kq v4 w' => ∃ (x3_1 : List (List Int)) (x4_1 : Int), v4 = .int .i64 x4_1 ∧ Aside0 (laws_toInt64SS.l0 kq l0 x3_1 x4_1 = some r) ∧ Aside0 (kq ≤ k) ∧ Aside0 (Kd.S (Kd.slice 2 (Kd.int .i64)) 26 w' w.heap.size (fun _ => True) v169 x3_1) ∧ Aside0 (Below w.heap.size w w'))
  case atStart => exact ⟨(y168), (0), es_, H', ⟨Nat.le_refl _⟩, ⟨Kd.S_below HO170.out bgo_⟩, ⟨hb_⟩⟩
  case round =>
   clear H'
   obtain ⟨x3_1, x4_1, rfl, HA, HK1, HO_3, HB⟩ := hrel
   cases gk with
   | zero => exact absurd HA.out (by simp [laws_toInt64SS.l0])
   | succ k1 =>
    have H := HA.out
    clear HA
    simp only [laws_toInt64SS.l0] at H
    by_cases c6 : x4_1 < (l0.length : Int)
    ·rw [if_pos c6] at H
     have c6b0 := decide_eq_true c6
     clear c6
     obtain ⟨c7, H⟩ := itn_ H
     have c7b0 := decide_eq_true c7
     clear c7
     obtain ⟨t172, A8, H⟩ := bnd_ H
     obtain ⟨c9, H⟩ := itn_ H
     have c9b0 := decide_eq_true c9
     clear c9
     obtain ⟨y175, Ny175, H⟩ : ∃ y175 : List (List Int), Aside0 (y175 = (x3_1.set (x4_1 : Int).toNat t172)) ∧ (laws_toInt64SS.l0 k1 l0 y175 (wrap64 (x4_1 + 1))) = some r := ⟨_, ⟨rfl⟩, H⟩
     have H' := Aside0.mk H
     clear H
     have p171 : 0 ≤ (x4_1 : Int) := od_
     have q171 : x4_1 < (l0.length : Int) := od_
     obtain ⟨ad171, A171_0, c171_0, e171, hx171_0, hl171_0, hi171_0⟩ := at_L1 HR0.out x4_1 p171 q171
     cases e171
     replace hx171_0 := (HB.out.cell (World.block_lt_of_cell? w _ hx171_0)).trans hx171_0
     have HR171_0 := Aside0.mk hi171_0
     have HC171_0 := Aside0.mk hl171_0
     clear hi171_0 hl171_0
     replace p171 := eq_true p171
     replace q171 := eq_true q171
     go_wp2_with (first | ((with_reducible refine gate_callee (f := 20) rfl ?_); refine goesL_ (some 20) rfl rfl Try.func20 (by kernel_rfl) rfl #[.slice A171_0 (rd_L1 l0 x4_1).length c171_0] rfl arg_ ?_; (with_reducible refine (laws_toInt64S.calls k1 _ _ (rd_L1 l0 x4_1) t172 _ ?side1 ?side2 A8.out).mono ?_); (case side1 => exact Kd.C_below (Kd.C_below HR171_0.out HB.out) bgo_); (case side2 => exact HC171_0.out); rintro e w11 ⟨v173, rfl, ho0, hb⟩; refine ⟨_, rfl, ?_⟩; replace HO_3 := Aside0.mk (Kd.S_elder' (Kd.S_below HO_3.out bgo_) (Kd.R_base ho0) hb); have HO174 := Aside0.mk (Kd.R_lower ho0 (below_size hb_)); replace HB := Aside0.mk (below_step hb_ hb); (try clear hb); (try clear hb2); (try clear hk); (try clear hi); (try clear ho0); have p10 : 0 ≤ (x4_1 : Int) := od_; have q10 : (x4_1 : Int) < ((x3_1.length : Int) : Int) := od_; obtain ⟨go10, co10, eo10, gb10, gl10, cl10, HG10⟩ := Kd.S_form HO_3.out (by omega); (first | cases eo10 | (injection eo10 with ea_ en_ ec_; (first | subst ea_ | (injection ea_ with ea_; subst ea_)); subst ec_; clear en_)); have GB10 := Aside0.mk gb10; have GG10 := Aside0.mk HG10; clear gb10 gl10 HG10; obtain ⟨_, ce10, hcl10, hM10, hcc10, hfr10, _, _⟩ := Kd.S_elem HO_3.out [] (x4_1 : Int) p10 q10; obtain ⟨ve10_0, rfl, ge10_0⟩ := hM10; have hx10_0 := hcc10 0 _ rfl; have hf10_0 := hfr10 0; (try simp only [show ((Kd.slice 2 (Kd.int .i64))).sz = 1 from rfl, Nat.mul_one, Nat.add_zero] at hx10_0); (try simp only [show ((Kd.slice 2 (Kd.int .i64))).sz = 1 from rfl, Nat.mul_one, Nat.add_zero] at hf10_0); clear hcl10 hcc10 hfr10; (try clear hM10); replace p10 := eq_true p10; replace q10 := eq_true q10; obtain ⟨Ao14, co14, eo14⟩ := Kd.R_slice HO174.out; subst eo14; have n_ := Aside0.mk (Kd.S_mono (ok' := (fun k_ => some k_ ≠ (.slice Ao14 t172.length co14 : Value).ownBlock)) HO_3.out (fun k_ hk => hk.2)); clear HO_3; have HO_3 := n_; clear n_; have HX12 := Aside0.mk (show Kd.S (Kd.slice 2 (Kd.int .i64)) 26 w11 w.heap.size (fun k_ => ((fun _ => True)) k_ ∧ ¬ ((fun k_ => some k_ = (.slice Ao14 t172.length co14 : Value).ownBlock)) k_) (.slice (some ⟨go10, 0, none⟩) x3_1.length co10) x3_1 from (by (with_reducible repeat (first | apply Kd.S_alloc | apply Kd.S_drewN | apply Kd.S_drew)); exact Kd.S_mono HO_3.out (fun k_ hk => ⟨trivial, fun e_ => hk e_⟩))); obtain ⟨oki12, ce12, hcl12, hM12, hcc12, hfr12, hoki12, hH12⟩ := Kd.S_elem HX12.out [] (x4_1 : Int) (od_) (by have h_ : (x4_1 : Int) < ((x3_1.length : Int) : Int) := od_; first | exact h_ | (have e_ := (Kd.S_reads' HO_3.out).1; omega) | simpa using h_); obtain ⟨ve12_0, rfl, ge12_0⟩ := hM12; have HP12 := Kd.S_seg hH12 (od_) (by have h_ : (x4_1 : Int) < ((x3_1.length : Int) : Int) := od_; first | exact h_ | (have e_ := (Kd.S_reads' HO_3.out).1; omega) | simpa using h_) (seg := [.slice Ao14 t172.length co14]) (j := 0) (show 1 ≤ 1 from by decide) (x' := t172) (Kd.M_row (Kd.R_mono (Kd.R_tight rfl (Kd.R_mono (ok' := fun k_ => ((fun _ => True)) k_ ∧ k_ ≠ go10) (Kd.R_apart' (HO174.out) (Kd.S_typed HO_3.out) (by decide)) (fun k_ hk => ⟨trivial, fun e_ => (hk.2) (by rw [e_]; rfl)⟩))) (fun _ h_ => Or.inr (h_)))) (fun _ hk => hk) (fun k_ hk_ => ((Kd.R_mono (ok' := fun k_ => ((fun _ => True)) k_ ∧ k_ ≠ go10) (Kd.R_apart' (HO174.out) (Kd.S_typed HO_3.out) (by decide)) (fun k_ hk => ⟨trivial, fun e_ => (hk.2) (by rw [e_]; rfl)⟩))).1 k_ hk_.symm); have hx12_0 := hcc12 0 _ rfl; (try simp only [show ((Kd.slice 2 (Kd.int .i64))).sz = 1 from rfl, Nat.mul_one, Nat.add_zero] at hx12_0); have hf12_0 := hfr12 0; (try simp only [show ((Kd.slice 2 (Kd.int .i64))).sz = 1 from rfl, Nat.mul_one, Nat.add_zero] at hf12_0); clear hcl12 hcc12 hfr12; (try clear hM12); (try clear hoki12); (try clear hH12); (try simp only [show ((Kd.slice 2 (Kd.int .i64))).sz = 1 from rfl, Nat.mul_one, Nat.add_zero] at HP12)) | ((with_reducible refine gate_store (t := 26) (p := 21) rfl ?_); refine store_event (t := 26) (p := 21) (v := ?vo_w13) (w1 := (w11.setCell ⟨go10, (x4_1 : Int).toNat, none⟩ (.slice Ao14 t172.length co14))) ?hg ?ho ?hn ?hr ?_; (case ho => rfl); (case hg => rfl); (case hn => rfl); (case hr => first | (go_simp; done) | (go_simp; rfl)); intro w13 hw; have hg : w11.grownBy w13 (some go10) := (by rw [hw]; exact HP12.2); have hp_ : Kd.S (Kd.slice 2 (Kd.int .i64)) 26 w13 w.heap.size (fun _ => True) (.slice (some ⟨go10, 0, none⟩) x3_1.length co10) y175 := (by rw [hw, Ny175.out]; exact HP12.1); clear HP12; replace HO_3 := Aside0.mk (hp_); replace HB := Aside0.mk ((by rw [hw]; exact below_set (HB.out) GB10.out : Below w.heap.size w w13)); clear HO174; clear hg hw hp_))
     first | go_roundg k1 | (refine Handed.intro k1 ?measure ?_; rotate_left; go_step; (try simp only [add_plain]); (repeat apply Exists.intro); refine ⟨?rel, rfl⟩)
     case measure => have := HK1.out; omega
     case rel => exact ⟨(y175), (wrap64 (x4_1 + 1)), es_, H', ⟨by have := HK1.out; omega⟩, ⟨Kd.S_below HO_3.out bgo_⟩, ⟨hb_⟩⟩
    ·rw [if_neg c6] at H
     have c6b0 := decide_eq_false c6
     clear c6
     obtain rfl := Option.some.inj H
     go_wp2
     go_ret
     exact ⟨_, er_, (Kd.S_below HO_3.out bgo_), hb_⟩
 ·rw [if_neg c2] at H
  exact absurd H (by simp)

/-! ### laws_toGraph: function 12 -/
def laws_toGraph.f (k : Nat) (a0_0 : Int) (l0_1 : List (List Int)) : Option (Int × (List (List Int))) := (laws_toInt64SS.f k l0_1).bind fun t179 => (some (a0_0, t179))
set_option maxHeartbeats 8000000 in
set_option maxRecDepth 100000 in
theorem laws_toGraph.calls (k : Nat) (a0_0 : Int) (A0_1 : Option Addr) (c0_1 : Nat) (l0_1 : List (List Int)) (r1 : Int) (r2 : List (List Int)) (w : World) (hr0_1 : Kd.C (Kd.slice 2 (Kd.int .i64)) w A0_1 l0_1.length l0_1) (hc0_1 : l0_1.length ≤ c0_1) (h : laws_toGraph.f k a0_0 l0_1 = some (r1, r2)) :
  Calls Try.prog 12 #[.agg #[.int .i64 a0_0, .slice A0_1 l0_1.length c0_1]] w fun e w' => ∃ v1_ : Value, e = .returned (.agg #[.int .i64 r1, v1_]) ∧ Kd.S (Kd.slice 2 (Kd.int .i64)) 26 w' w.heap.size (fun _ => True) v1_ r2 ∧ Below w.heap.size w w' := by
 have hu24 := Try.underlying24
 have hu29 := Try.underlying29
 have HR0_1 := Aside0.mk hr0_1
 have HC0_1 := Aside0.mk hc0_1
 clear hr0_1 hc0_1
 have HB := Aside0.mk (Below.refl w.heap.size w)
 have H : ((laws_toInt64SS.f k l0_1).bind fun t179 => (some (a0_0, t179))) = some (r1, r2) := h
 clear h
 obtain ⟨t179, A2, H⟩ := bnd_ H
 simp only [Option.some.injEq, Prod.mk.injEq] at H
 obtain ⟨rfl, rfl⟩ := H
 go_enter Try.func12, Try.ntmps12
 go_wp2_with (first | ((with_reducible refine gate_dst (N := 1) rfl ?_); refine box_event ?hg (N := 1) ?hd (cs := #[.int .i64 a0_0, .slice A0_1 l0_1.length c0_1]) (t := 24) ?hr ?_; (case hd => rfl); (case hg => rfl); (case hr => first | (go_simp; done) | (go_simp; rfl)); intro gb176 hg w3 hbox hb; have BK176 := Aside0.mk (hbox); have GW176 := Aside0.mk ((by rw [hg]; exact (below_size hb_) : w.heap.size ≤ gb176)); have GE176 := Aside0.mk ((by rw [hg]; exact (below_size hb_) : w.heap.size ≤ gb176)); replace HB := Aside0.mk (below_step hb_ hb); clear hb hbox hg) | ((with_reducible refine gate_dst (N := 2) rfl ?_); refine box_event ?hg (N := 2) ?hd (cs := #[.int .i64 0, .slice none 0 0]) (t := 29) ?hr ?_; (case hd => rfl); (case hg => rfl); (case hr => first | (go_simp; done) | (go_simp; rfl)); intro gb177 hg w4 hbox hb; have BK177 := Aside0.mk (hbox); have GW177 := Aside0.mk ((by rw [hg]; exact (below_size hbs_) : w.heap.size ≤ gb177)); have GE177 := Aside0.mk ((by rw [hg]; exact (below_size hbs_) : w.heap.size ≤ gb177)); replace HB := Aside0.mk (below_step hbs_ hb); have NB176_177 := Aside0.mk ((by rw [hg]; exact Nat.ne_of_lt (blk_lt (g := gb176) (o := .cells #[.int .i64 a0_0, .slice A0_1 l0_1.length c0_1] 24 (0, 0)) (blk_below BK176.out bgo_)) : gb176 ≠ gb177)); have NB177_176 := Aside0.mk ((by rw [hg]; exact Nat.ne_of_gt (blk_lt (g := gb176) (o := .cells #[.int .i64 a0_0, .slice A0_1 l0_1.length c0_1] 24 (0, 0)) (blk_below BK176.out bgo_)) : gb177 ≠ gb176)); replace BK176 := Aside0.mk (blk_below (g := gb176) (o := .cells #[.int .i64 a0_0, .slice A0_1 l0_1.length c0_1] 24 (0, 0)) (blk_below BK176.out bgo_) hb); clear hb hbox hg) | ((with_reducible refine gate_dst (N := 3) rfl ?_); refine box_event ?hg (N := 3) ?hd (cs := #[.int .i64 0, .slice none 0 0]) (t := 29) ?hr ?_; (case hd => rfl); (case hg => rfl); (case hr => first | (go_simp; done) | (go_simp; rfl)); intro gb178 hg w5 hbox hb; have BK178 := Aside0.mk (hbox); have GW178 := Aside0.mk ((by rw [hg]; exact (below_size hbs_) : w.heap.size ≤ gb178)); have GE178 := Aside0.mk ((by rw [hg]; exact (below_size hbs_) : w.heap.size ≤ gb178)); replace HB := Aside0.mk (below_step hbs_ hb); have NB176_178 := Aside0.mk ((by rw [hg]; exact Nat.ne_of_lt (blk_lt (g := gb176) (o := .cells #[.int .i64 a0_0, .slice A0_1 l0_1.length c0_1] 24 (0, 0)) (blk_below BK176.out bgo_)) : gb176 ≠ gb178)); have NB178_176 := Aside0.mk ((by rw [hg]; exact Nat.ne_of_gt (blk_lt (g := gb176) (o := .cells #[.int .i64 a0_0, .slice A0_1 l0_1.length c0_1] 24 (0, 0)) (blk_below BK176.out bgo_)) : gb178 ≠ gb176)); replace BK176 := Aside0.mk (blk_below (g := gb176) (o := .cells #[.int .i64 a0_0, .slice A0_1 l0_1.length c0_1] 24 (0, 0)) (blk_below BK176.out bgo_) hb); have NB177_178 := Aside0.mk ((by rw [hg]; exact Nat.ne_of_lt (blk_lt (g := gb177) (o := .cells #[.int .i64 0, .slice none 0 0] 29 (0, 0)) (blk_below BK177.out bgo_)) : gb177 ≠ gb178)); have NB178_177 := Aside0.mk ((by rw [hg]; exact Nat.ne_of_gt (blk_lt (g := gb177) (o := .cells #[.int .i64 0, .slice none 0 0] 29 (0, 0)) (blk_below BK177.out bgo_)) : gb178 ≠ gb177)); replace BK177 := Aside0.mk (blk_below (g := gb177) (o := .cells #[.int .i64 0, .slice none 0 0] 29 (0, 0)) (blk_below BK177.out bgo_) hb); clear hb hbox hg; have hnb6 := NB176_177.out; have hnc6 := NB177_176.out; have hnb7 := NB176_178.out; have hnc7 := NB178_176.out; have hcz8_0 : w5.cell? ⟨gb176, 0, none⟩ = some (.int .i64 a0_0) := (blk_cell BK176.out 0).trans rfl; have hcz8_1 : w5.cell? ⟨gb176, 1, none⟩ = some (.slice A0_1 l0_1.length c0_1) := (blk_cell BK176.out 1).trans rfl; have hfz8_0 := blk_frozen BK176.out 0; have hfz8_1 := blk_frozen BK176.out 1; have hnb9 := NB178_177.out; have hnc9 := NB177_178.out; have hcz10_0 : w5.cell? ⟨gb178, 0, none⟩ = some (.int .i64 0) := (blk_cell BK178.out 0).trans rfl; have hcz10_1 : w5.cell? ⟨gb178, 1, none⟩ = some (.slice none 0 0) := (blk_cell BK178.out 1).trans rfl; have hfz10_0 := blk_frozen BK178.out 0; have hfz10_1 := blk_frozen BK178.out 1) | ((with_reducible refine gate_callee (f := 45) rfl ?_); refine goesL_ (some 9) rfl rfl Try.func45 (by kernel_rfl) rfl #[.slice A0_1 l0_1.length c0_1] rfl arg_ ?_; (with_reducible refine (laws_toInt64SS.calls k _ _ l0_1 t179 _ ?side1 ?side2 A2.out).mono ?_); (case side1 => exact Kd.C_below HR0_1.out hbs_); (case side2 => exact HC0_1.out); rintro e w11 ⟨v180, rfl, ho0, hb⟩; refine ⟨_, rfl, ?_⟩; have HO181 := Aside0.mk (Kd.S_lower ho0 (below_size hbs_)); replace BK176 := Aside0.mk (blk_below (g := gb176) (o := .cells #[.int .i64 a0_0, .slice A0_1 l0_1.length c0_1] 24 (0, 0)) (by (with_reducible repeat (first | refine blk_drewN ?_ _ | refine blk_drew ?_ | refine blk_alloc ?_ _)); refine blk_far ?_ NB176_178.out _; (with_reducible repeat (first | refine blk_drewN ?_ _ | refine blk_drew ?_ | refine blk_alloc ?_ _)); exact BK176.out) hb); replace BK177 := Aside0.mk (blk_below (g := gb177) (o := .cells #[.int .i64 0, .slice none 0 0] 29 (0, 0)) (by (with_reducible repeat (first | refine blk_drewN ?_ _ | refine blk_drew ?_ | refine blk_alloc ?_ _)); refine blk_far ?_ NB177_178.out _; (with_reducible repeat (first | refine blk_drewN ?_ _ | refine blk_drew ?_ | refine blk_alloc ?_ _)); exact BK177.out) hb); replace BK178 := Aside0.mk (blk_below (g := gb178) (o := .cells #[.int .i64 a0_0, .slice none 0 0] 29 (0, 0)) (by (with_reducible repeat (first | refine blk_drewN ?_ _ | refine blk_drew ?_ | refine blk_alloc ?_ _)); refine blk_put (cs := #[.int .i64 0, .slice none 0 0]) ?_ 0 _ rfl; (with_reducible repeat (first | refine blk_drewN ?_ _ | refine blk_drew ?_ | refine blk_alloc ?_ _)); exact BK178.out) hb); replace HB := Aside0.mk (below_step hbs_ hb); (try clear hb); (try clear hb2); (try clear hk); (try clear hi); (try clear ho0); obtain ⟨Ao12, co12, eo12⟩ := Kd.S_slice HO181.out; subst eo12; have hcz13_0 : w11.cell? ⟨gb178, 0, none⟩ = some (.int .i64 a0_0) := (blk_cell BK178.out 0).trans rfl; have hcz13_1 : w11.cell? ⟨gb178, 1, none⟩ = some (.slice none 0 0) := (blk_cell BK178.out 1).trans rfl; have hfz13_0 := blk_frozen BK178.out 0; have hfz13_1 := blk_frozen BK178.out 1; have hcz14_0 : w11.cell? ⟨gb177, 0, none⟩ = some (.int .i64 0) := (blk_cell BK177.out 0).trans rfl; have hcz14_1 : w11.cell? ⟨gb177, 1, none⟩ = some (.slice none 0 0) := (blk_cell BK177.out 1).trans rfl; have hfz14_0 := blk_frozen BK177.out 0; have hfz14_1 := blk_frozen BK177.out 1))
 refine bodyPost_ret (results_cell_row rfl _ _ gb177 29 #[.int .i64 a0_0, .slice Ao12 t179.length co12] (0, 0) _ rfl (by (with_reducible repeat (first | refine blk_drewN ?_ _ | refine blk_drew ?_ | refine blk_alloc ?_ _)); refine blk_put (cs := #[.int .i64 a0_0, .slice none 0 0]) ?_ 1 _ rfl; (with_reducible repeat (first | refine blk_drewN ?_ _ | refine blk_drew ?_ | refine blk_alloc ?_ _)); refine blk_put (cs := #[.int .i64 0, .slice none 0 0]) ?_ 0 _ rfl; (with_reducible repeat (first | refine blk_drewN ?_ _ | refine blk_drew ?_ | refine blk_alloc ?_ _)); refine blk_far ?_ NB177_178.out _; (with_reducible repeat (first | refine blk_drewN ?_ _ | refine blk_drew ?_ | refine blk_alloc ?_ _)); exact BK177.out) Try.underlying29 rfl (by kernel_rfl)) rfl ?_
 exact ⟨_, er_, by (with_reducible repeat (first | apply Kd.S_alloc | apply Kd.S_drewN | apply Kd.S_drew)); exact Kd.S_mono (Kd.S_far (p := ⟨gb177, 1, none⟩) (Kd.S_far (p := ⟨gb177, 0, none⟩) (Kd.S_far (p := ⟨gb178, 1, none⟩) (Kd.S_types (Kd.S_types HO181.out BK178.out (by decide)) BK177.out (by decide)) (fun _ hk => hk.1.2) (.slice Ao12 t179.length co12)) (fun _ hk => hk.2) (.int .i64 a0_0)) (fun _ hk => hk.2) (.slice Ao12 t179.length co12)) (fun _ hk => trivial), hbs_⟩

/-! ### laws_toCover: function 35 -/
def laws_toCover.f (k : Nat) (a0_0 : Int) (l0_1 : List (List Int)) (a0_2 : Int) (l0_3 : List (List Int)) : Option (Int × (List (List Int)) × Int × (List (List Int))) := (laws_toGraph.f k a0_0 l0_1).bind fun bt185 => ((laws_toInt64SS.f k l0_3).bind fun t189 => (some (bt185.1, bt185.2, a0_2, t189)))
set_option maxHeartbeats 8000000 in
set_option maxRecDepth 100000 in
theorem laws_toCover.calls (k : Nat) (a0_0 : Int) (A0_1 : Option Addr) (c0_1 : Nat) (l0_1 : List (List Int)) (a0_2 : Int) (A0_3 : Option Addr) (c0_3 : Nat) (l0_3 : List (List Int)) (r1 : Int) (r2 : List (List Int)) (r3 : Int) (r4 : List (List Int)) (w : World) (hr0_1 : Kd.C (Kd.slice 2 (Kd.int .i64)) w A0_1 l0_1.length l0_1) (hc0_1 : l0_1.length ≤ c0_1) (hr0_3 : Kd.C (Kd.slice 2 (Kd.int .i64)) w A0_3 l0_3.length l0_3) (hc0_3 : l0_3.length ≤ c0_3) (h : laws_toCover.f k a0_0 l0_1 a0_2 l0_3 = some (r1, r2, r3, r4)) :
  Calls Try.prog 35 #[.agg #[.int .i64 a0_0, .slice A0_1 l0_1.length c0_1, .int .i64 a0_2, .slice A0_3 l0_3.length c0_3]] w fun e w' => ∃ v1_ v3_ : Value, e = .returned (.agg #[.int .i64 r1, v1_, .int .i64 r3, v3_]) ∧ (∃ bm_ : Nat, w.heap.size ≤ bm_ ∧ bm_ ≤ w'.heap.size ∧ Kd.S (Kd.slice 2 (Kd.int .i64)) 26 w' w.heap.size (fun k_ => k_ < bm_) v1_ r2 ∧ Kd.S (Kd.slice 2 (Kd.int .i64)) 26 w' w.heap.size (fun k_ => bm_ ≤ k_) v3_ r4) ∧ Below w.heap.size w w' := by
 have hu48 := Try.underlying48
 have hu52 := Try.underlying52
 have hu24 := Try.underlying24
 have hu29 := Try.underlying29
 have HR0_1 := Aside0.mk hr0_1
 have HC0_1 := Aside0.mk hc0_1
 clear hr0_1 hc0_1
 have HR0_3 := Aside0.mk hr0_3
 have HC0_3 := Aside0.mk hc0_3
 clear hr0_3 hc0_3
 have HB := Aside0.mk (Below.refl w.heap.size w)
 have H : ((laws_toGraph.f k a0_0 l0_1).bind fun bt185 => ((laws_toInt64SS.f k l0_3).bind fun t189 => (some (bt185.1, bt185.2, a0_2, t189)))) = some (r1, r2, r3, r4) := h
 clear h
 obtain ⟨⟨t185, t186⟩, A2, H⟩ := bnd_ H
 dsimp only at H
 obtain ⟨t189, A3, H⟩ := bnd_ H
 simp only [Option.some.injEq, Prod.mk.injEq] at H
 obtain ⟨rfl, rfl, rfl, rfl⟩ := H
 go_enter Try.func35, Try.ntmps35
 go_wp2_with (first | ((with_reducible refine gate_dst (N := 1) rfl ?_); refine box_event ?hg (N := 1) ?hd (cs := #[.int .i64 a0_0, .slice A0_1 l0_1.length c0_1, .int .i64 a0_2, .slice A0_3 l0_3.length c0_3]) (t := 48) ?hr ?_; (case hd => rfl); (case hg => rfl); (case hr => first | (go_simp; done) | (go_simp; rfl)); intro gb182 hg w4 hbox hb; have BK182 := Aside0.mk (hbox); have GW182 := Aside0.mk ((by rw [hg]; exact (below_size hb_) : w.heap.size ≤ gb182)); have GE182 := Aside0.mk ((by rw [hg]; exact (below_size hb_) : w.heap.size ≤ gb182)); replace HB := Aside0.mk (below_step hb_ hb); clear hb hbox hg) | ((with_reducible refine gate_dst (N := 2) rfl ?_); refine box_event ?hg (N := 2) ?hd (cs := #[.int .i64 0, .slice none 0 0, .int .i64 0, .slice none 0 0]) (t := 52) ?hr ?_; (case hd => rfl); (case hg => rfl); (case hr => first | (go_simp; done) | (go_simp; rfl)); intro gb183 hg w5 hbox hb; have BK183 := Aside0.mk (hbox); have GW183 := Aside0.mk ((by rw [hg]; exact (below_size hbs_) : w.heap.size ≤ gb183)); have GE183 := Aside0.mk ((by rw [hg]; exact (below_size hbs_) : w.heap.size ≤ gb183)); replace HB := Aside0.mk (below_step hbs_ hb); have NB182_183 := Aside0.mk ((by rw [hg]; exact Nat.ne_of_lt (blk_lt (g := gb182) (o := .cells #[.int .i64 a0_0, .slice A0_1 l0_1.length c0_1, .int .i64 a0_2, .slice A0_3 l0_3.length c0_3] 48 (0, 0)) (blk_below BK182.out bgo_)) : gb182 ≠ gb183)); have NB183_182 := Aside0.mk ((by rw [hg]; exact Nat.ne_of_gt (blk_lt (g := gb182) (o := .cells #[.int .i64 a0_0, .slice A0_1 l0_1.length c0_1, .int .i64 a0_2, .slice A0_3 l0_3.length c0_3] 48 (0, 0)) (blk_below BK182.out bgo_)) : gb183 ≠ gb182)); replace BK182 := Aside0.mk (blk_below (g := gb182) (o := .cells #[.int .i64 a0_0, .slice A0_1 l0_1.length c0_1, .int .i64 a0_2, .slice A0_3 l0_3.length c0_3] 48 (0, 0)) (blk_below BK182.out bgo_) hb); clear hb hbox hg) | ((with_reducible refine gate_dst (N := 3) rfl ?_); refine box_event ?hg (N := 3) ?hd (cs := #[.int .i64 0, .slice none 0 0, .int .i64 0, .slice none 0 0]) (t := 52) ?hr ?_; (case hd => rfl); (case hg => rfl); (case hr => first | (go_simp; done) | (go_simp; rfl)); intro gb184 hg w6 hbox hb; have BK184 := Aside0.mk (hbox); have GW184 := Aside0.mk ((by rw [hg]; exact (below_size hbs_) : w.heap.size ≤ gb184)); have GE184 := Aside0.mk ((by rw [hg]; exact (below_size hbs_) : w.heap.size ≤ gb184)); replace HB := Aside0.mk (below_step hbs_ hb); have NB182_184 := Aside0.mk ((by rw [hg]; exact Nat.ne_of_lt (blk_lt (g := gb182) (o := .cells #[.int .i64 a0_0, .slice A0_1 l0_1.length c0_1, .int .i64 a0_2, .slice A0_3 l0_3.length c0_3] 48 (0, 0)) (blk_below BK182.out bgo_)) : gb182 ≠ gb184)); have NB184_182 := Aside0.mk ((by rw [hg]; exact Nat.ne_of_gt (blk_lt (g := gb182) (o := .cells #[.int .i64 a0_0, .slice A0_1 l0_1.length c0_1, .int .i64 a0_2, .slice A0_3 l0_3.length c0_3] 48 (0, 0)) (blk_below BK182.out bgo_)) : gb184 ≠ gb182)); replace BK182 := Aside0.mk (blk_below (g := gb182) (o := .cells #[.int .i64 a0_0, .slice A0_1 l0_1.length c0_1, .int .i64 a0_2, .slice A0_3 l0_3.length c0_3] 48 (0, 0)) (blk_below BK182.out bgo_) hb); have NB183_184 := Aside0.mk ((by rw [hg]; exact Nat.ne_of_lt (blk_lt (g := gb183) (o := .cells #[.int .i64 0, .slice none 0 0, .int .i64 0, .slice none 0 0] 52 (0, 0)) (blk_below BK183.out bgo_)) : gb183 ≠ gb184)); have NB184_183 := Aside0.mk ((by rw [hg]; exact Nat.ne_of_gt (blk_lt (g := gb183) (o := .cells #[.int .i64 0, .slice none 0 0, .int .i64 0, .slice none 0 0] 52 (0, 0)) (blk_below BK183.out bgo_)) : gb184 ≠ gb183)); replace BK183 := Aside0.mk (blk_below (g := gb183) (o := .cells #[.int .i64 0, .slice none 0 0, .int .i64 0, .slice none 0 0] 52 (0, 0)) (blk_below BK183.out bgo_) hb); clear hb hbox hg; have hnb7 := NB182_183.out; have hnc7 := NB183_182.out; have hnb8 := NB182_184.out; have hnc8 := NB184_182.out; have hcz9_0 : w6.cell? ⟨gb182, 0, none⟩ = some (.int .i64 a0_0) := (blk_cell BK182.out 0).trans rfl; have hcz9_1 : w6.cell? ⟨gb182, 1, none⟩ = some (.slice A0_1 l0_1.length c0_1) := (blk_cell BK182.out 1).trans rfl; have hcz9_2 : w6.cell? ⟨gb182, 2, none⟩ = some (.int .i64 a0_2) := (blk_cell BK182.out 2).trans rfl; have hcz9_3 : w6.cell? ⟨gb182, 3, none⟩ = some (.slice A0_3 l0_3.length c0_3) := (blk_cell BK182.out 3).trans rfl; have hfz9_0 := blk_frozen BK182.out 0; have hfz9_1 := blk_frozen BK182.out 1; have hfz9_2 := blk_frozen BK182.out 2; have hfz9_3 := blk_frozen BK182.out 3) | ((with_reducible refine gate_callee (f := 12) rfl ?_); refine goesL_ (some 6) rfl rfl Try.func12 (by kernel_rfl) rfl #[.agg #[.int .i64 a0_0, .slice A0_1 l0_1.length c0_1]] rfl arg_ ?_; (with_reducible refine (laws_toGraph.calls k a0_0 _ _ l0_1 t185 t186 _ ?side1 ?side2 A2.out).mono ?_); (case side1 => exact Kd.C_below (Kd.C_below HR0_1.out HB.out) bgo_); (case side2 => exact HC0_1.out); rintro e w10 ⟨v187, rfl, ho0, hb⟩; refine ⟨_, rfl, ?_⟩; have n0_ := Aside0.mk (Kd.S_mono (Kd.S_bound (Kd.S_lower ho0 (below_size hbs_))) (fun k_ hk_ => (hk_.2.2.1 : k_ < w10.heap.size))); have n1_ := Aside0.mk (blk_below (g := gb182) (o := .cells #[.int .i64 a0_0, .slice A0_1 l0_1.length c0_1, .int .i64 a0_2, .slice A0_3 l0_3.length c0_3] 48 (0, 0)) (blk_below BK182.out bgo_) hb); have n2_ := Aside0.mk (blk_below (g := gb183) (o := .cells #[.int .i64 0, .slice none 0 0, .int .i64 0, .slice none 0 0] 52 (0, 0)) (blk_below BK183.out bgo_) hb); have n3_ := Aside0.mk (blk_below (g := gb184) (o := .cells #[.int .i64 0, .slice none 0 0, .int .i64 0, .slice none 0 0] 52 (0, 0)) (blk_below BK184.out bgo_) hb); have n4_ := Aside0.mk (below_step hbs_ hb); clear BK182; clear BK183; clear BK184; clear HB; have HO188 := n0_; have BK182 := n1_; have BK183 := n2_; have BK184 := n3_; have HB := n4_; have ZQ1 := Aside0.mk HB.out.size; clear n0_ n1_ n2_ n3_ n4_; (try clear hb); (try clear hb2); (try clear hk); (try clear hi); (try clear ho0); have hnb11 := NB184_183.out; have hnc11 := NB183_184.out; have hcz12_0 : w10.cell? ⟨gb184, 0, none⟩ = some (.int .i64 0) := (blk_cell BK184.out 0).trans rfl; have hcz12_1 : w10.cell? ⟨gb184, 1, none⟩ = some (.slice none 0 0) := (blk_cell BK184.out 1).trans rfl; have hcz12_2 : w10.cell? ⟨gb184, 2, none⟩ = some (.int .i64 0) := (blk_cell BK184.out 2).trans rfl; have hcz12_3 : w10.cell? ⟨gb184, 3, none⟩ = some (.slice none 0 0) := (blk_cell BK184.out 3).trans rfl; have hfz12_0 := blk_frozen BK184.out 0; have hfz12_1 := blk_frozen BK184.out 1; have hfz12_2 := blk_frozen BK184.out 2; have hfz12_3 := blk_frozen BK184.out 3; obtain ⟨Ao13, co13, eo13⟩ := Kd.S_slice HO188.out; subst eo13; have hcz14_0 : w10.cell? ⟨gb182, 0, none⟩ = some (.int .i64 a0_0) := (blk_cell BK182.out 0).trans rfl; have hcz14_1 : w10.cell? ⟨gb182, 1, none⟩ = some (.slice A0_1 l0_1.length c0_1) := (blk_cell BK182.out 1).trans rfl; have hcz14_2 : w10.cell? ⟨gb182, 2, none⟩ = some (.int .i64 a0_2) := (blk_cell BK182.out 2).trans rfl; have hcz14_3 : w10.cell? ⟨gb182, 3, none⟩ = some (.slice A0_3 l0_3.length c0_3) := (blk_cell BK182.out 3).trans rfl; have hfz14_0 := blk_frozen BK182.out 0; have hfz14_1 := blk_frozen BK182.out 1; have hfz14_2 := blk_frozen BK182.out 2; have hfz14_3 := blk_frozen BK182.out 3) | ((with_reducible refine gate_callee (f := 45) rfl ?_); refine goesL_ (some 13) rfl rfl Try.func45 (by kernel_rfl) rfl #[.slice A0_3 l0_3.length c0_3] rfl arg_ ?_; (with_reducible refine (laws_toInt64SS.calls k _ _ l0_3 t189 _ ?side1 ?side2 A3.out).mono ?_); (case side1 => exact Kd.C_below HR0_3.out hbs_); (case side2 => exact HC0_3.out); rintro e w15 ⟨v190, rfl, ho0, hb⟩; refine ⟨_, rfl, ?_⟩; have ZQ2 := Aside0.mk (Nat.le_trans (by first | exact Nat.le_refl _ | (simp [World.setCell]; done) | (simp; done)) hb.size : w10.heap.size ≤ w15.heap.size); replace HO188 := Aside0.mk (Kd.S_elder' (by (with_reducible repeat (first | apply Kd.S_alloc | apply Kd.S_drewN | apply Kd.S_drew)); exact (Kd.S_mono (Kd.S_far (p := ⟨gb184, 2, none⟩) (Kd.S_far (p := ⟨gb184, 1, none⟩) (Kd.S_far (p := ⟨gb184, 0, none⟩) (Kd.S_types HO188.out BK184.out (by decide)) (fun _ hk => hk.2) (.int .i64 t185)) (fun _ hk => hk.2) (.slice Ao13 t186.length co13)) (fun _ hk => hk.2) (.int .i64 a0_2)) (fun _ h_ => h_.1))) (Kd.S_base ho0) hb); have HO191 := Aside0.mk (Kd.S_lower (Kd.S_mono (Kd.S_bound ho0) (fun k_ hk_ => (Nat.le_trans (by first | exact Nat.le_refl _ | (simp [World.setCell]; done) | (simp; done)) hk_.2.1 : w10.heap.size ≤ k_))) (below_size hbs_)); replace BK182 := Aside0.mk (blk_below (g := gb182) (o := .cells #[.int .i64 a0_0, .slice A0_1 l0_1.length c0_1, .int .i64 a0_2, .slice A0_3 l0_3.length c0_3] 48 (0, 0)) (by (with_reducible repeat (first | refine blk_drewN ?_ _ | refine blk_drew ?_ | refine blk_alloc ?_ _)); refine blk_far ?_ NB182_184.out _; (with_reducible repeat (first | refine blk_drewN ?_ _ | refine blk_drew ?_ | refine blk_alloc ?_ _)); refine blk_far ?_ NB182_184.out _; (with_reducible repeat (first | refine blk_drewN ?_ _ | refine blk_drew ?_ | refine blk_alloc ?_ _)); refine blk_far ?_ NB182_184.out _; (with_reducible repeat (first | refine blk_drewN ?_ _ | refine blk_drew ?_ | refine blk_alloc ?_ _)); exact BK182.out) hb); replace BK183 := Aside0.mk (blk_below (g := gb183) (o := .cells #[.int .i64 0, .slice none 0 0, .int .i64 0, .slice none 0 0] 52 (0, 0)) (by (with_reducible repeat (first | refine blk_drewN ?_ _ | refine blk_drew ?_ | refine blk_alloc ?_ _)); refine blk_far ?_ NB183_184.out _; (with_reducible repeat (first | refine blk_drewN ?_ _ | refine blk_drew ?_ | refine blk_alloc ?_ _)); refine blk_far ?_ NB183_184.out _; (with_reducible repeat (first | refine blk_drewN ?_ _ | refine blk_drew ?_ | refine blk_alloc ?_ _)); refine blk_far ?_ NB183_184.out _; (with_reducible repeat (first | refine blk_drewN ?_ _ | refine blk_drew ?_ | refine blk_alloc ?_ _)); exact BK183.out) hb); replace BK184 := Aside0.mk (blk_below (g := gb184) (o := .cells #[.int .i64 t185, .slice Ao13 t186.length co13, .int .i64 a0_2, .slice none 0 0] 52 (0, 0)) (by (with_reducible repeat (first | refine blk_drewN ?_ _ | refine blk_drew ?_ | refine blk_alloc ?_ _)); refine blk_put (cs := #[.int .i64 t185, .slice Ao13 t186.length co13, .int .i64 0, .slice none 0 0]) ?_ 2 _ rfl; (with_reducible repeat (first | refine blk_drewN ?_ _ | refine blk_drew ?_ | refine blk_alloc ?_ _)); refine blk_put (cs := #[.int .i64 t185, .slice none 0 0, .int .i64 0, .slice none 0 0]) ?_ 1 _ rfl; (with_reducible repeat (first | refine blk_drewN ?_ _ | refine blk_drew ?_ | refine blk_alloc ?_ _)); refine blk_put (cs := #[.int .i64 0, .slice none 0 0, .int .i64 0, .slice none 0 0]) ?_ 0 _ rfl; (with_reducible repeat (first | refine blk_drewN ?_ _ | refine blk_drew ?_ | refine blk_alloc ?_ _)); exact BK184.out) hb); replace HB := Aside0.mk (below_step hbs_ hb); (try clear hb); (try clear hb2); (try clear hk); (try clear hi); (try clear ho0); obtain ⟨Ao16, co16, eo16⟩ := Kd.S_slice HO191.out; subst eo16; have hcz17_0 : w15.cell? ⟨gb184, 0, none⟩ = some (.int .i64 t185) := (blk_cell BK184.out 0).trans rfl; have hcz17_1 : w15.cell? ⟨gb184, 1, none⟩ = some (.slice Ao13 t186.length co13) := (blk_cell BK184.out 1).trans rfl; have hcz17_2 : w15.cell? ⟨gb184, 2, none⟩ = some (.int .i64 a0_2) := (blk_cell BK184.out 2).trans rfl; have hcz17_3 : w15.cell? ⟨gb184, 3, none⟩ = some (.slice none 0 0) := (blk_cell BK184.out 3).trans rfl; have hfz17_0 := blk_frozen BK184.out 0; have hfz17_1 := blk_frozen BK184.out 1; have hfz17_2 := blk_frozen BK184.out 2; have hfz17_3 := blk_frozen BK184.out 3; have hcz18_0 : w15.cell? ⟨gb183, 0, none⟩ = some (.int .i64 0) := (blk_cell BK183.out 0).trans rfl; have hcz18_1 : w15.cell? ⟨gb183, 1, none⟩ = some (.slice none 0 0) := (blk_cell BK183.out 1).trans rfl; have hcz18_2 : w15.cell? ⟨gb183, 2, none⟩ = some (.int .i64 0) := (blk_cell BK183.out 2).trans rfl; have hcz18_3 : w15.cell? ⟨gb183, 3, none⟩ = some (.slice none 0 0) := (blk_cell BK183.out 3).trans rfl; have hfz18_0 := blk_frozen BK183.out 0; have hfz18_1 := blk_frozen BK183.out 1; have hfz18_2 := blk_frozen BK183.out 2; have hfz18_3 := blk_frozen BK183.out 3))
 refine bodyPost_ret (results_cell_row rfl _ _ gb183 52 #[.int .i64 t185, .slice Ao13 t186.length co13, .int .i64 a0_2, .slice Ao16 t189.length co16] (0, 0) _ rfl (by (with_reducible repeat (first | refine blk_drewN ?_ _ | refine blk_drew ?_ | refine blk_alloc ?_ _)); refine blk_put (cs := #[.int .i64 t185, .slice Ao13 t186.length co13, .int .i64 a0_2, .slice none 0 0]) ?_ 3 _ rfl; (with_reducible repeat (first | refine blk_drewN ?_ _ | refine blk_drew ?_ | refine blk_alloc ?_ _)); refine blk_put (cs := #[.int .i64 t185, .slice Ao13 t186.length co13, .int .i64 0, .slice none 0 0]) ?_ 2 _ rfl; (with_reducible repeat (first | refine blk_drewN ?_ _ | refine blk_drew ?_ | refine blk_alloc ?_ _)); refine blk_put (cs := #[.int .i64 t185, .slice none 0 0, .int .i64 0, .slice none 0 0]) ?_ 1 _ rfl; (with_reducible repeat (first | refine blk_drewN ?_ _ | refine blk_drew ?_ | refine blk_alloc ?_ _)); refine blk_put (cs := #[.int .i64 0, .slice none 0 0, .int .i64 0, .slice none 0 0]) ?_ 0 _ rfl; (with_reducible repeat (first | refine blk_drewN ?_ _ | refine blk_drew ?_ | refine blk_alloc ?_ _)); refine blk_far ?_ NB183_184.out _; (with_reducible repeat (first | refine blk_drewN ?_ _ | refine blk_drew ?_ | refine blk_alloc ?_ _)); exact BK183.out) Try.underlying52 rfl (by kernel_rfl)) rfl ?_
 exact ⟨_, _, er_, ⟨w10.heap.size, ZQ1.out, Nat.le_trans ZQ2.out (by first | exact Nat.le_refl _ | (simp [World.setCell]; done) | (simp; done)), by (with_reducible repeat (first | apply Kd.S_alloc | apply Kd.S_drewN | apply Kd.S_drew)); exact Kd.S_mono (Kd.S_far (p := ⟨gb183, 3, none⟩) (Kd.S_far (p := ⟨gb183, 2, none⟩) (Kd.S_far (p := ⟨gb183, 1, none⟩) (Kd.S_far (p := ⟨gb183, 0, none⟩) (Kd.S_far (p := ⟨gb184, 3, none⟩) (Kd.S_types (Kd.S_types HO188.out BK184.out (by decide)) BK183.out (by decide)) (fun _ hk => hk.1.2) (.slice Ao16 t189.length co16)) (fun _ hk => hk.2) (.int .i64 t185)) (fun _ hk => hk.2) (.slice Ao13 t186.length co13)) (fun _ hk => hk.2) (.int .i64 a0_2)) (fun _ hk => hk.2) (.slice Ao16 t189.length co16)) (fun _ hk => hk.1.1.1), by (with_reducible repeat (first | apply Kd.S_alloc | apply Kd.S_drewN | apply Kd.S_drew)); exact Kd.S_mono (Kd.S_far (p := ⟨gb183, 3, none⟩) (Kd.S_far (p := ⟨gb183, 2, none⟩) (Kd.S_far (p := ⟨gb183, 1, none⟩) (Kd.S_far (p := ⟨gb183, 0, none⟩) (Kd.S_far (p := ⟨gb184, 3, none⟩) (Kd.S_types (Kd.S_types HO191.out BK184.out (by decide)) BK183.out (by decide)) (fun _ hk => hk.1.2) (.slice Ao16 t189.length co16)) (fun _ hk => hk.2) (.int .i64 t185)) (fun _ hk => hk.2) (.slice Ao13 t186.length co13)) (fun _ hk => hk.2) (.int .i64 a0_2)) (fun _ hk => hk.2) (.slice Ao16 t189.length co16)) (fun _ hk => hk.1.1)⟩, hbs_⟩

/-! ### impl_within: function 58 -/
def impl_within.f (a0 : Int) (a1 : Int) (a2 : Int) : Option (Bool) := if a0 ≥ a1 then (some (decide (a0 ≤ a2))) else (some false)
set_option maxHeartbeats 8000000 in
set_option maxRecDepth 100000 in
theorem impl_within.calls (a0 : Int) (a1 : Int) (a2 : Int) (r : Bool) (w : World) (h : impl_within.f a0 a1 a2 = some r) :
  Calls Try.prog 58 #[.int .i64 a0, .int .i64 a1, .int .i64 a2] w fun e w' => e = .returned (.bool r) ∧ Drawn0 w w' := by
 have H : (if a0 ≥ a1 then (some (decide (a0 ≤ a2))) else (some false)) = some r := h
 clear h
 by_cases c4 : a0 ≥ a1
 ·rw [if_pos c4] at H
  have c4b0 := decide_eq_true c4
  clear c4
  obtain rfl := Option.some.inj H
  go_enter Try.func58, Try.ntmps58
  go_wp2
  go_ret
  exact ⟨es_, by repeat (first | exact Drawn0.refl _ | apply Drawn0.step)⟩
 ·rw [if_neg c4] at H
  have c4b0 := decide_eq_false c4
  clear c4
  obtain rfl := Option.some.inj H
  go_enter Try.func58, Try.ntmps58
  go_wp2
  go_ret
  exact ⟨es_, by repeat (first | exact Drawn0.refl _ | apply Drawn0.step)⟩

/-! ### impl_Graph_ends: function 71 -/
def impl_Graph_ends.f (a0_0 : Int) (l0_1 : List (List Int)) (a1 : Int) : Option (Int × Int) := if 0 ≤ (wrap64 (Int.tdiv a1 2)) then (if (wrap64 (Int.tdiv a1 2)) < (l0_1.length : Int) then (if 0 ≤ (Int.tmod a1 2) then (if (Int.tmod a1 2) < ((rd_L1 l0_1 (wrap64 (Int.tdiv a1 2))).length : Int) then (if 0 ≤ (wrap64 (1 - (Int.tmod a1 2))) then (if (wrap64 (1 - (Int.tmod a1 2))) < ((rd_L1 l0_1 (wrap64 (Int.tdiv a1 2))).length : Int) then (some (rd (rd_L1 l0_1 (wrap64 (Int.tdiv a1 2))) (Int.tmod a1 2), rd (rd_L1 l0_1 (wrap64 (Int.tdiv a1 2))) (wrap64 (1 - (Int.tmod a1 2))))) else (none)) else (none)) else (none)) else (none)) else (none)) else (none)
set_option maxHeartbeats 8000000 in
set_option maxRecDepth 100000 in
theorem impl_Graph_ends.calls (a0_0 : Int) (A0_1 : Option Addr) (c0_1 : Nat) (l0_1 : List (List Int)) (a1 : Int) (r1 : Int) (r2 : Int) (w : World) (hr0_1 : Kd.C (Kd.slice 2 (Kd.int .i64)) w A0_1 l0_1.length l0_1) (hc0_1 : l0_1.length ≤ c0_1) (h : impl_Graph_ends.f a0_0 l0_1 a1 = some (r1, r2)) :
  Calls Try.prog 71 #[.agg #[.int .i64 a0_0, .slice A0_1 l0_1.length c0_1], .int .i64 a1] w fun e w' => e = .returned (.tuple #[.int .i64 r1, .int .i64 r2]) ∧ Below w.heap.size w w' := by
 have hu29 := Try.underlying29
 have HR0_1 := Aside0.mk hr0_1
 have HC0_1 := Aside0.mk hc0_1
 clear hr0_1 hc0_1
 have HB := Aside0.mk (Below.refl w.heap.size w)
 have H : (if 0 ≤ (wrap64 (Int.tdiv a1 2)) then (if (wrap64 (Int.tdiv a1 2)) < (l0_1.length : Int) then (if 0 ≤ (Int.tmod a1 2) then (if (Int.tmod a1 2) < ((rd_L1 l0_1 (wrap64 (Int.tdiv a1 2))).length : Int) then (if 0 ≤ (wrap64 (1 - (Int.tmod a1 2))) then (if (wrap64 (1 - (Int.tmod a1 2))) < ((rd_L1 l0_1 (wrap64 (Int.tdiv a1 2))).length : Int) then (some (rd (rd_L1 l0_1 (wrap64 (Int.tdiv a1 2))) (Int.tmod a1 2), rd (rd_L1 l0_1 (wrap64 (Int.tdiv a1 2))) (wrap64 (1 - (Int.tmod a1 2))))) else (none)) else (none)) else (none)) else (none)) else (none)) else (none)) = some (r1, r2) := h
 clear h
 obtain ⟨ji3, hji3⟩ : ∃ j_ : Int, (wrap64 (Int.tdiv a1 2)) = j_ := ⟨_, rfl⟩
 (try rw [hji3])
 replace H : (if 0 ≤ (ji3) then (if (ji3) < (l0_1.length : Int) then (if 0 ≤ (Int.tmod a1 2) then (if (Int.tmod a1 2) < ((rd_L1 l0_1 (ji3)).length : Int) then (if 0 ≤ (wrap64 (1 - (Int.tmod a1 2))) then (if (wrap64 (1 - (Int.tmod a1 2))) < ((rd_L1 l0_1 (ji3)).length : Int) then (some (rd (rd_L1 l0_1 (ji3)) (Int.tmod a1 2), rd (rd_L1 l0_1 (ji3)) (wrap64 (1 - (Int.tmod a1 2))))) else (none)) else (none)) else (none)) else (none)) else (none)) else (none)) = some (r1, r2) := by first | (rw [hji3] at H; exact H) | (simp only [hji3] at H ⊢; exact H)
 have hji3w : (IntKind.i64.wrap (Int.tdiv a1 2)) = ji3 := (i64_w _).trans hji3
 by_cases c4 : 0 ≤ (ji3)
 ·rw [if_pos c4] at H
  have c4b0 := decide_eq_true c4
  clear c4
  obtain ⟨c5, H⟩ := itn_ H
  have c5b0 := decide_eq_true c5
  clear c5
  obtain ⟨ji6, hji6⟩ : ∃ j_ : Int, (Int.tmod a1 2) = j_ := ⟨_, rfl⟩
  (try rw [hji6])
  replace H : (if 0 ≤ (ji6) then (if (ji6) < ((rd_L1 l0_1 (ji3)).length : Int) then (if 0 ≤ (wrap64 (1 - (ji6))) then (if (wrap64 (1 - (ji6))) < ((rd_L1 l0_1 (ji3)).length : Int) then (some (rd (rd_L1 l0_1 (ji3)) (ji6), rd (rd_L1 l0_1 (ji3)) (wrap64 (1 - (ji6))))) else (none)) else (none)) else (none)) else (none)) = some (r1, r2) := by first | (rw [hji6] at H; exact H) | (simp only [hji6] at H ⊢; exact H)
  obtain ⟨c7, H⟩ := itn_ H
  have c7b0 := decide_eq_true c7
  clear c7
  obtain ⟨c8, H⟩ := itn_ H
  have c8b0 := decide_eq_true c8
  clear c8
  obtain ⟨ji9, hji9⟩ : ∃ j_ : Int, (wrap64 (1 - (ji6))) = j_ := ⟨_, rfl⟩
  (try rw [hji9])
  replace H : (if 0 ≤ (ji9) then (if (ji9) < ((rd_L1 l0_1 (ji3)).length : Int) then (some (rd (rd_L1 l0_1 (ji3)) (ji6), rd (rd_L1 l0_1 (ji3)) (ji9))) else (none)) else (none)) = some (r1, r2) := by first | (rw [hji9] at H; exact H) | (simp only [hji9] at H ⊢; exact H)
  have hji9w : (IntKind.i64.wrap (1 - (ji6))) = ji9 := (i64_w _).trans hji9
  obtain ⟨c10, H⟩ := itn_ H
  have c10b0 := decide_eq_true c10
  clear c10
  obtain ⟨c11, H⟩ := itn_ H
  have c11b0 := decide_eq_true c11
  clear c11
  simp only [Option.some.injEq, Prod.mk.injEq] at H
  obtain ⟨rfl, rfl⟩ := H
  go_enter Try.func71, Try.ntmps71
  go_wp2_with (first | ((with_reducible refine gate_dst (N := 2) rfl ?_); refine box_event ?hg (N := 2) ?hd (cs := #[.int .i64 a0_0, .slice A0_1 l0_1.length c0_1]) (t := 29) ?hr ?_; (case hd => rfl); (case hg => rfl); (case hr => first | (go_simp; done) | (go_simp; rfl)); intro gb192 hg w12 hbox hb; have BK192 := Aside0.mk (hbox); have GW192 := Aside0.mk ((by rw [hg]; exact (below_size hb_) : w.heap.size ≤ gb192)); have GE192 := Aside0.mk ((by rw [hg]; exact (below_size hb_) : w.heap.size ≤ gb192)); replace HB := Aside0.mk (below_step hb_ hb); clear hb hbox hg; have hcz13_0 : w12.cell? ⟨gb192, 0, none⟩ = some (.int .i64 a0_0) := (blk_cell BK192.out 0).trans rfl; have hcz13_1 : w12.cell? ⟨gb192, 1, none⟩ = some (.slice A0_1 l0_1.length c0_1) := (blk_cell BK192.out 1).trans rfl; have hfz13_0 := blk_frozen BK192.out 0; have hfz13_1 := blk_frozen BK192.out 1; have p193 : 0 ≤ ((ji3) : Int) := od_; have q193 : (ji3) < (l0_1.length : Int) := od_; obtain ⟨ad193, A193_0, c193_0, e193, hx193_0, hl193_0, hi193_0⟩ := at_L1 HR0_1.out (ji3) p193 q193; cases e193; replace hx193_0 := (HB.out.cell (World.block_lt_of_cell? w _ hx193_0)).trans hx193_0; have HR193_0 := Aside0.mk hi193_0; have HC193_0 := Aside0.mk hl193_0; clear hi193_0 hl193_0; replace p193 := eq_true p193; replace q193 := eq_true q193; have p194 : 0 ≤ ((ji6) : Int) := od_; have q194 : (ji6) < ((rd_L1 l0_1 (ji3)).length : Int) := od_; obtain ⟨ad194, e194, hx194_0⟩ := Kd.at_int HR193_0.out (ji6) p194 q194; cases e194; replace hx194_0 := (HB.out.cell (World.block_lt_of_cell? w _ hx194_0)).trans hx194_0; replace p194 := eq_true p194; replace q194 := eq_true q194; have p195 : 0 ≤ ((ji9) : Int) := od_; have q195 : (ji9) < ((rd_L1 l0_1 (ji3)).length : Int) := od_; obtain ⟨ad195, e195, hx195_0⟩ := Kd.at_int HR193_0.out (ji9) p195 q195; obtain rfl : ad194 = ad195 := (by injection e195); replace hx195_0 := (HB.out.cell (World.block_lt_of_cell? w _ hx195_0)).trans hx195_0; replace p195 := eq_true p195; replace q195 := eq_true q195))
  repeat (go_quiet (first | ((with_reducible refine gate_dst (N := 2) rfl ?_); refine box_event ?hg (N := 2) ?hd (cs := #[.int .i64 a0_0, .slice A0_1 l0_1.length c0_1]) (t := 29) ?hr ?_; (case hd => rfl); (case hg => rfl); (case hr => first | (go_simp; done) | (go_simp; rfl)); intro gb192 hg w12 hbox hb; have BK192 := Aside0.mk (hbox); have GW192 := Aside0.mk ((by rw [hg]; exact (below_size hb_) : w.heap.size ≤ gb192)); have GE192 := Aside0.mk ((by rw [hg]; exact (below_size hb_) : w.heap.size ≤ gb192)); replace HB := Aside0.mk (below_step hb_ hb); clear hb hbox hg; have hcz13_0 : w12.cell? ⟨gb192, 0, none⟩ = some (.int .i64 a0_0) := (blk_cell BK192.out 0).trans rfl; have hcz13_1 : w12.cell? ⟨gb192, 1, none⟩ = some (.slice A0_1 l0_1.length c0_1) := (blk_cell BK192.out 1).trans rfl; have hfz13_0 := blk_frozen BK192.out 0; have hfz13_1 := blk_frozen BK192.out 1; have p193 : 0 ≤ ((ji3) : Int) := od_; have q193 : (ji3) < (l0_1.length : Int) := od_; obtain ⟨ad193, A193_0, c193_0, e193, hx193_0, hl193_0, hi193_0⟩ := at_L1 HR0_1.out (ji3) p193 q193; cases e193; replace hx193_0 := (HB.out.cell (World.block_lt_of_cell? w _ hx193_0)).trans hx193_0; have HR193_0 := Aside0.mk hi193_0; have HC193_0 := Aside0.mk hl193_0; clear hi193_0 hl193_0; replace p193 := eq_true p193; replace q193 := eq_true q193; have p194 : 0 ≤ ((ji6) : Int) := od_; have q194 : (ji6) < ((rd_L1 l0_1 (ji3)).length : Int) := od_; obtain ⟨ad194, e194, hx194_0⟩ := Kd.at_int HR193_0.out (ji6) p194 q194; cases e194; replace hx194_0 := (HB.out.cell (World.block_lt_of_cell? w _ hx194_0)).trans hx194_0; replace p194 := eq_true p194; replace q194 := eq_true q194; have p195 : 0 ≤ ((ji9) : Int) := od_; have q195 : (ji9) < ((rd_L1 l0_1 (ji3)).length : Int) := od_; obtain ⟨ad195, e195, hx195_0⟩ := Kd.at_int HR193_0.out (ji9) p195 q195; obtain rfl : ad194 = ad195 := (by injection e195); replace hx195_0 := (HB.out.cell (World.block_lt_of_cell? w _ hx195_0)).trans hx195_0; replace p195 := eq_true p195; replace q195 := eq_true q195)); try go_wp2_with (first | ((with_reducible refine gate_dst (N := 2) rfl ?_); refine box_event ?hg (N := 2) ?hd (cs := #[.int .i64 a0_0, .slice A0_1 l0_1.length c0_1]) (t := 29) ?hr ?_; (case hd => rfl); (case hg => rfl); (case hr => first | (go_simp; done) | (go_simp; rfl)); intro gb192 hg w12 hbox hb; have BK192 := Aside0.mk (hbox); have GW192 := Aside0.mk ((by rw [hg]; exact (below_size hb_) : w.heap.size ≤ gb192)); have GE192 := Aside0.mk ((by rw [hg]; exact (below_size hb_) : w.heap.size ≤ gb192)); replace HB := Aside0.mk (below_step hb_ hb); clear hb hbox hg; have hcz13_0 : w12.cell? ⟨gb192, 0, none⟩ = some (.int .i64 a0_0) := (blk_cell BK192.out 0).trans rfl; have hcz13_1 : w12.cell? ⟨gb192, 1, none⟩ = some (.slice A0_1 l0_1.length c0_1) := (blk_cell BK192.out 1).trans rfl; have hfz13_0 := blk_frozen BK192.out 0; have hfz13_1 := blk_frozen BK192.out 1; have p193 : 0 ≤ ((ji3) : Int) := od_; have q193 : (ji3) < (l0_1.length : Int) := od_; obtain ⟨ad193, A193_0, c193_0, e193, hx193_0, hl193_0, hi193_0⟩ := at_L1 HR0_1.out (ji3) p193 q193; cases e193; replace hx193_0 := (HB.out.cell (World.block_lt_of_cell? w _ hx193_0)).trans hx193_0; have HR193_0 := Aside0.mk hi193_0; have HC193_0 := Aside0.mk hl193_0; clear hi193_0 hl193_0; replace p193 := eq_true p193; replace q193 := eq_true q193; have p194 : 0 ≤ ((ji6) : Int) := od_; have q194 : (ji6) < ((rd_L1 l0_1 (ji3)).length : Int) := od_; obtain ⟨ad194, e194, hx194_0⟩ := Kd.at_int HR193_0.out (ji6) p194 q194; cases e194; replace hx194_0 := (HB.out.cell (World.block_lt_of_cell? w _ hx194_0)).trans hx194_0; replace p194 := eq_true p194; replace q194 := eq_true q194; have p195 : 0 ≤ ((ji9) : Int) := od_; have q195 : (ji9) < ((rd_L1 l0_1 (ji3)).length : Int) := od_; obtain ⟨ad195, e195, hx195_0⟩ := Kd.at_int HR193_0.out (ji9) p195 q195; obtain rfl : ad194 = ad195 := (by injection e195); replace hx195_0 := (HB.out.cell (World.block_lt_of_cell? w _ hx195_0)).trans hx195_0; replace p195 := eq_true p195; replace q195 := eq_true q195)))
  go_ret2
  exact ⟨by first | rfl | (simp [errW_none, errW_some] <;> rfl) | (simp only [← hji3, ← hji6, ← hji9]; first | rfl | (simp [errW_none, errW_some] <;> rfl)) | (simp [*, errW_none, errW_some] <;> rfl), hbs_⟩
 ·rw [if_neg c4] at H
  exact absurd H (by simp)

/-! ### impl_IsGraph: function 46 -/
def impl_IsGraph.l0 : Nat → List (List Int) → Int → Int → Int → List (List Int) → Option (Bool)
 | 0, _, _, _, _, _ => none
 | k + 1, x6, x7, x8, x197000, x197001 => if x8 < x7 then (if 0 ≤ x8 then (if x8 < (x6.length : Int) then (if ((rd_L1 x6 x8).length : Int) = 2 then (if 0 < ((rd_L1 x6 x8).length : Int) then ((impl_within.f (rd (rd_L1 x6 x8) 0) 0 (wrap64 (x197000 - 1))).bind fun t200 => (if t200 = true then (if 1 < ((rd_L1 x6 x8).length : Int) then ((impl_within.f (rd (rd_L1 x6 x8) 1) 0 (wrap64 (x197000 - 1))).bind fun t202 => (if t202 = true then (impl_IsGraph.l0 k x6 x7 (wrap64 (x8 + 1)) x197000 x197001) else (some false))) else (none)) else (some false))) else (none)) else (some false)) else (none)) else (none)) else ((impl_within.f x197000 1 8).bind fun t197 => (if t197 = true then (some (decide ((x197001.length : Int) ≤ 10))) else (some false)))
def impl_IsGraph.f (k : Nat) (a0_0 : Int) (l0_1 : List (List Int)) : Option (Bool) := impl_IsGraph.l0 k l0_1 (l0_1.length : Int) 0 a0_0 l0_1
set_option maxHeartbeats 8000000 in
set_option maxRecDepth 100000 in
theorem impl_IsGraph.calls (k : Nat) (a0_0 : Int) (A0_1 : Option Addr) (c0_1 : Nat) (l0_1 : List (List Int)) (r : Bool) (w : World) (hr0_1 : Kd.C (Kd.slice 2 (Kd.int .i64)) w A0_1 l0_1.length l0_1) (hc0_1 : l0_1.length ≤ c0_1) (h : impl_IsGraph.f k a0_0 l0_1 = some r) :
  Calls Try.prog 46 #[.agg #[.int .i64 a0_0, .slice A0_1 l0_1.length c0_1]] w fun e w' => e = .returned (.bool r) ∧ Below w.heap.size w w' := by
 have hu29 := Try.underlying29
 have HR0_1 := Aside0.mk hr0_1
 have HC0_1 := Aside0.mk hc0_1
 clear hr0_1 hc0_1
 have HB := Aside0.mk (Below.refl w.heap.size w)
 have H : (impl_IsGraph.l0 k l0_1 (l0_1.length : Int) 0 a0_0 l0_1) = some r := h
 clear h
 have H' := Aside0.mk H
 clear H
 go_enter Try.func46, Try.ntmps46
 go_wp2_with (first | ((with_reducible refine gate_dst (N := 1) rfl ?_); (try (refine gate_guard (by rfl) ?_; dsimp only)); refine box_event ?hg (N := 1) ?hd (cs := #[.int .i64 a0_0, .slice A0_1 l0_1.length c0_1]) (t := 29) ?hr ?_; (case hd => rfl); (case hg => rfl); (case hr => first | (go_simp; done) | (go_simp; rfl)); intro gb196 hg w2 hbox hb; have BK196 := Aside0.mk (hbox); have GW196 := Aside0.mk ((by rw [hg]; exact (below_size hb_) : w.heap.size ≤ gb196)); have GE196 := Aside0.mk ((by rw [hg]; exact (below_size hb_) : w.heap.size ≤ gb196)); replace HB := Aside0.mk (below_step hb_ hb); clear hb hbox hg; have hcz3_0 : w2.cell? ⟨gb196, 0, none⟩ = some (.int .i64 a0_0) := (blk_cell BK196.out 0).trans rfl; have hcz3_1 : w2.cell? ⟨gb196, 1, none⟩ = some (.slice A0_1 l0_1.length c0_1) := (blk_cell BK196.out 1).trans rfl; have hfz3_0 := blk_frozen BK196.out 0; have hfz3_1 := blk_frozen BK196.out 1))
 repeat (go_quiet (first | ((with_reducible refine gate_dst (N := 1) rfl ?_); (try (refine gate_guard (by rfl) ?_; dsimp only)); refine box_event ?hg (N := 1) ?hd (cs := #[.int .i64 a0_0, .slice A0_1 l0_1.length c0_1]) (t := 29) ?hr ?_; (case hd => rfl); (case hg => rfl); (case hr => first | (go_simp; done) | (go_simp; rfl)); intro gb196 hg w2 hbox hb; have BK196 := Aside0.mk (hbox); have GW196 := Aside0.mk ((by rw [hg]; exact (below_size hb_) : w.heap.size ≤ gb196)); have GE196 := Aside0.mk ((by rw [hg]; exact (below_size hb_) : w.heap.size ≤ gb196)); replace HB := Aside0.mk (below_step hb_ hb); clear hb hbox hg; have hcz3_0 : w2.cell? ⟨gb196, 0, none⟩ = some (.int .i64 a0_0) := (blk_cell BK196.out 0).trans rfl; have hcz3_1 : w2.cell? ⟨gb196, 1, none⟩ = some (.slice A0_1 l0_1.length c0_1) := (blk_cell BK196.out 1).trans rfl; have hfz3_0 := blk_frozen BK196.out 0; have hfz3_1 := blk_frozen BK196.out 1)); try go_wp2_with (first | ((with_reducible refine gate_dst (N := 1) rfl ?_); (try (refine gate_guard (by rfl) ?_; dsimp only)); refine box_event ?hg (N := 1) ?hd (cs := #[.int .i64 a0_0, .slice A0_1 l0_1.length c0_1]) (t := 29) ?hr ?_; (case hd => rfl); (case hg => rfl); (case hr => first | (go_simp; done) | (go_simp; rfl)); intro gb196 hg w2 hbox hb; have BK196 := Aside0.mk (hbox); have GW196 := Aside0.mk ((by rw [hg]; exact (below_size hb_) : w.heap.size ≤ gb196)); have GE196 := Aside0.mk ((by rw [hg]; exact (below_size hb_) : w.heap.size ≤ gb196)); replace HB := Aside0.mk (below_step hb_ hb); clear hb hbox hg; have hcz3_0 : w2.cell? ⟨gb196, 0, none⟩ = some (.int .i64 a0_0) := (blk_cell BK196.out 0).trans rfl; have hcz3_1 : w2.cell? ⟨gb196, 1, none⟩ = some (.slice A0_1 l0_1.length c0_1) := (blk_cell BK196.out 1).trans rfl; have hfz3_0 := blk_frozen BK196.out 0; have hfz3_1 := blk_frozen BK196.out 1)))
 go_loopg [8] k (fun kq v8 w' => ∃ (x8_1 : Int), v8 = .int .i64 x8_1 ∧ Aside0 (impl_IsGraph.l0 kq l0_1 (l0_1.length : Int) x8_1 a0_0 l0_1 = some r) ∧ Aside0 (kq ≤ k) ∧ Aside0 (w'.heap[gb196]? = some (.cells #[.int .i64 a0_0, (.slice A0_1 l0_1.length c0_1)] 29 (0, 0))) ∧ Aside0 (Below w.heap.size w w'))
 case atStart => exact ⟨(0), es_, H', ⟨Nat.le_refl _⟩, ⟨blk_below BK196.out bgo_⟩, ⟨hbs_⟩⟩
 case round =>
  clear H'
  obtain ⟨x8_1, rfl, HA, HK1, BK196, HB⟩ := hrel
  cases gk with
  | zero => exact absurd HA.out (by simp [impl_IsGraph.l0])
  | succ k1 =>
   have H := HA.out
   clear HA
   simp only [impl_IsGraph.l0] at H
   by_cases c4 : x8_1 < (l0_1.length : Int)
   ·rw [if_pos c4] at H
    have c4b0 := decide_eq_true c4
    clear c4
    obtain ⟨c5, H⟩ := itn_ H
    have c5b0 := decide_eq_true c5
    clear c5
    obtain ⟨c6, H⟩ := itn_ H
    have c6b0 := decide_eq_true c6
    clear c6
    by_cases c7 : ((rd_L1 l0_1 x8_1).length : Int) = 2
    ·rw [if_pos c7] at H
     have c7b0 : (((rd_L1 l0_1 x8_1).length : Int) == 2) = true := beq_iff_eq.mpr c7
     have c7b1 : (((rd_L1 l0_1 x8_1).length : Int) != 2) = false := bne_eq_false_iff_eq.mpr c7
     clear c7
     obtain ⟨c8, H⟩ := itn_ H
     have c8b0 := decide_eq_true c8
     have c8b1 : decide (0 < (rd_L1 l0_1 x8_1).length) = true := decide_eq_true (by omega)
     clear c8
     obtain ⟨t200, A9, H⟩ := bnd_ H
     by_cases c10 : t200 = true
     ·subst c10
      have H1 : (if 1 < ((rd_L1 l0_1 x8_1).length : Int) then ((impl_within.f (rd (rd_L1 l0_1 x8_1) 1) 0 (wrap64 (a0_0 - 1))).bind fun t202 => (if t202 = true then (impl_IsGraph.l0 k1 l0_1 (l0_1.length : Int) (wrap64 (x8_1 + 1)) a0_0 l0_1) else (some false))) else (none)) = some r := by rw [if_pos rfl] at H; exact H
      clear H
      have H := H1
      clear H1
      obtain ⟨c11, H⟩ := itn_ H
      have c11b0 := decide_eq_true c11
      have c11b1 : decide (1 < (rd_L1 l0_1 x8_1).length) = true := decide_eq_true (by omega)
      clear c11
      obtain ⟨t202, A12, H⟩ := bnd_ H
      by_cases c13 : t202 = true
      ·subst c13
       have H1 : (impl_IsGraph.l0 k1 l0_1 (l0_1.length : Int) (wrap64 (x8_1 + 1)) a0_0 l0_1) = some r := by rw [if_pos rfl] at H; exact H
       clear H
       have H := H1
       clear H1
       have H' := Aside0.mk H
       clear H
       have p198 : 0 ≤ (x8_1 : Int) := od_
       have q198 : x8_1 < (l0_1.length : Int) := od_
       obtain ⟨ad198, A198_0, c198_0, e198, hx198_0, hl198_0, hi198_0⟩ := at_L1 HR0_1.out x8_1 p198 q198
       cases e198
       replace hx198_0 := (HB.out.cell (World.block_lt_of_cell? w _ hx198_0)).trans hx198_0
       have HR198_0 := Aside0.mk hi198_0
       have HC198_0 := Aside0.mk hl198_0
       clear hi198_0 hl198_0
       replace p198 := eq_true p198
       replace q198 := eq_true q198
       have p199 : 0 ≤ (0 : Int) := (by omega)
       have q199 : 0 < ((rd_L1 l0_1 x8_1).length : Int) := od_
       obtain ⟨ad199, e199, hx199_0⟩ := Kd.at_int HR198_0.out 0 p199 q199
       cases e199
       have qi199 : (0 < (rd_L1 l0_1 x8_1).length) = True := eq_true (by omega)
       (try rw [show ((0 : Int)).toNat = 0 from rfl] at hx199_0)
       (try rw [Addr.add_zero'] at hx199_0)
       replace hx199_0 := (HB.out.cell (World.block_lt_of_cell? w _ hx199_0)).trans hx199_0
       replace p199 := eq_true p199
       replace q199 := eq_true q199
       have hcz14_0 : wr.cell? ⟨gb196, 0, none⟩ = some (.int .i64 a0_0) := (blk_cell BK196.out 0).trans rfl
       have hcz14_1 : wr.cell? ⟨gb196, 1, none⟩ = some (.slice (some ad198) l0_1.length c0_1) := (blk_cell BK196.out 1).trans rfl
       have hfz14_0 := blk_frozen BK196.out 0
       have hfz14_1 := blk_frozen BK196.out 1
       have p201 : 0 ≤ (1 : Int) := (by omega)
       have q201 : 1 < ((rd_L1 l0_1 x8_1).length : Int) := od_
       obtain ⟨ad201, e201, hx201_0⟩ := Kd.at_int HR198_0.out 1 p201 q201
       obtain rfl : ad199 = ad201 := (by injection e201)
       (try simp only [show (1 : Int).toNat = 1 from rfl, Nat.reduceMul, Nat.reduceEqDiff, Go.Addr.add, ↓reduceIte] at hx201_0)
       have qi201 : (1 < (rd_L1 l0_1 x8_1).length) = True := eq_true (by omega)
       (try rw [show ((1 : Int)).toNat = 1 from rfl] at hx201_0)
       replace hx201_0 := (HB.out.cell (World.block_lt_of_cell? w _ hx201_0)).trans hx201_0
       replace p201 := eq_true p201
       replace q201 := eq_true q201
       go_wp2_with (first | (go_at_call 58; (with_reducible refine (impl_within.calls (rd (rd_L1 l0_1 x8_1) 0) 0 (wrap64 (a0_0 - 1)) true _ A9.out).mono ?_); rintro e w' ⟨rfl, ⟨nd, rfl⟩⟩; (try first | exact ⟨rfl, _, World.drewN_drewN _ _ _⟩ | exact ⟨rfl, _, Eq.trans (World.drewN_drewN _ _ _) (congrArg (World.drewN _) (Nat.add_assoc _ _ _))⟩)) | (go_at_call 58; (with_reducible refine (impl_within.calls (rd (rd_L1 l0_1 x8_1) 1) 0 (wrap64 (a0_0 - 1)) true _ A12.out).mono ?_); rintro e w' ⟨rfl, ⟨nd, rfl⟩⟩; (try first | exact ⟨rfl, _, World.drewN_drewN _ _ _⟩ | exact ⟨rfl, _, Eq.trans (World.drewN_drewN _ _ _) (congrArg (World.drewN _) (Nat.add_assoc _ _ _))⟩)))
       repeat (go_quiet (first | (go_at_call 58; (with_reducible refine (impl_within.calls (rd (rd_L1 l0_1 x8_1) 0) 0 (wrap64 (a0_0 - 1)) true _ A9.out).mono ?_); rintro e w' ⟨rfl, ⟨nd, rfl⟩⟩; (try first | exact ⟨rfl, _, World.drewN_drewN _ _ _⟩ | exact ⟨rfl, _, Eq.trans (World.drewN_drewN _ _ _) (congrArg (World.drewN _) (Nat.add_assoc _ _ _))⟩)) | (go_at_call 58; (with_reducible refine (impl_within.calls (rd (rd_L1 l0_1 x8_1) 1) 0 (wrap64 (a0_0 - 1)) true _ A12.out).mono ?_); rintro e w' ⟨rfl, ⟨nd, rfl⟩⟩; (try first | exact ⟨rfl, _, World.drewN_drewN _ _ _⟩ | exact ⟨rfl, _, Eq.trans (World.drewN_drewN _ _ _) (congrArg (World.drewN _) (Nat.add_assoc _ _ _))⟩))); try go_wp2_with (first | (go_at_call 58; (with_reducible refine (impl_within.calls (rd (rd_L1 l0_1 x8_1) 0) 0 (wrap64 (a0_0 - 1)) true _ A9.out).mono ?_); rintro e w' ⟨rfl, ⟨nd, rfl⟩⟩; (try first | exact ⟨rfl, _, World.drewN_drewN _ _ _⟩ | exact ⟨rfl, _, Eq.trans (World.drewN_drewN _ _ _) (congrArg (World.drewN _) (Nat.add_assoc _ _ _))⟩)) | (go_at_call 58; (with_reducible refine (impl_within.calls (rd (rd_L1 l0_1 x8_1) 1) 0 (wrap64 (a0_0 - 1)) true _ A12.out).mono ?_); rintro e w' ⟨rfl, ⟨nd, rfl⟩⟩; (try first | exact ⟨rfl, _, World.drewN_drewN _ _ _⟩ | exact ⟨rfl, _, Eq.trans (World.drewN_drewN _ _ _) (congrArg (World.drewN _) (Nat.add_assoc _ _ _))⟩))))
       go_roundg k1
       case measure => have := HK1.out; omega
       case rel => exact ⟨(wrap64 (x8_1 + 1)), es_, H', ⟨by have := HK1.out; omega⟩, ⟨blk_below BK196.out bgo_⟩, ⟨hbs_⟩⟩
      ·replace c13 := Bool.eq_false_iff.mpr c13
       subst c13
       have H1 : (some false) = some r := by rw [if_neg (show ¬ (false = true) by decide)] at H; exact H
       clear H
       have H := H1
       clear H1
       obtain rfl := Option.some.inj H
       have p198 : 0 ≤ (x8_1 : Int) := od_
       have q198 : x8_1 < (l0_1.length : Int) := od_
       obtain ⟨ad198, A198_0, c198_0, e198, hx198_0, hl198_0, hi198_0⟩ := at_L1 HR0_1.out x8_1 p198 q198
       cases e198
       replace hx198_0 := (HB.out.cell (World.block_lt_of_cell? w _ hx198_0)).trans hx198_0
       have HR198_0 := Aside0.mk hi198_0
       have HC198_0 := Aside0.mk hl198_0
       clear hi198_0 hl198_0
       replace p198 := eq_true p198
       replace q198 := eq_true q198
       have p199 : 0 ≤ (0 : Int) := (by omega)
       have q199 : 0 < ((rd_L1 l0_1 x8_1).length : Int) := od_
       obtain ⟨ad199, e199, hx199_0⟩ := Kd.at_int HR198_0.out 0 p199 q199
       cases e199
       have qi199 : (0 < (rd_L1 l0_1 x8_1).length) = True := eq_true (by omega)
       (try rw [show ((0 : Int)).toNat = 0 from rfl] at hx199_0)
       (try rw [Addr.add_zero'] at hx199_0)
       replace hx199_0 := (HB.out.cell (World.block_lt_of_cell? w _ hx199_0)).trans hx199_0
       replace p199 := eq_true p199
       replace q199 := eq_true q199
       have hcz15_0 : wr.cell? ⟨gb196, 0, none⟩ = some (.int .i64 a0_0) := (blk_cell BK196.out 0).trans rfl
       have hcz15_1 : wr.cell? ⟨gb196, 1, none⟩ = some (.slice (some ad198) l0_1.length c0_1) := (blk_cell BK196.out 1).trans rfl
       have hfz15_0 := blk_frozen BK196.out 0
       have hfz15_1 := blk_frozen BK196.out 1
       have p201 : 0 ≤ (1 : Int) := (by omega)
       have q201 : 1 < ((rd_L1 l0_1 x8_1).length : Int) := od_
       obtain ⟨ad201, e201, hx201_0⟩ := Kd.at_int HR198_0.out 1 p201 q201
       obtain rfl : ad199 = ad201 := (by injection e201)
       (try simp only [show (1 : Int).toNat = 1 from rfl, Nat.reduceMul, Nat.reduceEqDiff, Go.Addr.add, ↓reduceIte] at hx201_0)
       have qi201 : (1 < (rd_L1 l0_1 x8_1).length) = True := eq_true (by omega)
       (try rw [show ((1 : Int)).toNat = 1 from rfl] at hx201_0)
       replace hx201_0 := (HB.out.cell (World.block_lt_of_cell? w _ hx201_0)).trans hx201_0
       replace p201 := eq_true p201
       replace q201 := eq_true q201
       go_wp2_with (first | (go_at_call 58; (with_reducible refine (impl_within.calls (rd (rd_L1 l0_1 x8_1) 0) 0 (wrap64 (a0_0 - 1)) true _ A9.out).mono ?_); rintro e w' ⟨rfl, ⟨nd, rfl⟩⟩; (try first | exact ⟨rfl, _, World.drewN_drewN _ _ _⟩ | exact ⟨rfl, _, Eq.trans (World.drewN_drewN _ _ _) (congrArg (World.drewN _) (Nat.add_assoc _ _ _))⟩)) | (go_at_call 58; (with_reducible refine (impl_within.calls (rd (rd_L1 l0_1 x8_1) 1) 0 (wrap64 (a0_0 - 1)) false _ A12.out).mono ?_); rintro e w' ⟨rfl, ⟨nd, rfl⟩⟩; (try first | exact ⟨rfl, _, World.drewN_drewN _ _ _⟩ | exact ⟨rfl, _, Eq.trans (World.drewN_drewN _ _ _) (congrArg (World.drewN _) (Nat.add_assoc _ _ _))⟩)))
       repeat (go_quiet (first | (go_at_call 58; (with_reducible refine (impl_within.calls (rd (rd_L1 l0_1 x8_1) 0) 0 (wrap64 (a0_0 - 1)) true _ A9.out).mono ?_); rintro e w' ⟨rfl, ⟨nd, rfl⟩⟩; (try first | exact ⟨rfl, _, World.drewN_drewN _ _ _⟩ | exact ⟨rfl, _, Eq.trans (World.drewN_drewN _ _ _) (congrArg (World.drewN _) (Nat.add_assoc _ _ _))⟩)) | (go_at_call 58; (with_reducible refine (impl_within.calls (rd (rd_L1 l0_1 x8_1) 1) 0 (wrap64 (a0_0 - 1)) false _ A12.out).mono ?_); rintro e w' ⟨rfl, ⟨nd, rfl⟩⟩; (try first | exact ⟨rfl, _, World.drewN_drewN _ _ _⟩ | exact ⟨rfl, _, Eq.trans (World.drewN_drewN _ _ _) (congrArg (World.drewN _) (Nat.add_assoc _ _ _))⟩))); try go_wp2_with (first | (go_at_call 58; (with_reducible refine (impl_within.calls (rd (rd_L1 l0_1 x8_1) 0) 0 (wrap64 (a0_0 - 1)) true _ A9.out).mono ?_); rintro e w' ⟨rfl, ⟨nd, rfl⟩⟩; (try first | exact ⟨rfl, _, World.drewN_drewN _ _ _⟩ | exact ⟨rfl, _, Eq.trans (World.drewN_drewN _ _ _) (congrArg (World.drewN _) (Nat.add_assoc _ _ _))⟩)) | (go_at_call 58; (with_reducible refine (impl_within.calls (rd (rd_L1 l0_1 x8_1) 1) 0 (wrap64 (a0_0 - 1)) false _ A12.out).mono ?_); rintro e w' ⟨rfl, ⟨nd, rfl⟩⟩; (try first | exact ⟨rfl, _, World.drewN_drewN _ _ _⟩ | exact ⟨rfl, _, Eq.trans (World.drewN_drewN _ _ _) (congrArg (World.drewN _) (Nat.add_assoc _ _ _))⟩))))
       go_ret
       exact ⟨er_, hbs_⟩
     ·replace c10 := Bool.eq_false_iff.mpr c10
      subst c10
      have H1 : (some false) = some r := by rw [if_neg (show ¬ (false = true) by decide)] at H; exact H
      clear H
      have H := H1
      clear H1
      obtain rfl := Option.some.inj H
      have p198 : 0 ≤ (x8_1 : Int) := od_
      have q198 : x8_1 < (l0_1.length : Int) := od_
      obtain ⟨ad198, A198_0, c198_0, e198, hx198_0, hl198_0, hi198_0⟩ := at_L1 HR0_1.out x8_1 p198 q198
      cases e198
      replace hx198_0 := (HB.out.cell (World.block_lt_of_cell? w _ hx198_0)).trans hx198_0
      have HR198_0 := Aside0.mk hi198_0
      have HC198_0 := Aside0.mk hl198_0
      clear hi198_0 hl198_0
      replace p198 := eq_true p198
      replace q198 := eq_true q198
      have p199 : 0 ≤ (0 : Int) := (by omega)
      have q199 : 0 < ((rd_L1 l0_1 x8_1).length : Int) := od_
      obtain ⟨ad199, e199, hx199_0⟩ := Kd.at_int HR198_0.out 0 p199 q199
      cases e199
      have qi199 : (0 < (rd_L1 l0_1 x8_1).length) = True := eq_true (by omega)
      (try rw [show ((0 : Int)).toNat = 0 from rfl] at hx199_0)
      (try rw [Addr.add_zero'] at hx199_0)
      replace hx199_0 := (HB.out.cell (World.block_lt_of_cell? w _ hx199_0)).trans hx199_0
      replace p199 := eq_true p199
      replace q199 := eq_true q199
      have hcz16_0 : wr.cell? ⟨gb196, 0, none⟩ = some (.int .i64 a0_0) := (blk_cell BK196.out 0).trans rfl
      have hcz16_1 : wr.cell? ⟨gb196, 1, none⟩ = some (.slice (some ad198) l0_1.length c0_1) := (blk_cell BK196.out 1).trans rfl
      have hfz16_0 := blk_frozen BK196.out 0
      have hfz16_1 := blk_frozen BK196.out 1
      go_wp2_with (first | (go_at_call 58; (with_reducible refine (impl_within.calls (rd (rd_L1 l0_1 x8_1) 0) 0 (wrap64 (a0_0 - 1)) false _ A9.out).mono ?_); rintro e w' ⟨rfl, ⟨nd, rfl⟩⟩; (try first | exact ⟨rfl, _, World.drewN_drewN _ _ _⟩ | exact ⟨rfl, _, Eq.trans (World.drewN_drewN _ _ _) (congrArg (World.drewN _) (Nat.add_assoc _ _ _))⟩)))
      repeat (go_quiet (first | (go_at_call 58; (with_reducible refine (impl_within.calls (rd (rd_L1 l0_1 x8_1) 0) 0 (wrap64 (a0_0 - 1)) false _ A9.out).mono ?_); rintro e w' ⟨rfl, ⟨nd, rfl⟩⟩; (try first | exact ⟨rfl, _, World.drewN_drewN _ _ _⟩ | exact ⟨rfl, _, Eq.trans (World.drewN_drewN _ _ _) (congrArg (World.drewN _) (Nat.add_assoc _ _ _))⟩))); try go_wp2_with (first | (go_at_call 58; (with_reducible refine (impl_within.calls (rd (rd_L1 l0_1 x8_1) 0) 0 (wrap64 (a0_0 - 1)) false _ A9.out).mono ?_); rintro e w' ⟨rfl, ⟨nd, rfl⟩⟩; (try first | exact ⟨rfl, _, World.drewN_drewN _ _ _⟩ | exact ⟨rfl, _, Eq.trans (World.drewN_drewN _ _ _) (congrArg (World.drewN _) (Nat.add_assoc _ _ _))⟩))))
      go_ret
      exact ⟨er_, hbs_⟩
    ·rw [if_neg c7] at H
     have c7b0 : (((rd_L1 l0_1 x8_1).length : Int) == 2) = false := beq_eq_false_iff_ne.mpr c7
     have c7b1 : (((rd_L1 l0_1 x8_1).length : Int) != 2) = true := bne_iff_ne.mpr c7
     obtain rfl := Option.some.inj H
     have p198 : 0 ≤ (x8_1 : Int) := od_
     have q198 : x8_1 < (l0_1.length : Int) := od_
     obtain ⟨ad198, A198_0, c198_0, e198, hx198_0, hl198_0, hi198_0⟩ := at_L1 HR0_1.out x8_1 p198 q198
     cases e198
     replace hx198_0 := (HB.out.cell (World.block_lt_of_cell? w _ hx198_0)).trans hx198_0
     have HR198_0 := Aside0.mk hi198_0
     have HC198_0 := Aside0.mk hl198_0
     clear hi198_0 hl198_0
     replace p198 := eq_true p198
     replace q198 := eq_true q198
     go_wp2
     repeat (go_quiet (fail); try go_wp2)
     go_ret
     exact ⟨er_, hbs_⟩
   ·rw [if_neg c4] at H
    have c4b0 := decide_eq_false c4
    clear c4
    obtain ⟨t197, A17, H⟩ := bnd_ H
    by_cases c18 : t197 = true
    ·subst c18
     have H1 : (some (decide ((l0_1.length : Int) ≤ 10))) = some r := by rw [if_pos rfl] at H; exact H
     clear H
     have H := H1
     clear H1
     obtain rfl := Option.some.inj H
     have hcz19_0 : wr.cell? ⟨gb196, 0, none⟩ = some (.int .i64 a0_0) := (blk_cell BK196.out 0).trans rfl
     have hcz19_1 : wr.cell? ⟨gb196, 1, none⟩ = some (.slice A0_1 l0_1.length c0_1) := (blk_cell BK196.out 1).trans rfl
     have hfz19_0 := blk_frozen BK196.out 0
     have hfz19_1 := blk_frozen BK196.out 1
     go_wp2_with (first | (go_at_call 58; (with_reducible refine (impl_within.calls a0_0 1 8 true _ A17.out).mono ?_); rintro e w' ⟨rfl, ⟨nd, rfl⟩⟩; (try first | exact ⟨rfl, _, World.drewN_drewN _ _ _⟩ | exact ⟨rfl, _, Eq.trans (World.drewN_drewN _ _ _) (congrArg (World.drewN _) (Nat.add_assoc _ _ _))⟩)))
     repeat (go_quiet (first | (go_at_call 58; (with_reducible refine (impl_within.calls a0_0 1 8 true _ A17.out).mono ?_); rintro e w' ⟨rfl, ⟨nd, rfl⟩⟩; (try first | exact ⟨rfl, _, World.drewN_drewN _ _ _⟩ | exact ⟨rfl, _, Eq.trans (World.drewN_drewN _ _ _) (congrArg (World.drewN _) (Nat.add_assoc _ _ _))⟩))); try go_wp2_with (first | (go_at_call 58; (with_reducible refine (impl_within.calls a0_0 1 8 true _ A17.out).mono ?_); rintro e w' ⟨rfl, ⟨nd, rfl⟩⟩; (try first | exact ⟨rfl, _, World.drewN_drewN _ _ _⟩ | exact ⟨rfl, _, Eq.trans (World.drewN_drewN _ _ _) (congrArg (World.drewN _) (Nat.add_assoc _ _ _))⟩))))
     go_ret
     exact ⟨er_, hbs_⟩
    ·replace c18 := Bool.eq_false_iff.mpr c18
     subst c18
     have H1 : (some false) = some r := by rw [if_neg (show ¬ (false = true) by decide)] at H; exact H
     clear H
     have H := H1
     clear H1
     obtain rfl := Option.some.inj H
     have hcz20_0 : wr.cell? ⟨gb196, 0, none⟩ = some (.int .i64 a0_0) := (blk_cell BK196.out 0).trans rfl
     have hcz20_1 : wr.cell? ⟨gb196, 1, none⟩ = some (.slice A0_1 l0_1.length c0_1) := (blk_cell BK196.out 1).trans rfl
     have hfz20_0 := blk_frozen BK196.out 0
     have hfz20_1 := blk_frozen BK196.out 1
     go_wp2_with (first | (go_at_call 58; (with_reducible refine (impl_within.calls a0_0 1 8 false _ A17.out).mono ?_); rintro e w' ⟨rfl, ⟨nd, rfl⟩⟩; (try first | exact ⟨rfl, _, World.drewN_drewN _ _ _⟩ | exact ⟨rfl, _, Eq.trans (World.drewN_drewN _ _ _) (congrArg (World.drewN _) (Nat.add_assoc _ _ _))⟩)))
     repeat (go_quiet (first | (go_at_call 58; (with_reducible refine (impl_within.calls a0_0 1 8 false _ A17.out).mono ?_); rintro e w' ⟨rfl, ⟨nd, rfl⟩⟩; (try first | exact ⟨rfl, _, World.drewN_drewN _ _ _⟩ | exact ⟨rfl, _, Eq.trans (World.drewN_drewN _ _ _) (congrArg (World.drewN _) (Nat.add_assoc _ _ _))⟩))); try go_wp2_with (first | (go_at_call 58; (with_reducible refine (impl_within.calls a0_0 1 8 false _ A17.out).mono ?_); rintro e w' ⟨rfl, ⟨nd, rfl⟩⟩; (try first | exact ⟨rfl, _, World.drewN_drewN _ _ _⟩ | exact ⟨rfl, _, Eq.trans (World.drewN_drewN _ _ _) (congrArg (World.drewN _) (Nat.add_assoc _ _ _))⟩))))
     go_ret
     exact ⟨er_, hbs_⟩

/-! ### impl_Graph_size: function 104 -/
def impl_Graph_size.f (a0_0 : Int) (l0_1 : List (List Int)) : Option (Int) := some (l0_1.length : Int)
set_option maxHeartbeats 8000000 in
set_option maxRecDepth 100000 in
theorem impl_Graph_size.calls (a0_0 : Int) (A0_1 : Option Addr) (c0_1 : Nat) (l0_1 : List (List Int)) (r : Int) (w : World) (hr0_1 : Kd.C (Kd.slice 2 (Kd.int .i64)) w A0_1 l0_1.length l0_1) (hc0_1 : l0_1.length ≤ c0_1) (h : impl_Graph_size.f a0_0 l0_1 = some r) :
  Calls Try.prog 104 #[.agg #[.int .i64 a0_0, .slice A0_1 l0_1.length c0_1]] w fun e w' => e = .returned (.int .i64 r) ∧ Below w.heap.size w w' := by
 have hu29 := Try.underlying29
 have HR0_1 := Aside0.mk hr0_1
 have HC0_1 := Aside0.mk hc0_1
 clear hr0_1 hc0_1
 have HB := Aside0.mk (Below.refl w.heap.size w)
 have H : (some (l0_1.length : Int)) = some r := h
 clear h
 obtain rfl := Option.some.inj H
 go_enter Try.func104, Try.ntmps104
 go_wp2_with (first | ((with_reducible refine gate_dst (N := 1) rfl ?_); refine box_event ?hg (N := 1) ?hd (cs := #[.int .i64 a0_0, .slice A0_1 l0_1.length c0_1]) (t := 29) ?hr ?_; (case hd => rfl); (case hg => rfl); (case hr => first | (go_simp; done) | (go_simp; rfl)); intro gb203 hg w2 hbox hb; have BK203 := Aside0.mk (hbox); have GW203 := Aside0.mk ((by rw [hg]; exact (below_size hb_) : w.heap.size ≤ gb203)); have GE203 := Aside0.mk ((by rw [hg]; exact (below_size hb_) : w.heap.size ≤ gb203)); replace HB := Aside0.mk (below_step hb_ hb); clear hb hbox hg; have hcz3_0 : w2.cell? ⟨gb203, 0, none⟩ = some (.int .i64 a0_0) := (blk_cell BK203.out 0).trans rfl; have hcz3_1 : w2.cell? ⟨gb203, 1, none⟩ = some (.slice A0_1 l0_1.length c0_1) := (blk_cell BK203.out 1).trans rfl; have hfz3_0 := blk_frozen BK203.out 0; have hfz3_1 := blk_frozen BK203.out 1))
 go_ret
 exact ⟨er_, hbs_⟩

-- NOT PRINTED: function 148 (slices_IndexFunc_int64_int64_148)

-- NOT PRINTED: function 131 (slices_ContainsFunc_int64_int64_131)

/-! ### slices_Index_int64_int64: function 121 -/
def slices_Index_int64_int64.l0 : Nat → List Int → Int → Int → Int → Option (Int)
 | 0, _, _, _, _ => none
 | k + 1, x0, x1, x7, x8 => if x8 < x7 then (if 0 ≤ x8 then (if x8 < (x0.length : Int) then (if x1 = (rd x0 x8) then (some x8) else (slices_Index_int64_int64.l0 k x0 x1 x7 (wrap64 (x8 + 1)))) else (none)) else (none)) else (some (-1))
def slices_Index_int64_int64.f (k : Nat) (l0 : List Int) (a1 : Int) : Option (Int) := slices_Index_int64_int64.l0 k l0 a1 (l0.length : Int) 0
set_option maxHeartbeats 8000000 in
set_option maxRecDepth 100000 in
theorem slices_Index_int64_int64.calls (k : Nat) (A0 : Option Addr) (c0 : Nat) (l0 : List Int) (a1 : Int) (r : Int) (w : World) (hr0 : Kd.C (Kd.int .i64) w A0 l0.length l0) (hc0 : l0.length ≤ c0) (h : slices_Index_int64_int64.f k l0 a1 = some r) :
  Calls Try.prog 121 #[.slice A0 l0.length c0, .int .i64 a1] w fun e w' => e = .returned (.int .i64 r) ∧ Drawn0 w w' := by
 have HR0 := Aside0.mk hr0
 have HC0 := Aside0.mk hc0
 clear hr0 hc0
 have H : (slices_Index_int64_int64.l0 k l0 a1 (l0.length : Int) 0) = some r := h
 clear h
 have H' := Aside0.mk H
 clear H
 go_enter Try.func121, Try.ntmps121
 go_wp2
 go_loopg [8] k (fun kq v8 w' => ∃ (x8_1 : Int), v8 = .int .i64 x8_1 ∧ Aside0 (slices_Index_int64_int64.l0 kq l0 a1 (l0.length : Int) x8_1 = some r) ∧ Aside0 (kq ≤ k) ∧ Drawn0 w w')
 case atStart => exact ⟨(0), es_, H', ⟨Nat.le_refl _⟩, by repeat (first | exact Drawn0.refl _ | apply Drawn0.step)⟩
 case round =>
  clear H'
  obtain ⟨x8_1, rfl, HA, HK1, ⟨m1, rfl⟩⟩ := hrel
  cases gk with
  | zero => exact absurd HA.out (by simp [slices_Index_int64_int64.l0])
  | succ k1 =>
   have H := HA.out
   clear HA
   simp only [slices_Index_int64_int64.l0] at H
   by_cases c3 : x8_1 < (l0.length : Int)
   ·rw [if_pos c3] at H
    have c3b0 := decide_eq_true c3
    clear c3
    obtain ⟨c4, H⟩ := itn_ H
    have c4b0 := decide_eq_true c4
    clear c4
    obtain ⟨c5, H⟩ := itn_ H
    have c5b0 := decide_eq_true c5
    clear c5
    by_cases c6 : a1 = (rd l0 x8_1)
    ·rw [if_pos c6] at H
     have c6b0 : (a1 == (rd l0 x8_1)) = true := beq_iff_eq.mpr c6
     have c6b1 : (a1 != (rd l0 x8_1)) = false := bne_eq_false_iff_eq.mpr c6
     clear c6
     obtain rfl := Option.some.inj H
     have p204 : 0 ≤ (x8_1 : Int) := od_
     have q204 : x8_1 < (l0.length : Int) := od_
     obtain ⟨ad204, e204, hx204_0⟩ := Kd.at_int HR0.out x8_1 p204 q204
     cases e204
     replace p204 := eq_true p204
     replace q204 := eq_true q204
     go_wp2
     go_ret
     exact ⟨es_, by repeat (first | exact Drawn0.refl _ | apply Drawn0.step)⟩
    ·rw [if_neg c6] at H
     have c6b0 : (a1 == (rd l0 x8_1)) = false := beq_eq_false_iff_ne.mpr c6
     have c6b1 : (a1 != (rd l0 x8_1)) = true := bne_iff_ne.mpr c6
     have H' := Aside0.mk H
     clear H
     have p204 : 0 ≤ (x8_1 : Int) := od_
     have q204 : x8_1 < (l0.length : Int) := od_
     obtain ⟨ad204, e204, hx204_0⟩ := Kd.at_int HR0.out x8_1 p204 q204
     cases e204
     replace p204 := eq_true p204
     replace q204 := eq_true q204
     go_wp2
     go_roundg k1
     case measure => have := HK1.out; omega
     case rel => exact ⟨(wrap64 (x8_1 + 1)), es_, H', ⟨by have := HK1.out; omega⟩, by repeat (first | exact Drawn0.refl _ | apply Drawn0.step)⟩
   ·rw [if_neg c3] at H
    have c3b0 := decide_eq_false c3
    clear c3
    obtain rfl := Option.some.inj H
    go_wp2
    go_ret
    exact ⟨es_, by repeat (first | exact Drawn0.refl _ | apply Drawn0.step)⟩

/-! ### slices_Contains_int64_int64: function 149 -/
def slices_Contains_int64_int64.f (k : Nat) (l0 : List Int) (a1 : Int) : Option (Bool) := (slices_Index_int64_int64.f k l0 a1).bind fun t205 => (some (decide (t205 ≥ 0)))
set_option maxHeartbeats 8000000 in
set_option maxRecDepth 100000 in
theorem slices_Contains_int64_int64.calls (k : Nat) (A0 : Option Addr) (c0 : Nat) (l0 : List Int) (a1 : Int) (r : Bool) (w : World) (hr0 : Kd.C (Kd.int .i64) w A0 l0.length l0) (hc0 : l0.length ≤ c0) (h : slices_Contains_int64_int64.f k l0 a1 = some r) :
  Calls Try.prog 149 #[.slice A0 l0.length c0, .int .i64 a1] w fun e w' => e = .returned (.bool r) ∧ Drawn0 w w' := by
 have HR0 := Aside0.mk hr0
 have HC0 := Aside0.mk hc0
 clear hr0 hc0
 have H : ((slices_Index_int64_int64.f k l0 a1).bind fun t205 => (some (decide (t205 ≥ 0)))) = some r := h
 clear h
 obtain ⟨t205, A3, H⟩ := bnd_ H
 obtain rfl := Option.some.inj H
 go_enter Try.func149, Try.ntmps149
 go_wp2_with (first | ((with_reducible refine gate_callee (f := 121) rfl ?_); refine goesL_ (some 7) rfl rfl Try.func121 (by kernel_rfl) rfl #[.slice A0 l0.length c0, .int .i64 a1] rfl arg_ ?_; (with_reducible refine (slices_Index_int64_int64.calls k _ _ l0 a1 t205 _ ?side1 ?side2 A3.out).mono ?_); (case side1 => exact Kd.C_below HR0.out bgo_); (case side2 => exact HC0.out); rintro e w' ⟨rfl, ⟨nd, rfl⟩⟩; refine ⟨_, rfl, ?_⟩))
 go_ret
 exact ⟨es_, by repeat (first | exact Drawn0.refl _ | apply Drawn0.step)⟩

/-! ### impl_isOrder: function 133 -/
def impl_isOrder.l0 : Nat → List Int → Int → Int → Int → Option (Bool)
 | 0, _, _, _, _ => none
 | k + 1, x0, x1, x6, x7 => if x7 < x6 then ((slices_Contains_int64_int64.f k x0 x7).bind fun t206 => (if t206 = true then (impl_isOrder.l0 k x0 x1 x6 (wrap64 (x7 + 1))) else (some false))) else (some ((x0.length : Int) == x1))
def impl_isOrder.f (k : Nat) (l0 : List Int) (a1 : Int) : Option (Bool) := impl_isOrder.l0 k l0 a1 a1 0
set_option maxHeartbeats 8000000 in
set_option maxRecDepth 100000 in
theorem impl_isOrder.calls (k : Nat) (A0 : Option Addr) (c0 : Nat) (l0 : List Int) (a1 : Int) (r : Bool) (w : World) (hr0 : Kd.C (Kd.int .i64) w A0 l0.length l0) (hc0 : l0.length ≤ c0) (h : impl_isOrder.f k l0 a1 = some r) :
  Calls Try.prog 133 #[.slice A0 l0.length c0, .int .i64 a1] w fun e w' => e = .returned (.bool r) ∧ Drawn0 w w' := by
 have HR0 := Aside0.mk hr0
 have HC0 := Aside0.mk hc0
 clear hr0 hc0
 have H : (impl_isOrder.l0 k l0 a1 a1 0) = some r := h
 clear h
 have H' := Aside0.mk H
 clear H
 go_enter Try.func133, Try.ntmps133
 go_wp2
 go_loopg [7] k (fun kq v7 w' => ∃ (x7_1 : Int), v7 = .int .i64 x7_1 ∧ Aside0 (impl_isOrder.l0 kq l0 a1 a1 x7_1 = some r) ∧ Aside0 (kq ≤ k) ∧ Drawn0 w w')
 case atStart => exact ⟨(0), es_, H', ⟨Nat.le_refl _⟩, by repeat (first | exact Drawn0.refl _ | apply Drawn0.step)⟩
 case round =>
  clear H'
  obtain ⟨x7_1, rfl, HA, HK1, ⟨m1, rfl⟩⟩ := hrel
  cases gk with
  | zero => exact absurd HA.out (by simp [impl_isOrder.l0])
  | succ k1 =>
   have H := HA.out
   clear HA
   simp only [impl_isOrder.l0] at H
   by_cases c3 : x7_1 < a1
   ·rw [if_pos c3] at H
    have c3b0 := decide_eq_true c3
    clear c3
    obtain ⟨t206, A4, H⟩ := bnd_ H
    by_cases c5 : t206 = true
    ·subst c5
     have H1 : (impl_isOrder.l0 k1 l0 a1 a1 (wrap64 (x7_1 + 1))) = some r := by rw [if_pos rfl] at H; exact H
     clear H
     have H := H1
     clear H1
     have H' := Aside0.mk H
     clear H
     go_wp2_with (first | ((with_reducible refine gate_callee (f := 149) rfl ?_); refine goesL_ (some 12) rfl rfl Try.func149 (by kernel_rfl) rfl #[.slice A0 l0.length c0, .int .i64 x7_1] rfl arg_ ?_; (with_reducible refine (slices_Contains_int64_int64.calls k1 _ _ l0 x7_1 true _ ?side1 ?side2 A4.out).mono ?_); (case side1 => exact Kd.C_below HR0.out bgo_); (case side2 => exact HC0.out); rintro e w' ⟨rfl, ⟨nd, rfl⟩⟩; refine ⟨_, rfl, ?_⟩))
     go_roundg k1
     case measure => have := HK1.out; omega
     case rel => exact ⟨(wrap64 (x7_1 + 1)), es_, H', ⟨by have := HK1.out; omega⟩, by repeat (first | exact Drawn0.refl _ | apply Drawn0.step)⟩
    ·replace c5 := Bool.eq_false_iff.mpr c5
     subst c5
     have H1 : (some false) = some r := by rw [if_neg (show ¬ (false = true) by decide)] at H; exact H
     clear H
     have H := H1
     clear H1
     obtain rfl := Option.some.inj H
     go_wp2_with (first | ((with_reducible refine gate_callee (f := 149) rfl ?_); refine goesL_ (some 12) rfl rfl Try.func149 (by kernel_rfl) rfl #[.slice A0 l0.length c0, .int .i64 x7_1] rfl arg_ ?_; (with_reducible refine (slices_Contains_int64_int64.calls k1 _ _ l0 x7_1 false _ ?side1 ?side2 A4.out).mono ?_); (case side1 => exact Kd.C_below HR0.out bgo_); (case side2 => exact HC0.out); rintro e w' ⟨rfl, ⟨nd, rfl⟩⟩; refine ⟨_, rfl, ?_⟩))
     go_ret
     exact ⟨es_, by repeat (first | exact Drawn0.refl _ | apply Drawn0.step)⟩
   ·rw [if_neg c3] at H
    have c3b0 := decide_eq_false c3
    clear c3
    obtain rfl := Option.some.inj H
    go_wp2
    go_ret
    exact ⟨es_, by repeat (first | exact Drawn0.refl _ | apply Drawn0.step)⟩

-- NOT PRINTED: function 132 (impl_IsCover_1)

/-! ### impl_IsCover_1: function 100002 -/
def impl_IsCover_1.f (k : Nat) (l0 : List Int) (a1_0 : Int) (l1_1 : List (List Int)) (a1_2 : Int) (l1_3 : List (List Int)) : Option (Bool) := (impl_isOrder.f k l0 a1_2).bind fun t215 => (some (!t215))
set_option maxHeartbeats 8000000 in
set_option maxRecDepth 100000 in
theorem impl_IsCover_1.calls (k : Nat) (A0 : Option Addr) (c0 : Nat) (l0 : List Int) (gq1_0 : Nat) (a1_0 : Int) (A1_1 : Option Addr) (c1_1 : Nat) (l1_1 : List (List Int)) (a1_2 : Int) (A1_3 : Option Addr) (c1_3 : Nat) (l1_3 : List (List Int)) (r : Bool) (w : World) (hr0 : Kd.C (Kd.int .i64) w A0 l0.length l0) (hc0 : l0.length ≤ c0) (hbgq1_0 : w.heap[gq1_0]? = some (.cells #[.int .i64 a1_0, .slice A1_1 l1_1.length c1_1, .int .i64 a1_2, .slice A1_3 l1_3.length c1_3] 52 (0, 0))) (hr1_1 : Kd.C (Kd.slice 2 (Kd.int .i64)) w A1_1 l1_1.length l1_1) (hc1_1 : l1_1.length ≤ c1_1) (hr1_3 : Kd.C (Kd.slice 2 (Kd.int .i64)) w A1_3 l1_3.length l1_3) (hc1_3 : l1_3.length ≤ c1_3) (h : impl_IsCover_1.f k l0 a1_0 l1_1 a1_2 l1_3 = some r) :
  Calls Try.prog 132 #[.slice A0 l0.length c0, .pointer (some ⟨gq1_0, 0, none⟩)] w fun e w' => e = .returned (.bool r) ∧ Below w.heap.size w w' := by
 have HR0 := Aside0.mk hr0
 have HC0 := Aside0.mk hc0
 clear hr0 hc0
 have HR1_1 := Aside0.mk hr1_1
 have HC1_1 := Aside0.mk hc1_1
 clear hr1_1 hc1_1
 have HR1_3 := Aside0.mk hr1_3
 have HC1_3 := Aside0.mk hc1_3
 clear hr1_3 hc1_3
 have BK214 := Aside0.mk hbgq1_0
 clear hbgq1_0
 have HB := Aside0.mk (Below.refl w.heap.size w)
 have H : ((impl_isOrder.f k l0 a1_2).bind fun t215 => (some (!t215))) = some r := h
 clear h
 obtain ⟨t215, A3, H⟩ := bnd_ H
 obtain rfl := Option.some.inj H
 have hcz4_0 : w.cell? ⟨gq1_0, 0, none⟩ = some (.int .i64 a1_0) := (blk_cell BK214.out 0).trans rfl
 have hcz4_1 : w.cell? ⟨gq1_0, 1, none⟩ = some (.slice A1_1 l1_1.length c1_1) := (blk_cell BK214.out 1).trans rfl
 have hcz4_2 : w.cell? ⟨gq1_0, 2, none⟩ = some (.int .i64 a1_2) := (blk_cell BK214.out 2).trans rfl
 have hcz4_3 : w.cell? ⟨gq1_0, 3, none⟩ = some (.slice A1_3 l1_3.length c1_3) := (blk_cell BK214.out 3).trans rfl
 have hfz4_0 := blk_frozen BK214.out 0
 have hfz4_1 := blk_frozen BK214.out 1
 have hfz4_2 := blk_frozen BK214.out 2
 have hfz4_3 := blk_frozen BK214.out 3
 go_enter Try.func132, Try.ntmps132
 go_wp2_with (first | ((with_reducible refine gate_callee (f := 133) rfl ?_); refine goesL_ (some 7) rfl rfl Try.func133 (by kernel_rfl) rfl #[.slice A0 l0.length c0, .int .i64 a1_2] rfl arg_ ?_; (with_reducible refine (impl_isOrder.calls k _ _ l0 a1_2 t215 _ ?side1 ?side2 A3.out).mono ?_); (case side1 => exact Kd.C_below HR0.out bgo_); (case side2 => exact HC0.out); rintro e w' ⟨rfl, ⟨nd, rfl⟩⟩; refine ⟨_, rfl, ?_⟩))
 go_ret
 exact ⟨er_, hbs_⟩

/-! ### slices_IndexFunc_int64_int64_148_at_IsCover_1: function 100001 -/
def slices_IndexFunc_int64_int64_148_at_IsCover_1.l0 : Nat → List (List Int) → Int → Int → Int → List (List Int) → Int → List (List Int) → Option (Int)
 | 0, _, _, _, _, _, _, _ => none
 | k + 1, x0, x7, x8, x217000, x217001, x217002, x217003 => if x8 < x7 then (if 0 ≤ x8 then (if x8 < (x0.length : Int) then ((impl_IsCover_1.f k (rd_L1 x0 x8) x217000 x217001 x217002 x217003).bind fun t218 => (if t218 = true then (some x8) else (slices_IndexFunc_int64_int64_148_at_IsCover_1.l0 k x0 x7 (wrap64 (x8 + 1)) x217000 x217001 x217002 x217003))) else (none)) else (none)) else (some (-1))
def slices_IndexFunc_int64_int64_148_at_IsCover_1.f (k : Nat) (l0 : List (List Int)) (a1_0 : Int) (l1_1 : List (List Int)) (a1_2 : Int) (l1_3 : List (List Int)) : Option (Int) := slices_IndexFunc_int64_int64_148_at_IsCover_1.l0 k l0 (l0.length : Int) 0 a1_0 l1_1 a1_2 l1_3
set_option maxHeartbeats 8000000 in
set_option maxRecDepth 100000 in
theorem slices_IndexFunc_int64_int64_148_at_IsCover_1.calls (k : Nat) (A0 : Option Addr) (c0 : Nat) (l0 : List (List Int)) (gq1_0 : Nat) (a1_0 : Int) (A1_1 : Option Addr) (c1_1 : Nat) (l1_1 : List (List Int)) (a1_2 : Int) (A1_3 : Option Addr) (c1_3 : Nat) (l1_3 : List (List Int)) (r : Int) (w : World) (hr0 : Kd.C (Kd.slice 2 (Kd.int .i64)) w A0 l0.length l0) (hc0 : l0.length ≤ c0) (hbgq1_0 : w.heap[gq1_0]? = some (.cells #[.int .i64 a1_0, .slice A1_1 l1_1.length c1_1, .int .i64 a1_2, .slice A1_3 l1_3.length c1_3] 52 (0, 0))) (hr1_1 : Kd.C (Kd.slice 2 (Kd.int .i64)) w A1_1 l1_1.length l1_1) (hc1_1 : l1_1.length ≤ c1_1) (hr1_3 : Kd.C (Kd.slice 2 (Kd.int .i64)) w A1_3 l1_3.length l1_3) (hc1_3 : l1_3.length ≤ c1_3) (h : slices_IndexFunc_int64_int64_148_at_IsCover_1.f k l0 a1_0 l1_1 a1_2 l1_3 = some r) :
  Calls Try.prog 148 #[.slice A0 l0.length c0, .func (.func 132) #[] #[.pointer (some ⟨gq1_0, 0, none⟩)]] w fun e w' => e = .returned (.int .i64 r) ∧ Below w.heap.size w w' := by
 have HR0 := Aside0.mk hr0
 have HC0 := Aside0.mk hc0
 clear hr0 hc0
 have HR1_1 := Aside0.mk hr1_1
 have HC1_1 := Aside0.mk hc1_1
 clear hr1_1 hc1_1
 have HR1_3 := Aside0.mk hr1_3
 have HC1_3 := Aside0.mk hc1_3
 clear hr1_3 hc1_3
 have BK216 := Aside0.mk hbgq1_0
 clear hbgq1_0
 have HB := Aside0.mk (Below.refl w.heap.size w)
 have H : (slices_IndexFunc_int64_int64_148_at_IsCover_1.l0 k l0 (l0.length : Int) 0 a1_0 l1_1 a1_2 l1_3) = some r := h
 clear h
 have H' := Aside0.mk H
 clear H
 go_enter Try.func148, Try.ntmps148
 go_wp2
 go_loopg [8] k (fun kq v8 w' => ∃ (x8_1 : Int), v8 = .int .i64 x8_1 ∧ Aside0 (slices_IndexFunc_int64_int64_148_at_IsCover_1.l0 kq l0 (l0.length : Int) x8_1 a1_0 l1_1 a1_2 l1_3 = some r) ∧ Aside0 (kq ≤ k) ∧ Aside0 (w'.heap[gq1_0]? = some (.cells #[.int .i64 a1_0, (.slice A1_1 l1_1.length c1_1), .int .i64 a1_2, (.slice A1_3 l1_3.length c1_3)] 52 (0, 0))) ∧ Aside0 (Below w.heap.size w w'))
 case atStart => exact ⟨(0), es_, H', ⟨Nat.le_refl _⟩, ⟨blk_below BK216.out bgo_⟩, ⟨hbs_⟩⟩
 case round =>
  clear H'
  obtain ⟨x8_1, rfl, HA, HK1, BK216, HB⟩ := hrel
  cases gk with
  | zero => exact absurd HA.out (by simp [slices_IndexFunc_int64_int64_148_at_IsCover_1.l0])
  | succ k1 =>
   have H := HA.out
   clear HA
   simp only [slices_IndexFunc_int64_int64_148_at_IsCover_1.l0] at H
   by_cases c3 : x8_1 < (l0.length : Int)
   ·rw [if_pos c3] at H
    have c3b0 := decide_eq_true c3
    clear c3
    obtain ⟨c4, H⟩ := itn_ H
    have c4b0 := decide_eq_true c4
    clear c4
    obtain ⟨c5, H⟩ := itn_ H
    have c5b0 := decide_eq_true c5
    clear c5
    obtain ⟨t218, A6, H⟩ := bnd_ H
    by_cases c7 : t218 = true
    ·subst c7
     have H1 : (some x8_1) = some r := by rw [if_pos rfl] at H; exact H
     clear H
     have H := H1
     clear H1
     obtain rfl := Option.some.inj H
     have p217 : 0 ≤ (x8_1 : Int) := od_
     have q217 : x8_1 < (l0.length : Int) := od_
     obtain ⟨ad217, A217_0, c217_0, e217, hx217_0, hl217_0, hi217_0⟩ := at_L1 HR0.out x8_1 p217 q217
     cases e217
     replace hx217_0 := (HB.out.cell (World.block_lt_of_cell? w _ hx217_0)).trans hx217_0
     have HR217_0 := Aside0.mk hi217_0
     have HC217_0 := Aside0.mk hl217_0
     clear hi217_0 hl217_0
     replace p217 := eq_true p217
     replace q217 := eq_true q217
     go_wp2_with (first | ((with_reducible refine gate_fn (t := 11) rfl ?_); refine goesF_ (some 16) rfl rfl Try.func132 (by kernel_rfl) rfl (lb := #[.pointer (some ⟨gq1_0, 0, none⟩)]) #[.slice A217_0 (rd_L1 l0 x8_1).length c217_0, .pointer (some ⟨gq1_0, 0, none⟩)] rfl (by first | rfl | (simp; done)) (by (try simp only [List.map_toArray, List.map_cons, List.map_nil, List.append_toArray, List.cons_append, List.nil_append]); first | done | rfl | (simp only [List.length_drop, List.length_take]; rfl)) ?_; (with_reducible refine (impl_IsCover_1.calls k1 _ _ (rd_L1 l0 x8_1) gq1_0 a1_0 A1_1 c1_1 l1_1 a1_2 A1_3 c1_3 l1_3 true _ ?side1 ?side2 ?side3 ?side4 ?side5 ?side6 ?side7 A6.out).mono ?_); (case side1 => exact Kd.C_below (Kd.C_below HR217_0.out HB.out) bgo_); (case side2 => exact HC217_0.out); (case side3 => exact (blk_below BK216.out bgo_)); (case side4 => exact Kd.C_below (Kd.C_below HR1_1.out HB.out) bgo_); (case side5 => exact HC1_1.out); (case side6 => exact Kd.C_below (Kd.C_below HR1_3.out HB.out) bgo_); (case side7 => exact HC1_3.out); rintro e w8 ⟨rfl, hb⟩; refine ⟨_, rfl, ?_⟩; replace BK216 := Aside0.mk (blk_below (g := gq1_0) (o := .cells #[.int .i64 a1_0, .slice A1_1 l1_1.length c1_1, .int .i64 a1_2, .slice A1_3 l1_3.length c1_3] 52 (0, 0)) (blk_below BK216.out bgo_) hb); replace HB := Aside0.mk (below_step hbs_ hb); (try clear hb); (try clear hb2); (try clear hk); (try clear hi)))
     go_ret
     exact ⟨er_, hbs_⟩
    ·replace c7 := Bool.eq_false_iff.mpr c7
     subst c7
     have H1 : (slices_IndexFunc_int64_int64_148_at_IsCover_1.l0 k1 l0 (l0.length : Int) (wrap64 (x8_1 + 1)) a1_0 l1_1 a1_2 l1_3) = some r := by rw [if_neg (show ¬ (false = true) by decide)] at H; exact H
     clear H
     have H := H1
     clear H1
     have H' := Aside0.mk H
     clear H
     have p217 : 0 ≤ (x8_1 : Int) := od_
     have q217 : x8_1 < (l0.length : Int) := od_
     obtain ⟨ad217, A217_0, c217_0, e217, hx217_0, hl217_0, hi217_0⟩ := at_L1 HR0.out x8_1 p217 q217
     cases e217
     replace hx217_0 := (HB.out.cell (World.block_lt_of_cell? w _ hx217_0)).trans hx217_0
     have HR217_0 := Aside0.mk hi217_0
     have HC217_0 := Aside0.mk hl217_0
     clear hi217_0 hl217_0
     replace p217 := eq_true p217
     replace q217 := eq_true q217
     go_wp2_with (first | ((with_reducible refine gate_fn (t := 11) rfl ?_); refine goesF_ (some 16) rfl rfl Try.func132 (by kernel_rfl) rfl (lb := #[.pointer (some ⟨gq1_0, 0, none⟩)]) #[.slice A217_0 (rd_L1 l0 x8_1).length c217_0, .pointer (some ⟨gq1_0, 0, none⟩)] rfl (by first | rfl | (simp; done)) (by (try simp only [List.map_toArray, List.map_cons, List.map_nil, List.append_toArray, List.cons_append, List.nil_append]); first | done | rfl | (simp only [List.length_drop, List.length_take]; rfl)) ?_; (with_reducible refine (impl_IsCover_1.calls k1 _ _ (rd_L1 l0 x8_1) gq1_0 a1_0 A1_1 c1_1 l1_1 a1_2 A1_3 c1_3 l1_3 false _ ?side1 ?side2 ?side3 ?side4 ?side5 ?side6 ?side7 A6.out).mono ?_); (case side1 => exact Kd.C_below (Kd.C_below HR217_0.out HB.out) bgo_); (case side2 => exact HC217_0.out); (case side3 => exact (blk_below BK216.out bgo_)); (case side4 => exact Kd.C_below (Kd.C_below HR1_1.out HB.out) bgo_); (case side5 => exact HC1_1.out); (case side6 => exact Kd.C_below (Kd.C_below HR1_3.out HB.out) bgo_); (case side7 => exact HC1_3.out); rintro e w9 ⟨rfl, hb⟩; refine ⟨_, rfl, ?_⟩; replace BK216 := Aside0.mk (blk_below (g := gq1_0) (o := .cells #[.int .i64 a1_0, .slice A1_1 l1_1.length c1_1, .int .i64 a1_2, .slice A1_3 l1_3.length c1_3] 52 (0, 0)) (blk_below BK216.out bgo_) hb); replace HB := Aside0.mk (below_step hbs_ hb); (try clear hb); (try clear hb2); (try clear hk); (try clear hi)))
     go_roundg k1
     case measure => have := HK1.out; omega
     case rel => exact ⟨(wrap64 (x8_1 + 1)), es_, H', ⟨by have := HK1.out; omega⟩, ⟨blk_below BK216.out bgo_⟩, ⟨hbs_⟩⟩
   ·rw [if_neg c3] at H
    have c3b0 := decide_eq_false c3
    clear c3
    obtain rfl := Option.some.inj H
    go_wp2
    go_ret
    exact ⟨er_, hbs_⟩

/-! ### slices_ContainsFunc_int64_int64_131_at_IsCover_1: function 100000 -/
def slices_ContainsFunc_int64_int64_131_at_IsCover_1.f (k : Nat) (l0 : List (List Int)) (a1_0 : Int) (l1_1 : List (List Int)) (a1_2 : Int) (l1_3 : List (List Int)) : Option (Bool) := (slices_IndexFunc_int64_int64_148_at_IsCover_1.f k l0 a1_0 l1_1 a1_2 l1_3).bind fun t220 => (some (decide (t220 ≥ 0)))
set_option maxHeartbeats 8000000 in
set_option maxRecDepth 100000 in
theorem slices_ContainsFunc_int64_int64_131_at_IsCover_1.calls (k : Nat) (A0 : Option Addr) (c0 : Nat) (l0 : List (List Int)) (gq1_0 : Nat) (a1_0 : Int) (A1_1 : Option Addr) (c1_1 : Nat) (l1_1 : List (List Int)) (a1_2 : Int) (A1_3 : Option Addr) (c1_3 : Nat) (l1_3 : List (List Int)) (r : Bool) (w : World) (hr0 : Kd.C (Kd.slice 2 (Kd.int .i64)) w A0 l0.length l0) (hc0 : l0.length ≤ c0) (hbgq1_0 : w.heap[gq1_0]? = some (.cells #[.int .i64 a1_0, .slice A1_1 l1_1.length c1_1, .int .i64 a1_2, .slice A1_3 l1_3.length c1_3] 52 (0, 0))) (hr1_1 : Kd.C (Kd.slice 2 (Kd.int .i64)) w A1_1 l1_1.length l1_1) (hc1_1 : l1_1.length ≤ c1_1) (hr1_3 : Kd.C (Kd.slice 2 (Kd.int .i64)) w A1_3 l1_3.length l1_3) (hc1_3 : l1_3.length ≤ c1_3) (h : slices_ContainsFunc_int64_int64_131_at_IsCover_1.f k l0 a1_0 l1_1 a1_2 l1_3 = some r) :
  Calls Try.prog 131 #[.slice A0 l0.length c0, .func (.func 132) #[] #[.pointer (some ⟨gq1_0, 0, none⟩)]] w fun e w' => e = .returned (.bool r) ∧ Below w.heap.size w w' := by
 have HR0 := Aside0.mk hr0
 have HC0 := Aside0.mk hc0
 clear hr0 hc0
 have HR1_1 := Aside0.mk hr1_1
 have HC1_1 := Aside0.mk hc1_1
 clear hr1_1 hc1_1
 have HR1_3 := Aside0.mk hr1_3
 have HC1_3 := Aside0.mk hc1_3
 clear hr1_3 hc1_3
 have BK219 := Aside0.mk hbgq1_0
 clear hbgq1_0
 have HB := Aside0.mk (Below.refl w.heap.size w)
 have H : ((slices_IndexFunc_int64_int64_148_at_IsCover_1.f k l0 a1_0 l1_1 a1_2 l1_3).bind fun t220 => (some (decide (t220 ≥ 0)))) = some r := h
 clear h
 obtain ⟨t220, A3, H⟩ := bnd_ H
 obtain rfl := Option.some.inj H
 go_enter Try.func131, Try.ntmps131
 go_wp2_with (first | ((with_reducible refine gate_callee (f := 148) rfl ?_); refine goesL_ (some 7) rfl rfl Try.func148 (by kernel_rfl) rfl #[.slice A0 l0.length c0, .func (.func 132) #[] #[.pointer (some ⟨gq1_0, 0, none⟩)]] rfl arg_ ?_; (with_reducible refine (slices_IndexFunc_int64_int64_148_at_IsCover_1.calls k _ _ l0 gq1_0 a1_0 A1_1 c1_1 l1_1 a1_2 A1_3 c1_3 l1_3 t220 _ ?side1 ?side2 ?side3 ?side4 ?side5 ?side6 ?side7 A3.out).mono ?_); (case side1 => exact Kd.C_below HR0.out bgo_); (case side2 => exact HC0.out); (case side3 => exact (blk_below BK219.out bgo_)); (case side4 => exact Kd.C_below HR1_1.out bgo_); (case side5 => exact HC1_1.out); (case side6 => exact Kd.C_below HR1_3.out bgo_); (case side7 => exact HC1_3.out); rintro e w4 ⟨rfl, hb⟩; refine ⟨_, rfl, ?_⟩; replace BK219 := Aside0.mk (blk_below (g := gq1_0) (o := .cells #[.int .i64 a1_0, .slice A1_1 l1_1.length c1_1, .int .i64 a1_2, .slice A1_3 l1_3.length c1_3] 52 (0, 0)) (blk_below BK219.out bgo_) hb); replace HB := Aside0.mk (below_step hbs_ hb); (try clear hb); (try clear hb2); (try clear hk); (try clear hi)))
 go_ret
 exact ⟨er_, hbs_⟩

end Go.Proofs.Ytipigagbgpoecaa.G
