/- The printed functions that this law reaches, and their contracts: part 2. -/
-- printed by this repo's wip/printer out of the kit's print with its own changes
import Derived.Test.YtipigagbgpoecaaC1
namespace Go.Proofs.Ytipigagbgpoecaa.G
open Go.RowKit Go.Proofs.YtipigagbgpoecaaW.PrintWords Go.Proofs.YtipigagbgpoecaaW.PrintLast Go.Proofs.YtipigagbgpoecaaW.PrintMore
attribute [local go_sem] max2_int min2_int max_two min_two max_three min_three max_four min_four   -- for this text's walks alone
set_option linter.unusedVariables false
set_option linter.unusedSimpArgs false

/-! ### spec_l03All: function 73 -/
mutual
def spec_l03All.l0 : Nat → Int → Int → List (List Int) → Int → Int → List (List Int) → Option ((List (List Int)) × Bool)
 | 0, _, _, _, _, _, _ => none
 | k + 1, x1, x6, x7, x8, x212000, x212001 => if x8 < x6 then (spec_l03All.l1 k x1 x6 x7 x8 (([] : List (List Bool))) 0 x212000 x212001) else (some (x7, true))
def spec_l03All.l1 : Nat → Int → Int → List (List Int) → Int → List (List Bool) → Int → Int → List (List Int) → Option ((List (List Int)) × Bool)
 | 0, _, _, _, _, _, _, _, _ => none
 | k + 1, x1, x6, x7, x8, x9, x10, x212000, x212001 => if x10 < x1 then (spec_l03All.l2 k x1 x6 x7 x8 x9 x10 (([] : List Bool)) 0 x212000 x212001) else ((some (([] : List (List Int)) : List (List Int))).bind fun y235 => (if 0 ≤ (wrap64 (x1 - 1)) then (if (wrap64 (x1 - 1)) < (x9.length : Int) then (if 0 ≤ x8 then (if x8 < ((rd_L5 x9 (wrap64 (x1 - 1))).length : Int) then (if rdOf false (rd_L5 x9 (wrap64 (x1 - 1))) x8 = true then (if y235.length < 5864062014805 then (spec_l03All.j5 k x1 x6 x7 x8 x9 (y235 ++ [(([x8] : List Int))]) x212000 x212001) else (none)) else (spec_l03All.j5 k x1 x6 x7 x8 x9 y235 x212000 x212001)) else (none)) else (none)) else (none)) else (none)))
def spec_l03All.l2 : Nat → Int → Int → List (List Int) → Int → List (List Bool) → Int → List Bool → Int → Int → List (List Int) → Option ((List (List Int)) × Bool)
 | 0, _, _, _, _, _, _, _, _, _, _ => none
 | k + 1, x1, x6, x7, x8, x9, x10, x11, x12, x212000, x212001 => if x12 < x6 then (if x10 = 0 then ((spec_l03Next.f x212000 x212001 x12 x8).bind fun t225 => (spec_l03All.j3 k x1 x6 x7 x8 x9 x10 x11 x12 t225 x212000 x212001)) else (spec_l03All.j3 k x1 x6 x7 x8 x9 x10 x11 x12 false x212000 x212001)) else (if x9.length < 5864062014805 then (spec_l03All.l1 k x1 x6 x7 x8 (x9 ++ [x11]) (wrap64 (x10 + 1)) x212000 x212001) else (none))
def spec_l03All.j3 : Nat → Int → Int → List (List Int) → Int → List (List Bool) → Int → List Bool → Int → Bool → Int → List (List Int) → Option ((List (List Int)) × Bool)
 | 0, _, _, _, _, _, _, _, _, _, _, _ => none
 | k + 1, x1, x6, x7, x8, x9, x10, x11, x12, x13, x212000, x212001 => spec_l03All.l3 k x1 x6 x7 x8 x9 x10 x11 x12 x13 0 x212000 x212001
def spec_l03All.l3 : Nat → Int → Int → List (List Int) → Int → List (List Bool) → Int → List Bool → Int → Bool → Int → Int → List (List Int) → Option ((List (List Int)) × Bool)
 | 0, _, _, _, _, _, _, _, _, _, _, _, _ => none
 | k + 1, x1, x6, x7, x8, x9, x10, x11, x12, x13, x14, x212000, x212001 => if x14 < x6 then (if x10 > 0 then (if x13 = true then (spec_l03All.l3 k x1 x6 x7 x8 x9 x10 x11 x12 true (wrap64 (x14 + 1)) x212000 x212001) else ((spec_l03Next.f x212000 x212001 x12 x14).bind fun t226 => (if t226 = true then (if 0 ≤ (wrap64 (x10 - 1)) then (if (wrap64 (x10 - 1)) < (x9.length : Int) then (if 0 ≤ x14 then (if x14 < ((rd_L5 x9 (wrap64 (x10 - 1))).length : Int) then (spec_l03All.l3 k x1 x6 x7 x8 x9 x10 x11 x12 (rdOf false (rd_L5 x9 (wrap64 (x10 - 1))) x14) (wrap64 (x14 + 1)) x212000 x212001) else (none)) else (none)) else (none)) else (none)) else (spec_l03All.l3 k x1 x6 x7 x8 x9 x10 x11 x12 false (wrap64 (x14 + 1)) x212000 x212001)))) else (if x11.length < 140737488355328 then (spec_l03All.l2 k x1 x6 x7 x8 x9 x10 (x11 ++ [x13]) (wrap64 (x12 + 1)) x212000 x212001) else (none))) else (if x11.length < 140737488355328 then (spec_l03All.l2 k x1 x6 x7 x8 x9 x10 (x11 ++ [x13]) (wrap64 (x12 + 1)) x212000 x212001) else (none))
def spec_l03All.j5 : Nat → Int → Int → List (List Int) → Int → List (List Bool) → List (List Int) → Int → List (List Int) → Option ((List (List Int)) × Bool)
 | 0, _, _, _, _, _, _, _, _ => none
 | k + 1, x1, x6, x7, x8, x9, x15, x212000, x212001 => spec_l03All.l4 k x1 x6 x7 x8 x9 x15 (wrap64 (x1 - 2)) x212000 x212001
def spec_l03All.l4 : Nat → Int → Int → List (List Int) → Int → List (List Bool) → List (List Int) → Int → Int → List (List Int) → Option ((List (List Int)) × Bool)
 | 0, _, _, _, _, _, _, _, _, _ => none
 | k + 1, x1, x6, x7, x8, x9, x15, x16, x212000, x212001 => if x16 ≥ 0 then ((spec_l03Longer.f k x212000 x212001 x15).bind fun t249 => (spec_l03All.l5 k x1 x6 x7 x8 x9 x16 t249 (([] : List (List Int))) 0 x212000 x212001)) else (if x7.length + x15.length < 5864062014805 then (spec_l03All.l0 k x1 x6 (x7 ++ x15) (wrap64 (x8 + 1)) x212000 x212001) else (none))
def spec_l03All.l5 : Nat → Int → Int → List (List Int) → Int → List (List Bool) → Int → List (List Int) → List (List Int) → Int → Int → List (List Int) → Option ((List (List Int)) × Bool)
 | 0, _, _, _, _, _, _, _, _, _, _, _ => none
 | k + 1, x1, x6, x7, x8, x9, x16, x17, x18, x19, x212000, x212001 => if x19 < (x17.length : Int) then (if 0 ≤ x16 then (if x16 < (x9.length : Int) then (if 0 ≤ x19 then (if 0 ≤ (wrap64 (((rd_L1 x17 x19).length : Int) - 1)) then (if (wrap64 (((rd_L1 x17 x19).length : Int) - 1)) < ((rd_L1 x17 x19).length : Int) then (if 0 ≤ (rd (rd_L1 x17 x19) (wrap64 (((rd_L1 x17 x19).length : Int) - 1))) then (if (rd (rd_L1 x17 x19) (wrap64 (((rd_L1 x17 x19).length : Int) - 1))) < ((rd_L5 x9 x16).length : Int) then (if rdOf false (rd_L5 x9 x16) (rd (rd_L1 x17 x19) (wrap64 (((rd_L1 x17 x19).length : Int) - 1))) = true then (if x18.length < 5864062014805 then (spec_l03All.l5 k x1 x6 x7 x8 x9 x16 x17 (x18 ++ [rd_L1 x17 x19]) (wrap64 (x19 + 1)) x212000 x212001) else (none)) else (spec_l03All.l5 k x1 x6 x7 x8 x9 x16 x17 x18 (wrap64 (x19 + 1)) x212000 x212001)) else (none)) else (none)) else (none)) else (none)) else (none)) else (none)) else (none)) else (spec_l03All.l4 k x1 x6 x7 x8 x9 x18 (wrap64 (x16 - 1)) x212000 x212001)
end
def spec_l03All.f (k : Nat) (a0_0 : Int) (l0_1 : List (List Int)) (a1 : Int) : Option ((List (List Int)) × Bool) := (spec_l03Count.f k a0_0 l0_1 a1).bind fun t212 => (if t212 > 400 then (some (([] : List (List Int)), false)) else (spec_l03All.l0 k a1 (wrap64 (2 * (l0_1.length : Int))) (([] : List (List Int))) 0 a0_0 l0_1))
set_option maxHeartbeats 8000000 in
set_option maxRecDepth 100000 in
theorem spec_l03All.calls (k : Nat) (a0_0 : Int) (A0_1 : Option Addr) (c0_1 : Nat) (l0_1 : List (List Int)) (a1 : Int) (r1 : List (List Int)) (r2 : Bool) (w : World) (hr0_1 : Kd.C (Kd.slice 2 (Kd.int .i64)) w A0_1 l0_1.length l0_1) (hc0_1 : l0_1.length ≤ c0_1) (h : spec_l03All.f k a0_0 l0_1 a1 = some (r1, r2)) :
  Calls Try.prog 73 #[.agg #[.int .i64 a0_0, .slice A0_1 l0_1.length c0_1], .int .i64 a1] w fun e w' => ∃ v0_ : Value, e = .returned (.tuple #[v0_, .bool r2]) ∧ Kd.N (Kd.slice 2 (Kd.int .i64)) 26 w' w.heap.size (fun k_ => (w.heap.size ≤ k_)) v0_ r1 ∧ Below w.heap.size w w' := by
 have hu29 := Try.underlying29
 have HR0_1 := Aside0.mk hr0_1
 have HC0_1 := Aside0.mk hc0_1
 clear hr0_1 hc0_1
 have HB := Aside0.mk (Below.refl w.heap.size w)
 have H : ((spec_l03Count.f k a0_0 l0_1 a1).bind fun t212 => (if t212 > 400 then (some (([] : List (List Int)), false)) else (spec_l03All.l0 k a1 (wrap64 (2 * (l0_1.length : Int))) (([] : List (List Int))) 0 a0_0 l0_1))) = some (r1, r2) := h
 clear h
 obtain ⟨t212, A3, H⟩ := bnd_ H
 by_cases c4 : t212 > 400
 ·rw [if_pos c4] at H
  have c4b0 := decide_eq_true c4
  clear c4
  simp only [Option.some.injEq, Prod.mk.injEq] at H
  obtain ⟨rfl, rfl⟩ := H
  go_enter Try.func73, Try.ntmps73
  go_wp2_with (first | ((with_reducible refine gate_dst (N := 2) rfl ?_); refine box_event ?hg (N := 2) ?hd (cs := #[.int .i64 a0_0, .slice A0_1 l0_1.length c0_1]) (t := 29) ?hr ?_; (case hd => rfl); (case hg => rfl); (case hr => first | (go_simp; done) | (go_simp; rfl)); intro gb211 hg w5 hbox hb; have BK211 := Aside0.mk (hbox); have GW211 := Aside0.mk ((by rw [hg]; exact (below_size hb_) : w.heap.size ≤ gb211)); have GE211 := Aside0.mk ((by rw [hg]; exact (below_size hb_) : w.heap.size ≤ gb211)); replace HB := Aside0.mk (below_step hb_ hb); clear hb hbox hg; have hcz6_0 : w5.cell? ⟨gb211, 0, none⟩ = some (.int .i64 a0_0) := (blk_cell BK211.out 0).trans rfl; have hcz6_1 : w5.cell? ⟨gb211, 1, none⟩ = some (.slice A0_1 l0_1.length c0_1) := (blk_cell BK211.out 1).trans rfl; have hfz6_0 := blk_frozen BK211.out 0; have hfz6_1 := blk_frozen BK211.out 1) | (go_at_call 108; (with_reducible refine (spec_l03Count.calls k a0_0 _ _ l0_1 a1 t212 _ ?side1 ?side2 A3.out).mono ?_); (case side1 => exact Kd.C_below (Kd.C_below HR0_1.out HB.out) bgo_); (case side2 => exact HC0_1.out); rintro e w7 ⟨rfl, hb⟩; replace BK211 := Aside0.mk (blk_below (g := gb211) (o := .cells #[.int .i64 a0_0, .slice A0_1 l0_1.length c0_1] 29 (0, 0)) (blk_below BK211.out bgo_) hb); replace HB := Aside0.mk (below_step hbs_ hb); (try clear hb); (try clear hb2); (try clear hk); (try clear hi)))
  repeat (go_quiet (first | ((with_reducible refine gate_dst (N := 2) rfl ?_); refine box_event ?hg (N := 2) ?hd (cs := #[.int .i64 a0_0, .slice A0_1 l0_1.length c0_1]) (t := 29) ?hr ?_; (case hd => rfl); (case hg => rfl); (case hr => first | (go_simp; done) | (go_simp; rfl)); intro gb211 hg w5 hbox hb; have BK211 := Aside0.mk (hbox); have GW211 := Aside0.mk ((by rw [hg]; exact (below_size hb_) : w.heap.size ≤ gb211)); have GE211 := Aside0.mk ((by rw [hg]; exact (below_size hb_) : w.heap.size ≤ gb211)); replace HB := Aside0.mk (below_step hb_ hb); clear hb hbox hg; have hcz6_0 : w5.cell? ⟨gb211, 0, none⟩ = some (.int .i64 a0_0) := (blk_cell BK211.out 0).trans rfl; have hcz6_1 : w5.cell? ⟨gb211, 1, none⟩ = some (.slice A0_1 l0_1.length c0_1) := (blk_cell BK211.out 1).trans rfl; have hfz6_0 := blk_frozen BK211.out 0; have hfz6_1 := blk_frozen BK211.out 1) | (go_at_call 108; (with_reducible refine (spec_l03Count.calls k a0_0 _ _ l0_1 a1 t212 _ ?side1 ?side2 A3.out).mono ?_); (case side1 => exact Kd.C_below (Kd.C_below HR0_1.out HB.out) bgo_); (case side2 => exact HC0_1.out); rintro e w7 ⟨rfl, hb⟩; replace BK211 := Aside0.mk (blk_below (g := gb211) (o := .cells #[.int .i64 a0_0, .slice A0_1 l0_1.length c0_1] 29 (0, 0)) (blk_below BK211.out bgo_) hb); replace HB := Aside0.mk (below_step hbs_ hb); (try clear hb); (try clear hb2); (try clear hk); (try clear hi))); try go_wp2_with (first | ((with_reducible refine gate_dst (N := 2) rfl ?_); refine box_event ?hg (N := 2) ?hd (cs := #[.int .i64 a0_0, .slice A0_1 l0_1.length c0_1]) (t := 29) ?hr ?_; (case hd => rfl); (case hg => rfl); (case hr => first | (go_simp; done) | (go_simp; rfl)); intro gb211 hg w5 hbox hb; have BK211 := Aside0.mk (hbox); have GW211 := Aside0.mk ((by rw [hg]; exact (below_size hb_) : w.heap.size ≤ gb211)); have GE211 := Aside0.mk ((by rw [hg]; exact (below_size hb_) : w.heap.size ≤ gb211)); replace HB := Aside0.mk (below_step hb_ hb); clear hb hbox hg; have hcz6_0 : w5.cell? ⟨gb211, 0, none⟩ = some (.int .i64 a0_0) := (blk_cell BK211.out 0).trans rfl; have hcz6_1 : w5.cell? ⟨gb211, 1, none⟩ = some (.slice A0_1 l0_1.length c0_1) := (blk_cell BK211.out 1).trans rfl; have hfz6_0 := blk_frozen BK211.out 0; have hfz6_1 := blk_frozen BK211.out 1) | (go_at_call 108; (with_reducible refine (spec_l03Count.calls k a0_0 _ _ l0_1 a1 t212 _ ?side1 ?side2 A3.out).mono ?_); (case side1 => exact Kd.C_below (Kd.C_below HR0_1.out HB.out) bgo_); (case side2 => exact HC0_1.out); rintro e w7 ⟨rfl, hb⟩; replace BK211 := Aside0.mk (blk_below (g := gb211) (o := .cells #[.int .i64 a0_0, .slice A0_1 l0_1.length c0_1] 29 (0, 0)) (blk_below BK211.out bgo_) hb); replace HB := Aside0.mk (below_step hbs_ hb); (try clear hb); (try clear hb2); (try clear hk); (try clear hi))))
  go_ret2
  exact ⟨_, er_, by first | exact Kd.S_nil _ _ _ _ _ | exact Kd.N_nil _ _ _ _ _ | exact Kd.V_nil _ _ _ _ _ | exact Kd.Q_nil _ _ _ _ _ | exact Kd.R_nil _ _ _ _ _, hbs_⟩
 ·rw [if_neg c4] at H
  have c4b0 := decide_eq_false c4
  clear c4
  obtain ⟨y213, Ny213, H⟩ : ∃ y213 : List (List Int), Aside0 (y213 = (([] : List (List Int)))) ∧ (spec_l03All.l0 k a1 (wrap64 (2 * (l0_1.length : Int))) y213 0 a0_0 l0_1) = some (r1, r2) := ⟨_, ⟨rfl⟩, H⟩
  have H' := Aside0.mk H
  clear H
  go_enter Try.func73, Try.ntmps73
  go_wp2_with (first | ((with_reducible refine gate_dst (N := 2) rfl ?_); refine box_event ?hg (N := 2) ?hd (cs := #[.int .i64 a0_0, .slice A0_1 l0_1.length c0_1]) (t := 29) ?hr ?_; (case hd => rfl); (case hg => rfl); (case hr => first | (go_simp; done) | (go_simp; rfl)); intro gb211 hg w8 hbox hb; have BK211 := Aside0.mk (hbox); have GW211 := Aside0.mk ((by rw [hg]; exact (below_size hb_) : w.heap.size ≤ gb211)); have GE211 := Aside0.mk ((by rw [hg]; exact (below_size hb_) : w.heap.size ≤ gb211)); replace HB := Aside0.mk (below_step hb_ hb); clear hb hbox hg; have hcz9_0 : w8.cell? ⟨gb211, 0, none⟩ = some (.int .i64 a0_0) := (blk_cell BK211.out 0).trans rfl; have hcz9_1 : w8.cell? ⟨gb211, 1, none⟩ = some (.slice A0_1 l0_1.length c0_1) := (blk_cell BK211.out 1).trans rfl; have hfz9_0 := blk_frozen BK211.out 0; have hfz9_1 := blk_frozen BK211.out 1) | (go_at_call 108; (with_reducible refine (spec_l03Count.calls k a0_0 _ _ l0_1 a1 t212 _ ?side1 ?side2 A3.out).mono ?_); (case side1 => exact Kd.C_below (Kd.C_below HR0_1.out HB.out) bgo_); (case side2 => exact HC0_1.out); rintro e w10 ⟨rfl, hb⟩; replace BK211 := Aside0.mk (blk_below (g := gb211) (o := .cells #[.int .i64 a0_0, .slice A0_1 l0_1.length c0_1] 29 (0, 0)) (blk_below BK211.out bgo_) hb); replace HB := Aside0.mk (below_step hbs_ hb); (try clear hb); (try clear hb2); (try clear hk); (try clear hi); have hcz11_0 : w10.cell? ⟨gb211, 0, none⟩ = some (.int .i64 a0_0) := (blk_cell BK211.out 0).trans rfl; have hcz11_1 : w10.cell? ⟨gb211, 1, none⟩ = some (.slice A0_1 l0_1.length c0_1) := (blk_cell BK211.out 1).trans rfl; have hfz11_0 := blk_frozen BK211.out 0; have hfz11_1 := blk_frozen BK211.out 1) | ((with_reducible refine gate_dst (N := 28) rfl ?_); refine Kd.N_lit (Kd.slice 2 (Kd.int .i64)) _ 26 ?hg (N' := 28) ?hd (xs := ([] : List (List Int))) (inner := []) (ok := (fun k_ => (w.heap.size ≤ k_) ∧ k_ ≠ gb211)) (okp := (fun k_ => (w.heap.size ≤ k_) ∧ k_ ≠ gb211)) ?hr ?hp (fun _ hk => hk) ((show ∀ k_, w10.heap.size ≤ k_ → (fun k_ => (w.heap.size ≤ k_) ∧ k_ ≠ gb211) k_ from fun k_ hk => ⟨(Nat.le_trans (below_size hbs_) hk), Kd.freshB (g := gb211) (o := .cells #[.int .i64 a0_0, .slice A0_1 l0_1.length c0_1] 29 (0, 0)) (blk_below BK211.out bgo_) k_ hk⟩) _ (Nat.le_refl _)) (Below.refl _ _) (Nat.le_refl _) (by simp) ?_; (case hd => rfl); (case hg => rfl); (case hr => first | (go_simp; done) | (go_simp; rfl)); (case hp => exact (Reps.none _ _)); intro v214 w12 ho13 hb hg_ hnew_; clear hg_ hnew_; (first | rw [← Ny213.out] at ho13 | (simp only [Int.reduceToNat] at ho13; rw [← Ny213.out] at ho13)); have HO215 := Aside0.mk (Kd.N_lower ho13 (below_size hbs_)); replace BK211 := Aside0.mk (blk_below (g := gb211) (o := .cells #[.int .i64 a0_0, .slice A0_1 l0_1.length c0_1] 29 (0, 0)) (blk_below BK211.out bgo_) hb); replace HB := Aside0.mk (below_step hbs_ hb); clear hb ho13))
  repeat (go_quiet (first | ((with_reducible refine gate_dst (N := 2) rfl ?_); refine box_event ?hg (N := 2) ?hd (cs := #[.int .i64 a0_0, .slice A0_1 l0_1.length c0_1]) (t := 29) ?hr ?_; (case hd => rfl); (case hg => rfl); (case hr => first | (go_simp; done) | (go_simp; rfl)); intro gb211 hg w8 hbox hb; have BK211 := Aside0.mk (hbox); have GW211 := Aside0.mk ((by rw [hg]; exact (below_size hb_) : w.heap.size ≤ gb211)); have GE211 := Aside0.mk ((by rw [hg]; exact (below_size hb_) : w.heap.size ≤ gb211)); replace HB := Aside0.mk (below_step hb_ hb); clear hb hbox hg; have hcz9_0 : w8.cell? ⟨gb211, 0, none⟩ = some (.int .i64 a0_0) := (blk_cell BK211.out 0).trans rfl; have hcz9_1 : w8.cell? ⟨gb211, 1, none⟩ = some (.slice A0_1 l0_1.length c0_1) := (blk_cell BK211.out 1).trans rfl; have hfz9_0 := blk_frozen BK211.out 0; have hfz9_1 := blk_frozen BK211.out 1) | (go_at_call 108; (with_reducible refine (spec_l03Count.calls k a0_0 _ _ l0_1 a1 t212 _ ?side1 ?side2 A3.out).mono ?_); (case side1 => exact Kd.C_below (Kd.C_below HR0_1.out HB.out) bgo_); (case side2 => exact HC0_1.out); rintro e w10 ⟨rfl, hb⟩; replace BK211 := Aside0.mk (blk_below (g := gb211) (o := .cells #[.int .i64 a0_0, .slice A0_1 l0_1.length c0_1] 29 (0, 0)) (blk_below BK211.out bgo_) hb); replace HB := Aside0.mk (below_step hbs_ hb); (try clear hb); (try clear hb2); (try clear hk); (try clear hi); have hcz11_0 : w10.cell? ⟨gb211, 0, none⟩ = some (.int .i64 a0_0) := (blk_cell BK211.out 0).trans rfl; have hcz11_1 : w10.cell? ⟨gb211, 1, none⟩ = some (.slice A0_1 l0_1.length c0_1) := (blk_cell BK211.out 1).trans rfl; have hfz11_0 := blk_frozen BK211.out 0; have hfz11_1 := blk_frozen BK211.out 1) | ((with_reducible refine gate_dst (N := 28) rfl ?_); refine Kd.N_lit (Kd.slice 2 (Kd.int .i64)) _ 26 ?hg (N' := 28) ?hd (xs := ([] : List (List Int))) (inner := []) (ok := (fun k_ => (w.heap.size ≤ k_) ∧ k_ ≠ gb211)) (okp := (fun k_ => (w.heap.size ≤ k_) ∧ k_ ≠ gb211)) ?hr ?hp (fun _ hk => hk) ((show ∀ k_, w10.heap.size ≤ k_ → (fun k_ => (w.heap.size ≤ k_) ∧ k_ ≠ gb211) k_ from fun k_ hk => ⟨(Nat.le_trans (below_size hbs_) hk), Kd.freshB (g := gb211) (o := .cells #[.int .i64 a0_0, .slice A0_1 l0_1.length c0_1] 29 (0, 0)) (blk_below BK211.out bgo_) k_ hk⟩) _ (Nat.le_refl _)) (Below.refl _ _) (Nat.le_refl _) (by simp) ?_; (case hd => rfl); (case hg => rfl); (case hr => first | (go_simp; done) | (go_simp; rfl)); (case hp => exact (Reps.none _ _)); intro v214 w12 ho13 hb hg_ hnew_; clear hg_ hnew_; (first | rw [← Ny213.out] at ho13 | (simp only [Int.reduceToNat] at ho13; rw [← Ny213.out] at ho13)); have HO215 := Aside0.mk (Kd.N_lower ho13 (below_size hbs_)); replace BK211 := Aside0.mk (blk_below (g := gb211) (o := .cells #[.int .i64 a0_0, .slice A0_1 l0_1.length c0_1] 29 (0, 0)) (blk_below BK211.out bgo_) hb); replace HB := Aside0.mk (below_step hbs_ hb); clear hb ho13)); try go_wp2_with (first | ((with_reducible refine gate_dst (N := 2) rfl ?_); refine box_event ?hg (N := 2) ?hd (cs := #[.int .i64 a0_0, .slice A0_1 l0_1.length c0_1]) (t := 29) ?hr ?_; (case hd => rfl); (case hg => rfl); (case hr => first | (go_simp; done) | (go_simp; rfl)); intro gb211 hg w8 hbox hb; have BK211 := Aside0.mk (hbox); have GW211 := Aside0.mk ((by rw [hg]; exact (below_size hb_) : w.heap.size ≤ gb211)); have GE211 := Aside0.mk ((by rw [hg]; exact (below_size hb_) : w.heap.size ≤ gb211)); replace HB := Aside0.mk (below_step hb_ hb); clear hb hbox hg; have hcz9_0 : w8.cell? ⟨gb211, 0, none⟩ = some (.int .i64 a0_0) := (blk_cell BK211.out 0).trans rfl; have hcz9_1 : w8.cell? ⟨gb211, 1, none⟩ = some (.slice A0_1 l0_1.length c0_1) := (blk_cell BK211.out 1).trans rfl; have hfz9_0 := blk_frozen BK211.out 0; have hfz9_1 := blk_frozen BK211.out 1) | (go_at_call 108; (with_reducible refine (spec_l03Count.calls k a0_0 _ _ l0_1 a1 t212 _ ?side1 ?side2 A3.out).mono ?_); (case side1 => exact Kd.C_below (Kd.C_below HR0_1.out HB.out) bgo_); (case side2 => exact HC0_1.out); rintro e w10 ⟨rfl, hb⟩; replace BK211 := Aside0.mk (blk_below (g := gb211) (o := .cells #[.int .i64 a0_0, .slice A0_1 l0_1.length c0_1] 29 (0, 0)) (blk_below BK211.out bgo_) hb); replace HB := Aside0.mk (below_step hbs_ hb); (try clear hb); (try clear hb2); (try clear hk); (try clear hi); have hcz11_0 : w10.cell? ⟨gb211, 0, none⟩ = some (.int .i64 a0_0) := (blk_cell BK211.out 0).trans rfl; have hcz11_1 : w10.cell? ⟨gb211, 1, none⟩ = some (.slice A0_1 l0_1.length c0_1) := (blk_cell BK211.out 1).trans rfl; have hfz11_0 := blk_frozen BK211.out 0; have hfz11_1 := blk_frozen BK211.out 1) | ((with_reducible refine gate_dst (N := 28) rfl ?_); refine Kd.N_lit (Kd.slice 2 (Kd.int .i64)) _ 26 ?hg (N' := 28) ?hd (xs := ([] : List (List Int))) (inner := []) (ok := (fun k_ => (w.heap.size ≤ k_) ∧ k_ ≠ gb211)) (okp := (fun k_ => (w.heap.size ≤ k_) ∧ k_ ≠ gb211)) ?hr ?hp (fun _ hk => hk) ((show ∀ k_, w10.heap.size ≤ k_ → (fun k_ => (w.heap.size ≤ k_) ∧ k_ ≠ gb211) k_ from fun k_ hk => ⟨(Nat.le_trans (below_size hbs_) hk), Kd.freshB (g := gb211) (o := .cells #[.int .i64 a0_0, .slice A0_1 l0_1.length c0_1] 29 (0, 0)) (blk_below BK211.out bgo_) k_ hk⟩) _ (Nat.le_refl _)) (Below.refl _ _) (Nat.le_refl _) (by simp) ?_; (case hd => rfl); (case hg => rfl); (case hr => first | (go_simp; done) | (go_simp; rfl)); (case hp => exact (Reps.none _ _)); intro v214 w12 ho13 hb hg_ hnew_; clear hg_ hnew_; (first | rw [← Ny213.out] at ho13 | (simp only [Int.reduceToNat] at ho13; rw [← Ny213.out] at ho13)); have HO215 := Aside0.mk (Kd.N_lower ho13 (below_size hbs_)); replace BK211 := Aside0.mk (blk_below (g := gb211) (o := .cells #[.int .i64 a0_0, .slice A0_1 l0_1.length c0_1] 29 (0, 0)) (blk_below BK211.out bgo_) hb); replace HB := Aside0.mk (below_step hbs_ hb); clear hb ho13)))
  go_loopg [7, 8] k (fun kq v7 v8 w' => ∃ (x7_1 : List (List Int)) (x8_1 : Int), v8 = .int .i64 x8_1 ∧ Aside0 (spec_l03All.l0 kq a1 (wrap64 (2 * (l0_1.length : Int))) x7_1 x8_1 a0_0 l0_1 = some (r1, r2)) ∧ Aside0 (kq ≤ k) ∧ Aside0 (Kd.N (Kd.slice 2 (Kd.int .i64)) 26 w' w.heap.size (fun k_ => (w.heap.size ≤ k_) ∧ k_ ≠ gb211) v7 x7_1) ∧ Aside0 (w'.heap[gb211]? = some (.cells #[.int .i64 a0_0, (.slice A0_1 l0_1.length c0_1)] 29 (0, 0))) ∧ Aside0 (Below w.heap.size w w'))
  case atStart => exact ⟨(y213), (0), es_, H', ⟨Nat.le_refl _⟩, ⟨Kd.N_below HO215.out bgo_⟩, ⟨blk_below BK211.out bgo_⟩, ⟨hbs_⟩⟩
  case round =>
   clear H'
   obtain ⟨x7_1, x8_1, rfl, HA, HK1, HO_7, BK211, HB⟩ := hrel
   cases gk with
   | zero => exact absurd HA.out (by simp [spec_l03All.l0])
   | succ k1 =>
    have H := HA.out
    clear HA
    simp only [spec_l03All.l0] at H
    by_cases c14 : x8_1 < (wrap64 (2 * (l0_1.length : Int)))
    ·rw [if_pos c14] at H
     have c14b0 := decide_eq_true c14
     clear c14
     obtain ⟨y216, Ny216, H⟩ : ∃ y216 : List (List Bool), Aside0 (y216 = (([] : List (List Bool)))) ∧ (spec_l03All.l1 k1 a1 (wrap64 (2 * (l0_1.length : Int))) x7_1 x8_1 y216 0 a0_0 l0_1) = some (r1, r2) := ⟨_, ⟨rfl⟩, H⟩
     have H' := Aside0.mk H
     clear H
     go_wp2_with (first | ((with_reducible refine gate_dst (N := 34) rfl ?_); refine Kd.N_lit (Kd.slice 4 Kd.bool) _ 86 ?hg (N' := 34) ?hd (xs := ([] : List (List Bool))) (inner := []) (ok := (fun k_ => (w.heap.size ≤ k_) ∧ some k_ ≠ (u7 : Value).ownBlock ∧ k_ ≠ gb211)) (okp := (fun k_ => (w.heap.size ≤ k_) ∧ some k_ ≠ (u7 : Value).ownBlock ∧ k_ ≠ gb211)) ?hr ?hp (fun _ hk => hk) ((show ∀ k_, wr.heap.size ≤ k_ → (fun k_ => (w.heap.size ≤ k_) ∧ some k_ ≠ (u7 : Value).ownBlock ∧ k_ ≠ gb211) k_ from fun k_ hk => ⟨(Nat.le_trans (below_size hbs_) hk), Kd.fresh' (Kd.N_lt (Kd.N_below HO_7.out bgo_)) k_ hk, Kd.freshB (g := gb211) (o := .cells #[.int .i64 a0_0, .slice A0_1 l0_1.length c0_1] 29 (0, 0)) (blk_below BK211.out bgo_) k_ hk⟩) _ (Nat.le_refl _)) (Below.refl _ _) (Nat.le_refl _) (by simp) ?_; (case hd => rfl); (case hg => rfl); (case hr => first | (go_simp; done) | (go_simp; rfl)); (case hp => exact (Reps.none _ _)); intro v217 w15 ho16 hb hg_ hnew_; clear hg_ hnew_; (first | rw [← Ny216.out] at ho16 | (simp only [Int.reduceToNat] at ho16; rw [← Ny216.out] at ho16)); replace HO_7 := Aside0.mk (Kd.N_elder' (Kd.N_below HO_7.out bgo_) (Kd.N_base ho16) hb); have HO218 := Aside0.mk (Kd.N_lower ho16 (below_size hbs_)); replace BK211 := Aside0.mk (blk_below (g := gb211) (o := .cells #[.int .i64 a0_0, .slice A0_1 l0_1.length c0_1] 29 (0, 0)) (blk_below BK211.out bgo_) hb); replace HB := Aside0.mk (below_step hbs_ hb); clear hb ho16))
     repeat (go_quiet (first | ((with_reducible refine gate_dst (N := 34) rfl ?_); refine Kd.N_lit (Kd.slice 4 Kd.bool) _ 86 ?hg (N' := 34) ?hd (xs := ([] : List (List Bool))) (inner := []) (ok := (fun k_ => (w.heap.size ≤ k_) ∧ some k_ ≠ (u7 : Value).ownBlock ∧ k_ ≠ gb211)) (okp := (fun k_ => (w.heap.size ≤ k_) ∧ some k_ ≠ (u7 : Value).ownBlock ∧ k_ ≠ gb211)) ?hr ?hp (fun _ hk => hk) ((show ∀ k_, wr.heap.size ≤ k_ → (fun k_ => (w.heap.size ≤ k_) ∧ some k_ ≠ (u7 : Value).ownBlock ∧ k_ ≠ gb211) k_ from fun k_ hk => ⟨(Nat.le_trans (below_size hbs_) hk), Kd.fresh' (Kd.N_lt (Kd.N_below HO_7.out bgo_)) k_ hk, Kd.freshB (g := gb211) (o := .cells #[.int .i64 a0_0, .slice A0_1 l0_1.length c0_1] 29 (0, 0)) (blk_below BK211.out bgo_) k_ hk⟩) _ (Nat.le_refl _)) (Below.refl _ _) (Nat.le_refl _) (by simp) ?_; (case hd => rfl); (case hg => rfl); (case hr => first | (go_simp; done) | (go_simp; rfl)); (case hp => exact (Reps.none _ _)); intro v217 w15 ho16 hb hg_ hnew_; clear hg_ hnew_; (first | rw [← Ny216.out] at ho16 | (simp only [Int.reduceToNat] at ho16; rw [← Ny216.out] at ho16)); replace HO_7 := Aside0.mk (Kd.N_elder' (Kd.N_below HO_7.out bgo_) (Kd.N_base ho16) hb); have HO218 := Aside0.mk (Kd.N_lower ho16 (below_size hbs_)); replace BK211 := Aside0.mk (blk_below (g := gb211) (o := .cells #[.int .i64 a0_0, .slice A0_1 l0_1.length c0_1] 29 (0, 0)) (blk_below BK211.out bgo_) hb); replace HB := Aside0.mk (below_step hbs_ hb); clear hb ho16)); try go_wp2_with (first | ((with_reducible refine gate_dst (N := 34) rfl ?_); refine Kd.N_lit (Kd.slice 4 Kd.bool) _ 86 ?hg (N' := 34) ?hd (xs := ([] : List (List Bool))) (inner := []) (ok := (fun k_ => (w.heap.size ≤ k_) ∧ some k_ ≠ (u7 : Value).ownBlock ∧ k_ ≠ gb211)) (okp := (fun k_ => (w.heap.size ≤ k_) ∧ some k_ ≠ (u7 : Value).ownBlock ∧ k_ ≠ gb211)) ?hr ?hp (fun _ hk => hk) ((show ∀ k_, wr.heap.size ≤ k_ → (fun k_ => (w.heap.size ≤ k_) ∧ some k_ ≠ (u7 : Value).ownBlock ∧ k_ ≠ gb211) k_ from fun k_ hk => ⟨(Nat.le_trans (below_size hbs_) hk), Kd.fresh' (Kd.N_lt (Kd.N_below HO_7.out bgo_)) k_ hk, Kd.freshB (g := gb211) (o := .cells #[.int .i64 a0_0, .slice A0_1 l0_1.length c0_1] 29 (0, 0)) (blk_below BK211.out bgo_) k_ hk⟩) _ (Nat.le_refl _)) (Below.refl _ _) (Nat.le_refl _) (by simp) ?_; (case hd => rfl); (case hg => rfl); (case hr => first | (go_simp; done) | (go_simp; rfl)); (case hp => exact (Reps.none _ _)); intro v217 w15 ho16 hb hg_ hnew_; clear hg_ hnew_; (first | rw [← Ny216.out] at ho16 | (simp only [Int.reduceToNat] at ho16; rw [← Ny216.out] at ho16)); replace HO_7 := Aside0.mk (Kd.N_elder' (Kd.N_below HO_7.out bgo_) (Kd.N_base ho16) hb); have HO218 := Aside0.mk (Kd.N_lower ho16 (below_size hbs_)); replace BK211 := Aside0.mk (blk_below (g := gb211) (o := .cells #[.int .i64 a0_0, .slice A0_1 l0_1.length c0_1] 29 (0, 0)) (blk_below BK211.out bgo_) hb); replace HB := Aside0.mk (below_step hbs_ hb); clear hb ho16)))
     go_loopg [9, 10] k1 (fun kq v9 v10 w' => ∃ (x9_2 : List (List Bool)) (x10_2 : Int), v10 = .int .i64 x10_2 ∧ Aside0 (spec_l03All.l1 kq a1 (wrap64 (2 * (l0_1.length : Int))) x7_1 x8_1 x9_2 x10_2 a0_0 l0_1 = some (r1, r2)) ∧ Aside0 (kq ≤ k1) ∧ Aside0 (Kd.N (Kd.slice 2 (Kd.int .i64)) 26 w' w.heap.size (fun k_ => (w.heap.size ≤ k_) ∧ some k_ ≠ (v9 : Value).ownBlock ∧ k_ ≠ gb211) u7 x7_1) ∧ Aside0 (Kd.N (Kd.slice 4 Kd.bool) 86 w' w.heap.size (fun k_ => (w.heap.size ≤ k_) ∧ some k_ ≠ (u7 : Value).ownBlock ∧ k_ ≠ gb211) v9 x9_2) ∧ Aside0 (w'.heap[gb211]? = some (.cells #[.int .i64 a0_0, (.slice A0_1 l0_1.length c0_1)] 29 (0, 0))) ∧ Aside0 (Below w.heap.size w w'))
     case atStart => exact ⟨(y216), (0), es_, H', ⟨Nat.le_refl _⟩, ⟨by (with_reducible repeat (first | apply Kd.N_alloc | apply Kd.N_drewN | apply Kd.N_drew)); exact Kd.N_mono HO_7.out (fun _ hk => ⟨hk.1.1, ⟨hk.2, hk.1.2⟩⟩)⟩, ⟨Kd.N_below HO218.out bgo_⟩, ⟨blk_below BK211.out bgo_⟩, ⟨hbs_⟩⟩
     case round =>
      clear H'
      obtain ⟨x9_2, x10_2, rfl, HA, HK2, HO_7, HO_9, BK211, HB⟩ := hrel
      cases gk with
      | zero => exact absurd HA.out (by simp [spec_l03All.l1])
      | succ k2 =>
       have H := HA.out
       clear HA
       simp only [spec_l03All.l1] at H
       by_cases c17 : x10_2 < a1
       ·rw [if_pos c17] at H
        have c17b0 := decide_eq_true c17
        clear c17
        obtain ⟨y219, Ny219, H⟩ : ∃ y219 : List Bool, Aside0 (y219 = (([] : List Bool))) ∧ (spec_l03All.l2 k2 a1 (wrap64 (2 * (l0_1.length : Int))) x7_1 x8_1 x9_2 x10_2 y219 0 a0_0 l0_1) = some (r1, r2) := ⟨_, ⟨rfl⟩, H⟩
        have H' := Aside0.mk H
        clear H
        go_wp2_with (first | ((with_reducible refine gate_dst (N := 40) rfl ?_); refine Kd.R_lit Kd.bool _ 4 ?hg (N := 40) ?hd (xs := ([] : List Bool)) (inner := []) (ok := fun _ => True) (okp := fun _ => True) ?hr ?hp (fun _ hk => hk) trivial (Below.refl _ _) (Nat.le_refl _) (by simp) ?_; (case hd => rfl); (case hg => rfl); (case hr => first | (go_simp; done) | (go_simp; rfl)); (case hp => exact (Reps.none _ _)); intro v220 w18 ho19 hb hg_ hnew_; clear hg_ hnew_; (first | rw [← Ny219.out] at ho19 | (simp only [Int.reduceToNat] at ho19; rw [← Ny219.out] at ho19)); replace HO_7 := Aside0.mk (Kd.N_elder' (Kd.N_below HO_7.out bgo_) (Kd.R_base ho19) hb); replace HO_9 := Aside0.mk (Kd.N_elder' (Kd.N_below HO_9.out bgo_) (Kd.R_base ho19) hb); have HO221 := Aside0.mk (Kd.R_lower (Kd.R_newM (M := fun k_ => (w.heap.size ≤ k_)) ho19 (below_size hbs_) (fun k_ h_ => h_)) (below_size hbs_)); replace BK211 := Aside0.mk (blk_below (g := gb211) (o := .cells #[.int .i64 a0_0, .slice A0_1 l0_1.length c0_1] 29 (0, 0)) (blk_below BK211.out bgo_) hb); replace HB := Aside0.mk (below_step hbs_ hb); clear hb ho19))
        repeat (go_quiet (first | ((with_reducible refine gate_dst (N := 40) rfl ?_); refine Kd.R_lit Kd.bool _ 4 ?hg (N := 40) ?hd (xs := ([] : List Bool)) (inner := []) (ok := fun _ => True) (okp := fun _ => True) ?hr ?hp (fun _ hk => hk) trivial (Below.refl _ _) (Nat.le_refl _) (by simp) ?_; (case hd => rfl); (case hg => rfl); (case hr => first | (go_simp; done) | (go_simp; rfl)); (case hp => exact (Reps.none _ _)); intro v220 w18 ho19 hb hg_ hnew_; clear hg_ hnew_; (first | rw [← Ny219.out] at ho19 | (simp only [Int.reduceToNat] at ho19; rw [← Ny219.out] at ho19)); replace HO_7 := Aside0.mk (Kd.N_elder' (Kd.N_below HO_7.out bgo_) (Kd.R_base ho19) hb); replace HO_9 := Aside0.mk (Kd.N_elder' (Kd.N_below HO_9.out bgo_) (Kd.R_base ho19) hb); have HO221 := Aside0.mk (Kd.R_lower (Kd.R_newM (M := fun k_ => (w.heap.size ≤ k_)) ho19 (below_size hbs_) (fun k_ h_ => h_)) (below_size hbs_)); replace BK211 := Aside0.mk (blk_below (g := gb211) (o := .cells #[.int .i64 a0_0, .slice A0_1 l0_1.length c0_1] 29 (0, 0)) (blk_below BK211.out bgo_) hb); replace HB := Aside0.mk (below_step hbs_ hb); clear hb ho19)); try go_wp2_with (first | ((with_reducible refine gate_dst (N := 40) rfl ?_); refine Kd.R_lit Kd.bool _ 4 ?hg (N := 40) ?hd (xs := ([] : List Bool)) (inner := []) (ok := fun _ => True) (okp := fun _ => True) ?hr ?hp (fun _ hk => hk) trivial (Below.refl _ _) (Nat.le_refl _) (by simp) ?_; (case hd => rfl); (case hg => rfl); (case hr => first | (go_simp; done) | (go_simp; rfl)); (case hp => exact (Reps.none _ _)); intro v220 w18 ho19 hb hg_ hnew_; clear hg_ hnew_; (first | rw [← Ny219.out] at ho19 | (simp only [Int.reduceToNat] at ho19; rw [← Ny219.out] at ho19)); replace HO_7 := Aside0.mk (Kd.N_elder' (Kd.N_below HO_7.out bgo_) (Kd.R_base ho19) hb); replace HO_9 := Aside0.mk (Kd.N_elder' (Kd.N_below HO_9.out bgo_) (Kd.R_base ho19) hb); have HO221 := Aside0.mk (Kd.R_lower (Kd.R_newM (M := fun k_ => (w.heap.size ≤ k_)) ho19 (below_size hbs_) (fun k_ h_ => h_)) (below_size hbs_)); replace BK211 := Aside0.mk (blk_below (g := gb211) (o := .cells #[.int .i64 a0_0, .slice A0_1 l0_1.length c0_1] 29 (0, 0)) (blk_below BK211.out bgo_) hb); replace HB := Aside0.mk (below_step hbs_ hb); clear hb ho19)))
        go_loopg [11, 12] k2 (fun kq v11 v12 w' => ∃ (x11_3 : List Bool) (x12_3 : Int), v12 = .int .i64 x12_3 ∧ Aside0 (spec_l03All.l2 kq a1 (wrap64 (2 * (l0_1.length : Int))) x7_1 x8_1 x9_2 x10_2 x11_3 x12_3 a0_0 l0_1 = some (r1, r2)) ∧ Aside0 (kq ≤ k2) ∧ Aside0 (Kd.N (Kd.slice 2 (Kd.int .i64)) 26 w' w.heap.size (fun k_ => (w.heap.size ≤ k_) ∧ some k_ ≠ (u9 : Value).ownBlock ∧ some k_ ≠ (v11 : Value).ownBlock ∧ k_ ≠ gb211) u7 x7_1) ∧ Aside0 (Kd.N (Kd.slice 4 Kd.bool) 86 w' w.heap.size (fun k_ => (w.heap.size ≤ k_) ∧ some k_ ≠ (u7 : Value).ownBlock ∧ some k_ ≠ (v11 : Value).ownBlock ∧ k_ ≠ gb211) u9 x9_2) ∧ Aside0 (Kd.R Kd.bool 4 w' w.heap.size (fun k_ => (w.heap.size ≤ k_)) v11 x11_3) ∧ Aside0 (w'.heap[gb211]? = some (.cells #[.int .i64 a0_0, (.slice A0_1 l0_1.length c0_1)] 29 (0, 0))) ∧ Aside0 (Below w.heap.size w w'))
        case atStart => exact ⟨(y219), (0), es_, H', ⟨Nat.le_refl _⟩, ⟨by (with_reducible repeat (first | apply Kd.N_alloc | apply Kd.N_drewN | apply Kd.N_drew)); exact Kd.N_mono HO_7.out (fun _ hk => ⟨hk.1.1, ⟨hk.1.2.1, ⟨hk.2, hk.1.2.2⟩⟩⟩)⟩, ⟨by (with_reducible repeat (first | apply Kd.N_alloc | apply Kd.N_drewN | apply Kd.N_drew)); exact Kd.N_mono HO_9.out (fun _ hk => ⟨hk.1.1, ⟨hk.1.2.1, ⟨hk.2, hk.1.2.2⟩⟩⟩)⟩, ⟨by (with_reducible repeat (first | apply Kd.R_alloc | apply Kd.R_drewN | apply Kd.R_drew)); exact Kd.R_mono HO221.out (fun _ hk => hk.1)⟩, ⟨blk_below BK211.out bgo_⟩, ⟨hbs_⟩⟩
        case round =>
         clear H'
         obtain ⟨x11_3, x12_3, rfl, HA, HK3, HO_7, HO_9, HO_11, BK211, HB⟩ := hrel
         cases gk with
         | zero => exact absurd HA.out (by simp [spec_l03All.l2])
         | succ k3 =>
          have H := HA.out
          clear HA
          simp only [spec_l03All.l2] at H
          by_cases c20 : x12_3 < (wrap64 (2 * (l0_1.length : Int)))
          ·rw [if_pos c20] at H
           have c20b0 := decide_eq_true c20
           clear c20
           have HC21 := Aside0.mk H
           clear H
           go_upto_region 15 with (fail)
           repeat (go_quiet (fail); go_upto_region 15 with (fail))
           go_cut [13] (fun v13 wc => ∃ (kq : Nat) (x13_20 : Bool), v13 = .bool x13_20 ∧ Aside0 (spec_l03All.j3 kq a1 (wrap64 (2 * (l0_1.length : Int))) x7_1 x8_1 x9_2 x10_2 x11_3 x12_3 x13_20 a0_0 l0_1 = some (r1, r2)) ∧ Aside0 (kq ≤ k3) ∧ Aside0 (Kd.N (Kd.slice 2 (Kd.int .i64)) 26 wc w.heap.size (fun k_ => (w.heap.size ≤ k_) ∧ some k_ ≠ (u9 : Value).ownBlock ∧ some k_ ≠ (u11 : Value).ownBlock ∧ k_ ≠ gb211) u7 x7_1) ∧ Aside0 (Kd.N (Kd.slice 4 Kd.bool) 86 wc w.heap.size (fun k_ => (w.heap.size ≤ k_) ∧ some k_ ≠ (u7 : Value).ownBlock ∧ some k_ ≠ (u11 : Value).ownBlock ∧ k_ ≠ gb211) u9 x9_2) ∧ Aside0 (Kd.R Kd.bool 4 wc w.heap.size (fun k_ => (w.heap.size ≤ k_)) u11 x11_3) ∧ Aside0 (wc.heap[gb211]? = some (.cells #[.int .i64 a0_0, (.slice A0_1 l0_1.length c0_1)] 29 (0, 0))) ∧ Aside0 (Below w.heap.size w wc))
           case first =>
            have H := HC21.out
            clear HC21
            by_cases c22 : x10_2 = 0
            ·rw [if_pos c22] at H
             have c22b0 : (x10_2 == 0) = true := beq_iff_eq.mpr c22
             have c22b1 : (x10_2 != 0) = false := bne_eq_false_iff_eq.mpr c22
             clear c22
             (first | rw [c22b0] | (simp only [i64_w, i32_w]; rw [c22b0]) | skip)
             obtain ⟨t225, A23, H⟩ := bnd_ H
             have H' := Aside0.mk H
             clear H
             have hcz24_0 : wr.cell? ⟨gb211, 0, none⟩ = some (.int .i64 a0_0) := (blk_cell BK211.out 0).trans rfl
             have hcz24_1 : wr.cell? ⟨gb211, 1, none⟩ = some (.slice A0_1 l0_1.length c0_1) := (blk_cell BK211.out 1).trans rfl
             have hfz24_0 := blk_frozen BK211.out 0
             have hfz24_1 := blk_frozen BK211.out 1
             go_wp2_with (first | (go_at_call 102; (with_reducible refine (spec_l03Next.calls a0_0 _ _ l0_1 x12_3 x8_1 t225 _ ?side1 ?side2 A23.out).mono ?_); (case side1 => exact Kd.C_below (Kd.C_below HR0_1.out HB.out) bgo_); (case side2 => exact HC0_1.out); rintro e w25 ⟨rfl, hb⟩; replace HO_7 := Aside0.mk (Kd.N_below (Kd.N_below HO_7.out bgo_) hb); replace HO_9 := Aside0.mk (Kd.N_below (Kd.N_below HO_9.out bgo_) hb); replace HO_11 := Aside0.mk (Kd.R_below (Kd.R_below HO_11.out bgo_) hb); replace BK211 := Aside0.mk (blk_below (g := gb211) (o := .cells #[.int .i64 a0_0, .slice A0_1 l0_1.length c0_1] 29 (0, 0)) (blk_below BK211.out bgo_) hb); replace HB := Aside0.mk (below_step hbs_ hb); (try clear hb); (try clear hb2); (try clear hk); (try clear hi)))
             repeat (go_quiet (first | (go_at_call 102; (with_reducible refine (spec_l03Next.calls a0_0 _ _ l0_1 x12_3 x8_1 t225 _ ?side1 ?side2 A23.out).mono ?_); (case side1 => exact Kd.C_below (Kd.C_below HR0_1.out HB.out) bgo_); (case side2 => exact HC0_1.out); rintro e w25 ⟨rfl, hb⟩; replace HO_7 := Aside0.mk (Kd.N_below (Kd.N_below HO_7.out bgo_) hb); replace HO_9 := Aside0.mk (Kd.N_below (Kd.N_below HO_9.out bgo_) hb); replace HO_11 := Aside0.mk (Kd.R_below (Kd.R_below HO_11.out bgo_) hb); replace BK211 := Aside0.mk (blk_below (g := gb211) (o := .cells #[.int .i64 a0_0, .slice A0_1 l0_1.length c0_1] 29 (0, 0)) (blk_below BK211.out bgo_) hb); replace HB := Aside0.mk (below_step hbs_ hb); (try clear hb); (try clear hb2); (try clear hk); (try clear hi))); try go_wp2_with (first | (go_at_call 102; (with_reducible refine (spec_l03Next.calls a0_0 _ _ l0_1 x12_3 x8_1 t225 _ ?side1 ?side2 A23.out).mono ?_); (case side1 => exact Kd.C_below (Kd.C_below HR0_1.out HB.out) bgo_); (case side2 => exact HC0_1.out); rintro e w25 ⟨rfl, hb⟩; replace HO_7 := Aside0.mk (Kd.N_below (Kd.N_below HO_7.out bgo_) hb); replace HO_9 := Aside0.mk (Kd.N_below (Kd.N_below HO_9.out bgo_) hb); replace HO_11 := Aside0.mk (Kd.R_below (Kd.R_below HO_11.out bgo_) hb); replace BK211 := Aside0.mk (blk_below (g := gb211) (o := .cells #[.int .i64 a0_0, .slice A0_1 l0_1.length c0_1] 29 (0, 0)) (blk_below BK211.out bgo_) hb); replace HB := Aside0.mk (below_step hbs_ hb); (try clear hb); (try clear hb2); (try clear hk); (try clear hi))))
             go_meet
             case rel => exact ⟨_, (t225), es_, H', ⟨by have := HK1.out; have := HK2.out; have := HK3.out; first | omega | exact Nat.le_refl _⟩, ⟨Kd.N_below HO_7.out bgo_⟩, ⟨Kd.N_below HO_9.out bgo_⟩, ⟨Kd.R_below HO_11.out bgo_⟩, ⟨blk_below BK211.out bgo_⟩, ⟨hbs_⟩⟩
            ·rw [if_neg c22] at H
             have c22b0 : (x10_2 == 0) = false := beq_eq_false_iff_ne.mpr c22
             have c22b1 : (x10_2 != 0) = true := bne_iff_ne.mpr c22
             (first | rw [c22b0] | (simp only [i64_w, i32_w]; rw [c22b0]) | skip)
             have H' := Aside0.mk H
             clear H
             go_wp2
             repeat (go_quiet (fail); try go_wp2)
             go_meet
             case rel => exact ⟨_, (false), es_, H', ⟨by have := HK1.out; have := HK2.out; have := HK3.out; first | omega | exact Nat.le_refl _⟩, ⟨Kd.N_below HO_7.out bgo_⟩, ⟨Kd.N_below HO_9.out bgo_⟩, ⟨Kd.R_below HO_11.out bgo_⟩, ⟨blk_below BK211.out bgo_⟩, ⟨hbs_⟩⟩
           case rest =>
            clear HC21
            obtain ⟨kq, x13_20, rfl, HA, HJ20, HO_7, HO_9, HO_11, BK211, HB⟩ := hcut
            cases kq with
            | zero => exact absurd HA.out (by simp [spec_l03All.j3])
            | succ kj20 =>
             have H := HA.out
             clear HA
             simp only [spec_l03All.j3] at H
             have H' := Aside0.mk H
             clear H
             go_wp2
             repeat (go_quiet (fail); try go_wp2)
             go_loopg [13, 14] kj20 (fun kq v13 v14 w' => ∃ (x13_5 : Bool) (x14_5 : Int), v13 = .bool x13_5 ∧ v14 = .int .i64 x14_5 ∧ Aside0 (spec_l03All.l3 kq a1 (wrap64 (2 * (l0_1.length : Int))) x7_1 x8_1 x9_2 x10_2 x11_3 x12_3 x13_5 x14_5 a0_0 l0_1 = some (r1, r2)) ∧ Aside0 (kq ≤ kj20) ∧ Aside0 (Kd.N (Kd.slice 2 (Kd.int .i64)) 26 w' w.heap.size (fun k_ => (w.heap.size ≤ k_) ∧ some k_ ≠ (u9 : Value).ownBlock ∧ some k_ ≠ (u11 : Value).ownBlock ∧ k_ ≠ gb211) u7 x7_1) ∧ Aside0 (Kd.N (Kd.slice 4 Kd.bool) 86 w' w.heap.size (fun k_ => (w.heap.size ≤ k_) ∧ some k_ ≠ (u7 : Value).ownBlock ∧ some k_ ≠ (u11 : Value).ownBlock ∧ k_ ≠ gb211) u9 x9_2) ∧ Aside0 (Kd.R Kd.bool 4 w' w.heap.size (fun k_ => (w.heap.size ≤ k_)) u11 x11_3) ∧ Aside0 (w'.heap[gb211]? = some (.cells #[.int .i64 a0_0, (.slice A0_1 l0_1.length c0_1)] 29 (0, 0))) ∧ Aside0 (Below w.heap.size w w'))
             case atStart => exact ⟨(x13_20), (0), es_, es_, H', ⟨Nat.le_refl _⟩, ⟨Kd.N_below HO_7.out bgo_⟩, ⟨Kd.N_below HO_9.out bgo_⟩, ⟨Kd.R_below HO_11.out bgo_⟩, ⟨blk_below BK211.out bgo_⟩, ⟨hbs_⟩⟩
             case round =>
              clear H'
              obtain ⟨x13_5, x14_5, rfl, rfl, HA, HK5, HO_7, HO_9, HO_11, BK211, HB⟩ := hrel
              cases gk with
              | zero => exact absurd HA.out (by simp [spec_l03All.l3])
              | succ k5 =>
               have H := HA.out
               clear HA
               simp only [spec_l03All.l3] at H
               by_cases c26 : x14_5 < (wrap64 (2 * (l0_1.length : Int)))
               ·rw [if_pos c26] at H
                have c26b0 := decide_eq_true c26
                clear c26
                by_cases c27 : x10_2 > 0
                ·rw [if_pos c27] at H
                 have c27b0 := decide_eq_true c27
                 clear c27
                 by_cases c28 : x13_5 = true
                 ·subst c28
                  have H1 : (spec_l03All.l3 k5 a1 (wrap64 (2 * (l0_1.length : Int))) x7_1 x8_1 x9_2 x10_2 x11_3 x12_3 true (wrap64 (x14_5 + 1)) a0_0 l0_1) = some (r1, r2) := by rw [if_pos rfl] at H; exact H
                  clear H
                  have H := H1
                  clear H1
                  have H' := Aside0.mk H
                  clear H
                  go_wp2
                  repeat (go_quiet (fail); try go_wp2)
                  first | go_roundg k5 | (refine Handed.intro k5 ?measure ?_; rotate_left; go_step; (try simp only [add_plain]); (repeat apply Exists.intro); refine ⟨?rel, rfl⟩)
                  case measure => have := HK1.out; have := HK2.out; have := HK3.out; have := HJ20.out; have := HK5.out; omega
                  case rel => exact ⟨(true), (wrap64 (x14_5 + 1)), es_, es_, H', ⟨by have := HK1.out; have := HK2.out; have := HK3.out; have := HJ20.out; have := HK5.out; omega⟩, ⟨Kd.N_below HO_7.out bgo_⟩, ⟨Kd.N_below HO_9.out bgo_⟩, ⟨Kd.R_below HO_11.out bgo_⟩, ⟨blk_below BK211.out bgo_⟩, ⟨hbs_⟩⟩
                 ·replace c28 := Bool.eq_false_iff.mpr c28
                  subst c28
                  have H1 : ((spec_l03Next.f a0_0 l0_1 x12_3 x14_5).bind fun t226 => (if t226 = true then (if 0 ≤ (wrap64 (x10_2 - 1)) then (if (wrap64 (x10_2 - 1)) < (x9_2.length : Int) then (if 0 ≤ x14_5 then (if x14_5 < ((rd_L5 x9_2 (wrap64 (x10_2 - 1))).length : Int) then (spec_l03All.l3 k5 a1 (wrap64 (2 * (l0_1.length : Int))) x7_1 x8_1 x9_2 x10_2 x11_3 x12_3 (rdOf false (rd_L5 x9_2 (wrap64 (x10_2 - 1))) x14_5) (wrap64 (x14_5 + 1)) a0_0 l0_1) else (none)) else (none)) else (none)) else (none)) else (spec_l03All.l3 k5 a1 (wrap64 (2 * (l0_1.length : Int))) x7_1 x8_1 x9_2 x10_2 x11_3 x12_3 false (wrap64 (x14_5 + 1)) a0_0 l0_1))) = some (r1, r2) := by rw [if_neg (show ¬ (false = true) by decide)] at H; exact H
                  clear H
                  have H := H1
                  clear H1
                  obtain ⟨t226, A29, H⟩ := bnd_ H
                  by_cases c30 : t226 = true
                  ·subst c30
                   have H1 : (if 0 ≤ (wrap64 (x10_2 - 1)) then (if (wrap64 (x10_2 - 1)) < (x9_2.length : Int) then (if 0 ≤ x14_5 then (if x14_5 < ((rd_L5 x9_2 (wrap64 (x10_2 - 1))).length : Int) then (spec_l03All.l3 k5 a1 (wrap64 (2 * (l0_1.length : Int))) x7_1 x8_1 x9_2 x10_2 x11_3 x12_3 (rdOf false (rd_L5 x9_2 (wrap64 (x10_2 - 1))) x14_5) (wrap64 (x14_5 + 1)) a0_0 l0_1) else (none)) else (none)) else (none)) else (none)) = some (r1, r2) := by rw [if_pos rfl] at H; exact H
                   clear H
                   have H := H1
                   clear H1
                   obtain ⟨ji31, hji31⟩ : ∃ j_ : Int, (wrap64 (x10_2 - 1)) = j_ := ⟨_, rfl⟩
                   (try rw [hji31])
                   replace H : (if 0 ≤ (ji31) then (if (ji31) < (x9_2.length : Int) then (if 0 ≤ x14_5 then (if x14_5 < ((rd_L5 x9_2 (ji31)).length : Int) then (spec_l03All.l3 k5 a1 (wrap64 (2 * (l0_1.length : Int))) x7_1 x8_1 x9_2 x10_2 x11_3 x12_3 (rdOf false (rd_L5 x9_2 (ji31)) x14_5) (wrap64 (x14_5 + 1)) a0_0 l0_1) else (none)) else (none)) else (none)) else (none)) = some (r1, r2) := by first | (rw [hji31] at H; exact H) | (simp only [hji31] at H ⊢; exact H)
                   (try rw [hji31] at A29)
                   have hji31w : (IntKind.i64.wrap (x10_2 - 1)) = ji31 := (i64_w _).trans hji31
                   obtain ⟨c32, H⟩ := itn_ H
                   have c32b0 := decide_eq_true c32
                   clear c32
                   obtain ⟨c33, H⟩ := itn_ H
                   have c33b0 := decide_eq_true c33
                   clear c33
                   obtain ⟨c34, H⟩ := itn_ H
                   have c34b0 := decide_eq_true c34
                   clear c34
                   obtain ⟨c35, H⟩ := itn_ H
                   have c35b0 := decide_eq_true c35
                   clear c35
                   have H' := Aside0.mk H
                   clear H
                   have hcz36_0 : wr.cell? ⟨gb211, 0, none⟩ = some (.int .i64 a0_0) := (blk_cell BK211.out 0).trans rfl
                   have hcz36_1 : wr.cell? ⟨gb211, 1, none⟩ = some (.slice A0_1 l0_1.length c0_1) := (blk_cell BK211.out 1).trans rfl
                   have hfz36_0 := blk_frozen BK211.out 0
                   have hfz36_1 := blk_frozen BK211.out 1
                   go_wp2_with (first | (go_at_call 102; (with_reducible refine (spec_l03Next.calls a0_0 _ _ l0_1 x12_3 x14_5 true _ ?side1 ?side2 A29.out).mono ?_); (case side1 => exact Kd.C_below (Kd.C_below HR0_1.out HB.out) bgo_); (case side2 => exact HC0_1.out); rintro e w37 ⟨rfl, hb⟩; replace HO_7 := Aside0.mk (Kd.N_below (Kd.N_below HO_7.out bgo_) hb); replace HO_9 := Aside0.mk (Kd.N_below (Kd.N_below HO_9.out bgo_) hb); replace HO_11 := Aside0.mk (Kd.R_below (Kd.R_below HO_11.out bgo_) hb); replace BK211 := Aside0.mk (blk_below (g := gb211) (o := .cells #[.int .i64 a0_0, .slice A0_1 l0_1.length c0_1] 29 (0, 0)) (blk_below BK211.out bgo_) hb); replace HB := Aside0.mk (below_step hbs_ hb); (try clear hb); (try clear hb2); (try clear hk); (try clear hi); obtain ⟨Ao38, co38, eo38⟩ := Kd.N_slice HO_9.out; subst eo38; have p227 : 0 ≤ ((ji31) : Int) := od_; have q227 : (ji31) < (x9_2.length : Int) := od_; obtain ⟨ad227, A227_0, c227_0, e227, hx227_0, hl227_0, hi227_0⟩ := at_L5 (Kd.N_reads' HO_9.out).2.2 (ji31) p227 q227; cases e227; obtain ⟨ce227, hce227, hMe227, hcc227⟩ := Kd.N_get HO_9.out [] (ji31) p227 (by first | exact q227 | exact od_ | (have e_ := (Kd.N_reads' HO_9.out).1; omega)); obtain ⟨ua227_0, uc227_0, rfl, ul227_0, ge227_0⟩ := Kd.FK_slice_open hMe227; have hv227_0 := hcc227 0 _ rfl; rw [Nat.add_zero, show ((Kd.slice 4 Kd.bool)).sz = 1 from rfl, Nat.mul_one] at hv227_0; replace hv227_0 := Option.some.inj (hv227_0.symm.trans hx227_0); injection hv227_0 with hva_ hvn_ hvc_; rw [hva_] at ge227_0; rw [hvc_] at ul227_0; have HL227_0 := Aside0.mk (show Kd.V Kd.bool 4 _ w.heap.size _ _ (rd_L5 x9_2 (ji31)) from Kd.V_mk ul227_0 ge227_0); clear hva_ hvn_ hvc_ ge227_0 ul227_0; clear hcc227 hce227; have HR227_0 := Aside0.mk hi227_0; have HC227_0 := Aside0.mk hl227_0; clear hi227_0 hl227_0; replace p227 := eq_true p227; replace q227 := eq_true q227; have p228 : 0 ≤ (x14_5 : Int) := od_; have q228 : x14_5 < ((rd_L5 x9_2 (ji31)).length : Int) := od_; obtain ⟨ad228, e228, hx228_0⟩ := Kd.at_bool (by repeat (first | (with_reducible exact HR227_0.out) | (with_reducible refine Kd.C_alloc ?_ _) | (with_reducible refine Kd.C_drewN ?_ _) | (with_reducible refine Kd.C_drew ?_) | exact HR227_0.out)) x14_5 p228 q228; cases e228; replace p228 := eq_true p228; replace q228 := eq_true q228))
                   repeat (go_quiet (first | (go_at_call 102; (with_reducible refine (spec_l03Next.calls a0_0 _ _ l0_1 x12_3 x14_5 true _ ?side1 ?side2 A29.out).mono ?_); (case side1 => exact Kd.C_below (Kd.C_below HR0_1.out HB.out) bgo_); (case side2 => exact HC0_1.out); rintro e w37 ⟨rfl, hb⟩; replace HO_7 := Aside0.mk (Kd.N_below (Kd.N_below HO_7.out bgo_) hb); replace HO_9 := Aside0.mk (Kd.N_below (Kd.N_below HO_9.out bgo_) hb); replace HO_11 := Aside0.mk (Kd.R_below (Kd.R_below HO_11.out bgo_) hb); replace BK211 := Aside0.mk (blk_below (g := gb211) (o := .cells #[.int .i64 a0_0, .slice A0_1 l0_1.length c0_1] 29 (0, 0)) (blk_below BK211.out bgo_) hb); replace HB := Aside0.mk (below_step hbs_ hb); (try clear hb); (try clear hb2); (try clear hk); (try clear hi); obtain ⟨Ao38, co38, eo38⟩ := Kd.N_slice HO_9.out; subst eo38; have p227 : 0 ≤ ((ji31) : Int) := od_; have q227 : (ji31) < (x9_2.length : Int) := od_; obtain ⟨ad227, A227_0, c227_0, e227, hx227_0, hl227_0, hi227_0⟩ := at_L5 (Kd.N_reads' HO_9.out).2.2 (ji31) p227 q227; cases e227; obtain ⟨ce227, hce227, hMe227, hcc227⟩ := Kd.N_get HO_9.out [] (ji31) p227 (by first | exact q227 | exact od_ | (have e_ := (Kd.N_reads' HO_9.out).1; omega)); obtain ⟨ua227_0, uc227_0, rfl, ul227_0, ge227_0⟩ := Kd.FK_slice_open hMe227; have hv227_0 := hcc227 0 _ rfl; rw [Nat.add_zero, show ((Kd.slice 4 Kd.bool)).sz = 1 from rfl, Nat.mul_one] at hv227_0; replace hv227_0 := Option.some.inj (hv227_0.symm.trans hx227_0); injection hv227_0 with hva_ hvn_ hvc_; rw [hva_] at ge227_0; rw [hvc_] at ul227_0; have HL227_0 := Aside0.mk (show Kd.V Kd.bool 4 _ w.heap.size _ _ (rd_L5 x9_2 (ji31)) from Kd.V_mk ul227_0 ge227_0); clear hva_ hvn_ hvc_ ge227_0 ul227_0; clear hcc227 hce227; have HR227_0 := Aside0.mk hi227_0; have HC227_0 := Aside0.mk hl227_0; clear hi227_0 hl227_0; replace p227 := eq_true p227; replace q227 := eq_true q227; have p228 : 0 ≤ (x14_5 : Int) := od_; have q228 : x14_5 < ((rd_L5 x9_2 (ji31)).length : Int) := od_; obtain ⟨ad228, e228, hx228_0⟩ := Kd.at_bool (by repeat (first | (with_reducible exact HR227_0.out) | (with_reducible refine Kd.C_alloc ?_ _) | (with_reducible refine Kd.C_drewN ?_ _) | (with_reducible refine Kd.C_drew ?_) | exact HR227_0.out)) x14_5 p228 q228; cases e228; replace p228 := eq_true p228; replace q228 := eq_true q228)); try go_wp2_with (first | (go_at_call 102; (with_reducible refine (spec_l03Next.calls a0_0 _ _ l0_1 x12_3 x14_5 true _ ?side1 ?side2 A29.out).mono ?_); (case side1 => exact Kd.C_below (Kd.C_below HR0_1.out HB.out) bgo_); (case side2 => exact HC0_1.out); rintro e w37 ⟨rfl, hb⟩; replace HO_7 := Aside0.mk (Kd.N_below (Kd.N_below HO_7.out bgo_) hb); replace HO_9 := Aside0.mk (Kd.N_below (Kd.N_below HO_9.out bgo_) hb); replace HO_11 := Aside0.mk (Kd.R_below (Kd.R_below HO_11.out bgo_) hb); replace BK211 := Aside0.mk (blk_below (g := gb211) (o := .cells #[.int .i64 a0_0, .slice A0_1 l0_1.length c0_1] 29 (0, 0)) (blk_below BK211.out bgo_) hb); replace HB := Aside0.mk (below_step hbs_ hb); (try clear hb); (try clear hb2); (try clear hk); (try clear hi); obtain ⟨Ao38, co38, eo38⟩ := Kd.N_slice HO_9.out; subst eo38; have p227 : 0 ≤ ((ji31) : Int) := od_; have q227 : (ji31) < (x9_2.length : Int) := od_; obtain ⟨ad227, A227_0, c227_0, e227, hx227_0, hl227_0, hi227_0⟩ := at_L5 (Kd.N_reads' HO_9.out).2.2 (ji31) p227 q227; cases e227; obtain ⟨ce227, hce227, hMe227, hcc227⟩ := Kd.N_get HO_9.out [] (ji31) p227 (by first | exact q227 | exact od_ | (have e_ := (Kd.N_reads' HO_9.out).1; omega)); obtain ⟨ua227_0, uc227_0, rfl, ul227_0, ge227_0⟩ := Kd.FK_slice_open hMe227; have hv227_0 := hcc227 0 _ rfl; rw [Nat.add_zero, show ((Kd.slice 4 Kd.bool)).sz = 1 from rfl, Nat.mul_one] at hv227_0; replace hv227_0 := Option.some.inj (hv227_0.symm.trans hx227_0); injection hv227_0 with hva_ hvn_ hvc_; rw [hva_] at ge227_0; rw [hvc_] at ul227_0; have HL227_0 := Aside0.mk (show Kd.V Kd.bool 4 _ w.heap.size _ _ (rd_L5 x9_2 (ji31)) from Kd.V_mk ul227_0 ge227_0); clear hva_ hvn_ hvc_ ge227_0 ul227_0; clear hcc227 hce227; have HR227_0 := Aside0.mk hi227_0; have HC227_0 := Aside0.mk hl227_0; clear hi227_0 hl227_0; replace p227 := eq_true p227; replace q227 := eq_true q227; have p228 : 0 ≤ (x14_5 : Int) := od_; have q228 : x14_5 < ((rd_L5 x9_2 (ji31)).length : Int) := od_; obtain ⟨ad228, e228, hx228_0⟩ := Kd.at_bool (by repeat (first | (with_reducible exact HR227_0.out) | (with_reducible refine Kd.C_alloc ?_ _) | (with_reducible refine Kd.C_drewN ?_ _) | (with_reducible refine Kd.C_drew ?_) | exact HR227_0.out)) x14_5 p228 q228; cases e228; replace p228 := eq_true p228; replace q228 := eq_true q228)))
                   first | (first | go_roundg k5 | (refine Handed.intro k5 ?measure ?_; rotate_left; go_step; (try simp only [add_plain]); (repeat apply Exists.intro); refine ⟨?rel, rfl⟩)) | ((try subst hji31); (first | go_roundg k5 | (refine Handed.intro k5 ?measure ?_; rotate_left; go_step; (try simp only [add_plain]); (repeat apply Exists.intro); refine ⟨?rel, rfl⟩)))
                   case measure => have := HK1.out; have := HK2.out; have := HK3.out; have := HJ20.out; have := HK5.out; omega
                   case rel => exact ⟨(rdOf false (rd_L5 x9_2 (ji31)) x14_5), (wrap64 (x14_5 + 1)), (by first | rfl | (simp; done) | (simp only [← hji31] <;> (first | rfl | simp)) | (simp [*]; done)), es_, H', ⟨by have := HK1.out; have := HK2.out; have := HK3.out; have := HJ20.out; have := HK5.out; omega⟩, ⟨Kd.N_below HO_7.out bgo_⟩, ⟨Kd.N_below HO_9.out bgo_⟩, ⟨Kd.R_below HO_11.out bgo_⟩, ⟨blk_below BK211.out bgo_⟩, ⟨hbs_⟩⟩
                  ·replace c30 := Bool.eq_false_iff.mpr c30
                   subst c30
                   have H1 : (spec_l03All.l3 k5 a1 (wrap64 (2 * (l0_1.length : Int))) x7_1 x8_1 x9_2 x10_2 x11_3 x12_3 false (wrap64 (x14_5 + 1)) a0_0 l0_1) = some (r1, r2) := by rw [if_neg (show ¬ (false = true) by decide)] at H; exact H
                   clear H
                   have H := H1
                   clear H1
                   have H' := Aside0.mk H
                   clear H
                   have hcz39_0 : wr.cell? ⟨gb211, 0, none⟩ = some (.int .i64 a0_0) := (blk_cell BK211.out 0).trans rfl
                   have hcz39_1 : wr.cell? ⟨gb211, 1, none⟩ = some (.slice A0_1 l0_1.length c0_1) := (blk_cell BK211.out 1).trans rfl
                   have hfz39_0 := blk_frozen BK211.out 0
                   have hfz39_1 := blk_frozen BK211.out 1
                   go_wp2_with (first | (go_at_call 102; (with_reducible refine (spec_l03Next.calls a0_0 _ _ l0_1 x12_3 x14_5 false _ ?side1 ?side2 A29.out).mono ?_); (case side1 => exact Kd.C_below (Kd.C_below HR0_1.out HB.out) bgo_); (case side2 => exact HC0_1.out); rintro e w40 ⟨rfl, hb⟩; replace HO_7 := Aside0.mk (Kd.N_below (Kd.N_below HO_7.out bgo_) hb); replace HO_9 := Aside0.mk (Kd.N_below (Kd.N_below HO_9.out bgo_) hb); replace HO_11 := Aside0.mk (Kd.R_below (Kd.R_below HO_11.out bgo_) hb); replace BK211 := Aside0.mk (blk_below (g := gb211) (o := .cells #[.int .i64 a0_0, .slice A0_1 l0_1.length c0_1] 29 (0, 0)) (blk_below BK211.out bgo_) hb); replace HB := Aside0.mk (below_step hbs_ hb); (try clear hb); (try clear hb2); (try clear hk); (try clear hi)))
                   repeat (go_quiet (first | (go_at_call 102; (with_reducible refine (spec_l03Next.calls a0_0 _ _ l0_1 x12_3 x14_5 false _ ?side1 ?side2 A29.out).mono ?_); (case side1 => exact Kd.C_below (Kd.C_below HR0_1.out HB.out) bgo_); (case side2 => exact HC0_1.out); rintro e w40 ⟨rfl, hb⟩; replace HO_7 := Aside0.mk (Kd.N_below (Kd.N_below HO_7.out bgo_) hb); replace HO_9 := Aside0.mk (Kd.N_below (Kd.N_below HO_9.out bgo_) hb); replace HO_11 := Aside0.mk (Kd.R_below (Kd.R_below HO_11.out bgo_) hb); replace BK211 := Aside0.mk (blk_below (g := gb211) (o := .cells #[.int .i64 a0_0, .slice A0_1 l0_1.length c0_1] 29 (0, 0)) (blk_below BK211.out bgo_) hb); replace HB := Aside0.mk (below_step hbs_ hb); (try clear hb); (try clear hb2); (try clear hk); (try clear hi))); try go_wp2_with (first | (go_at_call 102; (with_reducible refine (spec_l03Next.calls a0_0 _ _ l0_1 x12_3 x14_5 false _ ?side1 ?side2 A29.out).mono ?_); (case side1 => exact Kd.C_below (Kd.C_below HR0_1.out HB.out) bgo_); (case side2 => exact HC0_1.out); rintro e w40 ⟨rfl, hb⟩; replace HO_7 := Aside0.mk (Kd.N_below (Kd.N_below HO_7.out bgo_) hb); replace HO_9 := Aside0.mk (Kd.N_below (Kd.N_below HO_9.out bgo_) hb); replace HO_11 := Aside0.mk (Kd.R_below (Kd.R_below HO_11.out bgo_) hb); replace BK211 := Aside0.mk (blk_below (g := gb211) (o := .cells #[.int .i64 a0_0, .slice A0_1 l0_1.length c0_1] 29 (0, 0)) (blk_below BK211.out bgo_) hb); replace HB := Aside0.mk (below_step hbs_ hb); (try clear hb); (try clear hb2); (try clear hk); (try clear hi))))
                   first | go_roundg k5 | (refine Handed.intro k5 ?measure ?_; rotate_left; go_step; (try simp only [add_plain]); (repeat apply Exists.intro); refine ⟨?rel, rfl⟩)
                   case measure => have := HK1.out; have := HK2.out; have := HK3.out; have := HJ20.out; have := HK5.out; omega
                   case rel => exact ⟨(false), (wrap64 (x14_5 + 1)), es_, es_, H', ⟨by have := HK1.out; have := HK2.out; have := HK3.out; have := HJ20.out; have := HK5.out; omega⟩, ⟨Kd.N_below HO_7.out bgo_⟩, ⟨Kd.N_below HO_9.out bgo_⟩, ⟨Kd.R_below HO_11.out bgo_⟩, ⟨blk_below BK211.out bgo_⟩, ⟨hbs_⟩⟩
                ·rw [if_neg c27] at H
                 have c27b0 := decide_eq_false c27
                 clear c27
                 obtain ⟨c41, H⟩ := itn_ H
                 have LMc41 := Aside0.mk c41
                 clear c41
                 obtain ⟨y229, Ny229, H⟩ : ∃ y229 : List Bool, Aside0 (y229 = (x11_3 ++ [x13_5])) ∧ (spec_l03All.l2 k5 a1 (wrap64 (2 * (l0_1.length : Int))) x7_1 x8_1 x9_2 x10_2 y229 (wrap64 (x12_3 + 1)) a0_0 l0_1) = some (r1, r2) := ⟨_, ⟨rfl⟩, H⟩
                 have H' := Aside0.mk H
                 clear H
                 go_wp2_with (first | ((with_reducible refine gate_builtin (b := .append) (xs := #[.tmp 80, .tmp 82]) rfl ?_); at_builtin; refine Kd.R_append Kd.bool (w0 := w) w.heap.size rfl (.tmp 80) (.tmp 82) 86 4 (.bool false) 1 rfl Try.underlying86 info4 rfl (by decide) (by omega) u11 x11_3 x13_5 [.bool x13_5] (fun k_ => (w.heap.size ≤ k_)) (fun _ => False) rfl rfl ?aP (fun _ hk => hk.elim) ?aF ?aO ?aB ?aS ?aL ?_; (case aP => exact rfl); (case aB => exact hbs_); (case aF => exact (fun k_ hk => (Nat.le_trans (below_size hbs_) hk))); (case aO => exact (Kd.R_below HO_11.out bgo_)); (case aS => exact (below_size hbs_)); (case aL => have := LMc41.out; omega); intro v230 w42 ho hb hg hat; rw [← Ny229.out] at ho; replace HO_7 := Aside0.mk (Kd.N_afterv (ok := (fun k_ => (w.heap.size ≤ k_) ∧ some k_ ≠ (u9 : Value).ownBlock ∧ k_ ≠ gb211)) (by (with_reducible repeat (first | apply Kd.N_alloc | apply Kd.N_drewN | apply Kd.N_drew)); exact Kd.N_mono HO_7.out (fun _ hk => ⟨⟨hk.1, ⟨hk.2.1, hk.2.2.2⟩⟩, hk.2.2.1⟩)) hg hat); replace HO_9 := Aside0.mk (Kd.N_afterv (ok := (fun k_ => (w.heap.size ≤ k_) ∧ some k_ ≠ (u7 : Value).ownBlock ∧ k_ ≠ gb211)) (by (with_reducible repeat (first | apply Kd.N_alloc | apply Kd.N_drewN | apply Kd.N_drew)); exact Kd.N_mono HO_9.out (fun _ hk => ⟨⟨hk.1, ⟨hk.2.1, hk.2.2.2⟩⟩, hk.2.2.1⟩)) hg hat); replace BK211 := Aside0.mk (blk_grown (g := gb211) (o := .cells #[.int .i64 a0_0, .slice A0_1 l0_1.length c0_1] 29 (0, 0)) (blk_below BK211.out bgo_) hg (Kd.R_ne HO_11.out BK211.out (by decide))); replace HB := Aside0.mk (hb); have HO231 := Aside0.mk (ho); clear HO_11; clear ho hb hg hat))
                 repeat (go_quiet (first | ((with_reducible refine gate_builtin (b := .append) (xs := #[.tmp 80, .tmp 82]) rfl ?_); at_builtin; refine Kd.R_append Kd.bool (w0 := w) w.heap.size rfl (.tmp 80) (.tmp 82) 86 4 (.bool false) 1 rfl Try.underlying86 info4 rfl (by decide) (by omega) u11 x11_3 x13_5 [.bool x13_5] (fun k_ => (w.heap.size ≤ k_)) (fun _ => False) rfl rfl ?aP (fun _ hk => hk.elim) ?aF ?aO ?aB ?aS ?aL ?_; (case aP => exact rfl); (case aB => exact hbs_); (case aF => exact (fun k_ hk => (Nat.le_trans (below_size hbs_) hk))); (case aO => exact (Kd.R_below HO_11.out bgo_)); (case aS => exact (below_size hbs_)); (case aL => have := LMc41.out; omega); intro v230 w42 ho hb hg hat; rw [← Ny229.out] at ho; replace HO_7 := Aside0.mk (Kd.N_afterv (ok := (fun k_ => (w.heap.size ≤ k_) ∧ some k_ ≠ (u9 : Value).ownBlock ∧ k_ ≠ gb211)) (by (with_reducible repeat (first | apply Kd.N_alloc | apply Kd.N_drewN | apply Kd.N_drew)); exact Kd.N_mono HO_7.out (fun _ hk => ⟨⟨hk.1, ⟨hk.2.1, hk.2.2.2⟩⟩, hk.2.2.1⟩)) hg hat); replace HO_9 := Aside0.mk (Kd.N_afterv (ok := (fun k_ => (w.heap.size ≤ k_) ∧ some k_ ≠ (u7 : Value).ownBlock ∧ k_ ≠ gb211)) (by (with_reducible repeat (first | apply Kd.N_alloc | apply Kd.N_drewN | apply Kd.N_drew)); exact Kd.N_mono HO_9.out (fun _ hk => ⟨⟨hk.1, ⟨hk.2.1, hk.2.2.2⟩⟩, hk.2.2.1⟩)) hg hat); replace BK211 := Aside0.mk (blk_grown (g := gb211) (o := .cells #[.int .i64 a0_0, .slice A0_1 l0_1.length c0_1] 29 (0, 0)) (blk_below BK211.out bgo_) hg (Kd.R_ne HO_11.out BK211.out (by decide))); replace HB := Aside0.mk (hb); have HO231 := Aside0.mk (ho); clear HO_11; clear ho hb hg hat)); try go_wp2_with (first | ((with_reducible refine gate_builtin (b := .append) (xs := #[.tmp 80, .tmp 82]) rfl ?_); at_builtin; refine Kd.R_append Kd.bool (w0 := w) w.heap.size rfl (.tmp 80) (.tmp 82) 86 4 (.bool false) 1 rfl Try.underlying86 info4 rfl (by decide) (by omega) u11 x11_3 x13_5 [.bool x13_5] (fun k_ => (w.heap.size ≤ k_)) (fun _ => False) rfl rfl ?aP (fun _ hk => hk.elim) ?aF ?aO ?aB ?aS ?aL ?_; (case aP => exact rfl); (case aB => exact hbs_); (case aF => exact (fun k_ hk => (Nat.le_trans (below_size hbs_) hk))); (case aO => exact (Kd.R_below HO_11.out bgo_)); (case aS => exact (below_size hbs_)); (case aL => have := LMc41.out; omega); intro v230 w42 ho hb hg hat; rw [← Ny229.out] at ho; replace HO_7 := Aside0.mk (Kd.N_afterv (ok := (fun k_ => (w.heap.size ≤ k_) ∧ some k_ ≠ (u9 : Value).ownBlock ∧ k_ ≠ gb211)) (by (with_reducible repeat (first | apply Kd.N_alloc | apply Kd.N_drewN | apply Kd.N_drew)); exact Kd.N_mono HO_7.out (fun _ hk => ⟨⟨hk.1, ⟨hk.2.1, hk.2.2.2⟩⟩, hk.2.2.1⟩)) hg hat); replace HO_9 := Aside0.mk (Kd.N_afterv (ok := (fun k_ => (w.heap.size ≤ k_) ∧ some k_ ≠ (u7 : Value).ownBlock ∧ k_ ≠ gb211)) (by (with_reducible repeat (first | apply Kd.N_alloc | apply Kd.N_drewN | apply Kd.N_drew)); exact Kd.N_mono HO_9.out (fun _ hk => ⟨⟨hk.1, ⟨hk.2.1, hk.2.2.2⟩⟩, hk.2.2.1⟩)) hg hat); replace BK211 := Aside0.mk (blk_grown (g := gb211) (o := .cells #[.int .i64 a0_0, .slice A0_1 l0_1.length c0_1] 29 (0, 0)) (blk_below BK211.out bgo_) hg (Kd.R_ne HO_11.out BK211.out (by decide))); replace HB := Aside0.mk (hb); have HO231 := Aside0.mk (ho); clear HO_11; clear ho hb hg hat)))
                 first | go_roundg k5 | (refine Handed.intro k5 ?measure ?_; rotate_left; go_step; (try simp only [add_plain]); (repeat apply Exists.intro); refine ⟨?rel, rfl⟩)
                 case measure => have := HK1.out; have := HK2.out; have := HK3.out; have := HJ20.out; have := HK5.out; omega
                 case rel => exact ⟨(y229), (wrap64 (x12_3 + 1)), es_, H', ⟨by have := HK1.out; have := HK2.out; have := HK3.out; have := HJ20.out; have := HK5.out; omega⟩, ⟨by (with_reducible repeat (first | apply Kd.N_alloc | apply Kd.N_drewN | apply Kd.N_drew)); exact Kd.N_mono HO_7.out (fun _ hk => ⟨hk.1.1, ⟨hk.1.2.1, ⟨hk.2, hk.1.2.2⟩⟩⟩)⟩, ⟨by (with_reducible repeat (first | apply Kd.N_alloc | apply Kd.N_drewN | apply Kd.N_drew)); exact Kd.N_mono HO_9.out (fun _ hk => ⟨hk.1.1, ⟨hk.1.2.1, ⟨hk.2, hk.1.2.2⟩⟩⟩)⟩, ⟨Kd.R_below HO231.out bgo_⟩, ⟨blk_below BK211.out bgo_⟩, ⟨hbs_⟩⟩
               ·rw [if_neg c26] at H
                have c26b0 := decide_eq_false c26
                clear c26
                obtain ⟨c43, H⟩ := itn_ H
                have LMc43 := Aside0.mk c43
                clear c43
                obtain ⟨y232, Ny232, H⟩ : ∃ y232 : List Bool, Aside0 (y232 = (x11_3 ++ [x13_5])) ∧ (spec_l03All.l2 k5 a1 (wrap64 (2 * (l0_1.length : Int))) x7_1 x8_1 x9_2 x10_2 y232 (wrap64 (x12_3 + 1)) a0_0 l0_1) = some (r1, r2) := ⟨_, ⟨rfl⟩, H⟩
                have H' := Aside0.mk H
                clear H
                go_wp2_with (first | ((with_reducible refine gate_builtin (b := .append) (xs := #[.tmp 80, .tmp 82]) rfl ?_); at_builtin; refine Kd.R_append Kd.bool (w0 := w) w.heap.size rfl (.tmp 80) (.tmp 82) 86 4 (.bool false) 1 rfl Try.underlying86 info4 rfl (by decide) (by omega) u11 x11_3 x13_5 [.bool x13_5] (fun k_ => (w.heap.size ≤ k_)) (fun _ => False) rfl rfl ?aP (fun _ hk => hk.elim) ?aF ?aO ?aB ?aS ?aL ?_; (case aP => exact rfl); (case aB => exact hbs_); (case aF => exact (fun k_ hk => (Nat.le_trans (below_size hbs_) hk))); (case aO => exact (Kd.R_below HO_11.out bgo_)); (case aS => exact (below_size hbs_)); (case aL => have := LMc43.out; omega); intro v233 w44 ho hb hg hat; rw [← Ny232.out] at ho; replace HO_7 := Aside0.mk (Kd.N_afterv (ok := (fun k_ => (w.heap.size ≤ k_) ∧ some k_ ≠ (u9 : Value).ownBlock ∧ k_ ≠ gb211)) (by (with_reducible repeat (first | apply Kd.N_alloc | apply Kd.N_drewN | apply Kd.N_drew)); exact Kd.N_mono HO_7.out (fun _ hk => ⟨⟨hk.1, ⟨hk.2.1, hk.2.2.2⟩⟩, hk.2.2.1⟩)) hg hat); replace HO_9 := Aside0.mk (Kd.N_afterv (ok := (fun k_ => (w.heap.size ≤ k_) ∧ some k_ ≠ (u7 : Value).ownBlock ∧ k_ ≠ gb211)) (by (with_reducible repeat (first | apply Kd.N_alloc | apply Kd.N_drewN | apply Kd.N_drew)); exact Kd.N_mono HO_9.out (fun _ hk => ⟨⟨hk.1, ⟨hk.2.1, hk.2.2.2⟩⟩, hk.2.2.1⟩)) hg hat); replace BK211 := Aside0.mk (blk_grown (g := gb211) (o := .cells #[.int .i64 a0_0, .slice A0_1 l0_1.length c0_1] 29 (0, 0)) (blk_below BK211.out bgo_) hg (Kd.R_ne HO_11.out BK211.out (by decide))); replace HB := Aside0.mk (hb); have HO234 := Aside0.mk (ho); clear HO_11; clear ho hb hg hat))
                repeat (go_quiet (first | ((with_reducible refine gate_builtin (b := .append) (xs := #[.tmp 80, .tmp 82]) rfl ?_); at_builtin; refine Kd.R_append Kd.bool (w0 := w) w.heap.size rfl (.tmp 80) (.tmp 82) 86 4 (.bool false) 1 rfl Try.underlying86 info4 rfl (by decide) (by omega) u11 x11_3 x13_5 [.bool x13_5] (fun k_ => (w.heap.size ≤ k_)) (fun _ => False) rfl rfl ?aP (fun _ hk => hk.elim) ?aF ?aO ?aB ?aS ?aL ?_; (case aP => exact rfl); (case aB => exact hbs_); (case aF => exact (fun k_ hk => (Nat.le_trans (below_size hbs_) hk))); (case aO => exact (Kd.R_below HO_11.out bgo_)); (case aS => exact (below_size hbs_)); (case aL => have := LMc43.out; omega); intro v233 w44 ho hb hg hat; rw [← Ny232.out] at ho; replace HO_7 := Aside0.mk (Kd.N_afterv (ok := (fun k_ => (w.heap.size ≤ k_) ∧ some k_ ≠ (u9 : Value).ownBlock ∧ k_ ≠ gb211)) (by (with_reducible repeat (first | apply Kd.N_alloc | apply Kd.N_drewN | apply Kd.N_drew)); exact Kd.N_mono HO_7.out (fun _ hk => ⟨⟨hk.1, ⟨hk.2.1, hk.2.2.2⟩⟩, hk.2.2.1⟩)) hg hat); replace HO_9 := Aside0.mk (Kd.N_afterv (ok := (fun k_ => (w.heap.size ≤ k_) ∧ some k_ ≠ (u7 : Value).ownBlock ∧ k_ ≠ gb211)) (by (with_reducible repeat (first | apply Kd.N_alloc | apply Kd.N_drewN | apply Kd.N_drew)); exact Kd.N_mono HO_9.out (fun _ hk => ⟨⟨hk.1, ⟨hk.2.1, hk.2.2.2⟩⟩, hk.2.2.1⟩)) hg hat); replace BK211 := Aside0.mk (blk_grown (g := gb211) (o := .cells #[.int .i64 a0_0, .slice A0_1 l0_1.length c0_1] 29 (0, 0)) (blk_below BK211.out bgo_) hg (Kd.R_ne HO_11.out BK211.out (by decide))); replace HB := Aside0.mk (hb); have HO234 := Aside0.mk (ho); clear HO_11; clear ho hb hg hat)); try go_wp2_with (first | ((with_reducible refine gate_builtin (b := .append) (xs := #[.tmp 80, .tmp 82]) rfl ?_); at_builtin; refine Kd.R_append Kd.bool (w0 := w) w.heap.size rfl (.tmp 80) (.tmp 82) 86 4 (.bool false) 1 rfl Try.underlying86 info4 rfl (by decide) (by omega) u11 x11_3 x13_5 [.bool x13_5] (fun k_ => (w.heap.size ≤ k_)) (fun _ => False) rfl rfl ?aP (fun _ hk => hk.elim) ?aF ?aO ?aB ?aS ?aL ?_; (case aP => exact rfl); (case aB => exact hbs_); (case aF => exact (fun k_ hk => (Nat.le_trans (below_size hbs_) hk))); (case aO => exact (Kd.R_below HO_11.out bgo_)); (case aS => exact (below_size hbs_)); (case aL => have := LMc43.out; omega); intro v233 w44 ho hb hg hat; rw [← Ny232.out] at ho; replace HO_7 := Aside0.mk (Kd.N_afterv (ok := (fun k_ => (w.heap.size ≤ k_) ∧ some k_ ≠ (u9 : Value).ownBlock ∧ k_ ≠ gb211)) (by (with_reducible repeat (first | apply Kd.N_alloc | apply Kd.N_drewN | apply Kd.N_drew)); exact Kd.N_mono HO_7.out (fun _ hk => ⟨⟨hk.1, ⟨hk.2.1, hk.2.2.2⟩⟩, hk.2.2.1⟩)) hg hat); replace HO_9 := Aside0.mk (Kd.N_afterv (ok := (fun k_ => (w.heap.size ≤ k_) ∧ some k_ ≠ (u7 : Value).ownBlock ∧ k_ ≠ gb211)) (by (with_reducible repeat (first | apply Kd.N_alloc | apply Kd.N_drewN | apply Kd.N_drew)); exact Kd.N_mono HO_9.out (fun _ hk => ⟨⟨hk.1, ⟨hk.2.1, hk.2.2.2⟩⟩, hk.2.2.1⟩)) hg hat); replace BK211 := Aside0.mk (blk_grown (g := gb211) (o := .cells #[.int .i64 a0_0, .slice A0_1 l0_1.length c0_1] 29 (0, 0)) (blk_below BK211.out bgo_) hg (Kd.R_ne HO_11.out BK211.out (by decide))); replace HB := Aside0.mk (hb); have HO234 := Aside0.mk (ho); clear HO_11; clear ho hb hg hat)))
                first | go_roundg k5 | (refine Handed.intro k5 ?measure ?_; rotate_left; go_step; (try simp only [add_plain]); (repeat apply Exists.intro); refine ⟨?rel, rfl⟩)
                case measure => have := HK1.out; have := HK2.out; have := HK3.out; have := HJ20.out; have := HK5.out; omega
                case rel => exact ⟨(y232), (wrap64 (x12_3 + 1)), es_, H', ⟨by have := HK1.out; have := HK2.out; have := HK3.out; have := HJ20.out; have := HK5.out; omega⟩, ⟨by (with_reducible repeat (first | apply Kd.N_alloc | apply Kd.N_drewN | apply Kd.N_drew)); exact Kd.N_mono HO_7.out (fun _ hk => ⟨hk.1.1, ⟨hk.1.2.1, ⟨hk.2, hk.1.2.2⟩⟩⟩)⟩, ⟨by (with_reducible repeat (first | apply Kd.N_alloc | apply Kd.N_drewN | apply Kd.N_drew)); exact Kd.N_mono HO_9.out (fun _ hk => ⟨hk.1.1, ⟨hk.1.2.1, ⟨hk.2, hk.1.2.2⟩⟩⟩)⟩, ⟨Kd.R_below HO234.out bgo_⟩, ⟨blk_below BK211.out bgo_⟩, ⟨hbs_⟩⟩
          ·rw [if_neg c20] at H
           have c20b0 := decide_eq_false c20
           clear c20
           obtain ⟨c45, H⟩ := itn_ H
           have LMc45 := Aside0.mk c45
           clear c45
           obtain ⟨y222, Ny222, H⟩ : ∃ y222 : List (List Bool), Aside0 (y222 = (x9_2 ++ [x11_3])) ∧ (spec_l03All.l1 k3 a1 (wrap64 (2 * (l0_1.length : Int))) x7_1 x8_1 y222 (wrap64 (x10_2 + 1)) a0_0 l0_1) = some (r1, r2) := ⟨_, ⟨rfl⟩, H⟩
           have H' := Aside0.mk H
           clear H
           obtain ⟨Ao47, co47, eo47⟩ := Kd.R_slice HO_11.out
           subst eo47
           go_wp2_with (first | ((with_reducible refine gate_builtin (b := .append) (xs := #[.tmp 84, .tmp 86]) rfl ?_); at_builtin; refine Kd.N_append (Kd.slice 4 Kd.bool) (w0 := w) w.heap.size rfl (.tmp 84) (.tmp 86) 103 86 (.slice none 0 0) 24 rfl Try.underlying103 info86 rfl (by decide) (by omega) u9 x9_2 x11_3 [.slice Ao47 x11_3.length co47] (fun k_ => (w.heap.size ≤ k_) ∧ some k_ ≠ (u7 : Value).ownBlock ∧ k_ ≠ gb211) (fun k_ => ((fun k_ => (w.heap.size ≤ k_) ∧ some k_ ≠ (u7 : Value).ownBlock ∧ k_ ≠ gb211)) k_ ∧ some k_ ≠ (u9 : Value).ownBlock) rfl rfl ?aP (fun _ hk => hk) ?aF ?aO ?aB ?aS ?aL ?_; (case aP => exact (Kd.FK_slice_mk (Kd.R_reads' (Kd.R_mono (ok' := (fun k_ => ((fun k_ => (w.heap.size ≤ k_) ∧ some k_ ≠ (u7 : Value).ownBlock ∧ k_ ≠ gb211)) k_ ∧ some k_ ≠ (u9 : Value).ownBlock)) (Kd.R_types (Kd.R_apart' (Kd.R_apart' (HO_11.out) (Kd.N_typed HO_7.out) (by decide)) (Kd.N_typed HO_9.out) (by decide)) BK211.out (by decide)) (fun k_ hk => ⟨⟨hk.1.1.1, ⟨hk.1.1.2, hk.2⟩⟩, hk.1.2⟩))).2.1 (Kd.R_F (Kd.R_mono (ok' := (fun k_ => ((fun k_ => (w.heap.size ≤ k_) ∧ some k_ ≠ (u7 : Value).ownBlock ∧ k_ ≠ gb211)) k_ ∧ some k_ ≠ (u9 : Value).ownBlock)) (Kd.R_types (Kd.R_apart' (Kd.R_apart' (HO_11.out) (Kd.N_typed HO_7.out) (by decide)) (Kd.N_typed HO_9.out) (by decide)) BK211.out (by decide)) (fun k_ hk => ⟨⟨hk.1.1.1, ⟨hk.1.1.2, hk.2⟩⟩, hk.1.2⟩))))); (case aB => exact hbs_); (case aF => exact (fun k_ hk => ⟨(Nat.le_trans (below_size hbs_) hk), Kd.fresh' (Kd.N_lt (Kd.N_below HO_7.out bgo_)) k_ hk, Kd.freshB (g := gb211) (o := .cells #[.int .i64 a0_0, .slice A0_1 l0_1.length c0_1] 29 (0, 0)) (blk_below BK211.out bgo_) k_ hk⟩)); (case aO => exact (by (with_reducible repeat (first | apply Kd.N_alloc | apply Kd.N_drewN | apply Kd.N_drew)); exact Kd.N_mono HO_9.out (fun _ hk => ⟨hk.1, ⟨hk.2.1, hk.2.2.2⟩⟩))); (case aS => exact (below_size hbs_)); (case aL => have := LMc45.out; omega); intro v223 w46 ho hb hg hat; rw [← Ny222.out] at ho; replace HO_7 := Aside0.mk (Kd.N_afterv (ok := (fun k_ => (w.heap.size ≤ k_) ∧ some k_ ≠ (.slice Ao47 x11_3.length co47 : Value).ownBlock ∧ k_ ≠ gb211)) (by (with_reducible repeat (first | apply Kd.N_alloc | apply Kd.N_drewN | apply Kd.N_drew)); exact Kd.N_mono HO_7.out (fun _ hk => ⟨⟨hk.1, ⟨hk.2.2.1, hk.2.2.2⟩⟩, hk.2.1⟩)) hg hat); replace BK211 := Aside0.mk (blk_grown (g := gb211) (o := .cells #[.int .i64 a0_0, .slice A0_1 l0_1.length c0_1] 29 (0, 0)) (blk_below BK211.out bgo_) hg (Kd.N_ne HO_9.out BK211.out (by decide))); replace HB := Aside0.mk (hb); have HO224 := Aside0.mk (ho); clear HO_9 HO_11; clear ho hb hg hat))
           repeat (go_quiet (first | ((with_reducible refine gate_builtin (b := .append) (xs := #[.tmp 84, .tmp 86]) rfl ?_); at_builtin; refine Kd.N_append (Kd.slice 4 Kd.bool) (w0 := w) w.heap.size rfl (.tmp 84) (.tmp 86) 103 86 (.slice none 0 0) 24 rfl Try.underlying103 info86 rfl (by decide) (by omega) u9 x9_2 x11_3 [.slice Ao47 x11_3.length co47] (fun k_ => (w.heap.size ≤ k_) ∧ some k_ ≠ (u7 : Value).ownBlock ∧ k_ ≠ gb211) (fun k_ => ((fun k_ => (w.heap.size ≤ k_) ∧ some k_ ≠ (u7 : Value).ownBlock ∧ k_ ≠ gb211)) k_ ∧ some k_ ≠ (u9 : Value).ownBlock) rfl rfl ?aP (fun _ hk => hk) ?aF ?aO ?aB ?aS ?aL ?_; (case aP => exact (Kd.FK_slice_mk (Kd.R_reads' (Kd.R_mono (ok' := (fun k_ => ((fun k_ => (w.heap.size ≤ k_) ∧ some k_ ≠ (u7 : Value).ownBlock ∧ k_ ≠ gb211)) k_ ∧ some k_ ≠ (u9 : Value).ownBlock)) (Kd.R_types (Kd.R_apart' (Kd.R_apart' (HO_11.out) (Kd.N_typed HO_7.out) (by decide)) (Kd.N_typed HO_9.out) (by decide)) BK211.out (by decide)) (fun k_ hk => ⟨⟨hk.1.1.1, ⟨hk.1.1.2, hk.2⟩⟩, hk.1.2⟩))).2.1 (Kd.R_F (Kd.R_mono (ok' := (fun k_ => ((fun k_ => (w.heap.size ≤ k_) ∧ some k_ ≠ (u7 : Value).ownBlock ∧ k_ ≠ gb211)) k_ ∧ some k_ ≠ (u9 : Value).ownBlock)) (Kd.R_types (Kd.R_apart' (Kd.R_apart' (HO_11.out) (Kd.N_typed HO_7.out) (by decide)) (Kd.N_typed HO_9.out) (by decide)) BK211.out (by decide)) (fun k_ hk => ⟨⟨hk.1.1.1, ⟨hk.1.1.2, hk.2⟩⟩, hk.1.2⟩))))); (case aB => exact hbs_); (case aF => exact (fun k_ hk => ⟨(Nat.le_trans (below_size hbs_) hk), Kd.fresh' (Kd.N_lt (Kd.N_below HO_7.out bgo_)) k_ hk, Kd.freshB (g := gb211) (o := .cells #[.int .i64 a0_0, .slice A0_1 l0_1.length c0_1] 29 (0, 0)) (blk_below BK211.out bgo_) k_ hk⟩)); (case aO => exact (by (with_reducible repeat (first | apply Kd.N_alloc | apply Kd.N_drewN | apply Kd.N_drew)); exact Kd.N_mono HO_9.out (fun _ hk => ⟨hk.1, ⟨hk.2.1, hk.2.2.2⟩⟩))); (case aS => exact (below_size hbs_)); (case aL => have := LMc45.out; omega); intro v223 w46 ho hb hg hat; rw [← Ny222.out] at ho; replace HO_7 := Aside0.mk (Kd.N_afterv (ok := (fun k_ => (w.heap.size ≤ k_) ∧ some k_ ≠ (.slice Ao47 x11_3.length co47 : Value).ownBlock ∧ k_ ≠ gb211)) (by (with_reducible repeat (first | apply Kd.N_alloc | apply Kd.N_drewN | apply Kd.N_drew)); exact Kd.N_mono HO_7.out (fun _ hk => ⟨⟨hk.1, ⟨hk.2.2.1, hk.2.2.2⟩⟩, hk.2.1⟩)) hg hat); replace BK211 := Aside0.mk (blk_grown (g := gb211) (o := .cells #[.int .i64 a0_0, .slice A0_1 l0_1.length c0_1] 29 (0, 0)) (blk_below BK211.out bgo_) hg (Kd.N_ne HO_9.out BK211.out (by decide))); replace HB := Aside0.mk (hb); have HO224 := Aside0.mk (ho); clear HO_9 HO_11; clear ho hb hg hat)); try go_wp2_with (first | ((with_reducible refine gate_builtin (b := .append) (xs := #[.tmp 84, .tmp 86]) rfl ?_); at_builtin; refine Kd.N_append (Kd.slice 4 Kd.bool) (w0 := w) w.heap.size rfl (.tmp 84) (.tmp 86) 103 86 (.slice none 0 0) 24 rfl Try.underlying103 info86 rfl (by decide) (by omega) u9 x9_2 x11_3 [.slice Ao47 x11_3.length co47] (fun k_ => (w.heap.size ≤ k_) ∧ some k_ ≠ (u7 : Value).ownBlock ∧ k_ ≠ gb211) (fun k_ => ((fun k_ => (w.heap.size ≤ k_) ∧ some k_ ≠ (u7 : Value).ownBlock ∧ k_ ≠ gb211)) k_ ∧ some k_ ≠ (u9 : Value).ownBlock) rfl rfl ?aP (fun _ hk => hk) ?aF ?aO ?aB ?aS ?aL ?_; (case aP => exact (Kd.FK_slice_mk (Kd.R_reads' (Kd.R_mono (ok' := (fun k_ => ((fun k_ => (w.heap.size ≤ k_) ∧ some k_ ≠ (u7 : Value).ownBlock ∧ k_ ≠ gb211)) k_ ∧ some k_ ≠ (u9 : Value).ownBlock)) (Kd.R_types (Kd.R_apart' (Kd.R_apart' (HO_11.out) (Kd.N_typed HO_7.out) (by decide)) (Kd.N_typed HO_9.out) (by decide)) BK211.out (by decide)) (fun k_ hk => ⟨⟨hk.1.1.1, ⟨hk.1.1.2, hk.2⟩⟩, hk.1.2⟩))).2.1 (Kd.R_F (Kd.R_mono (ok' := (fun k_ => ((fun k_ => (w.heap.size ≤ k_) ∧ some k_ ≠ (u7 : Value).ownBlock ∧ k_ ≠ gb211)) k_ ∧ some k_ ≠ (u9 : Value).ownBlock)) (Kd.R_types (Kd.R_apart' (Kd.R_apart' (HO_11.out) (Kd.N_typed HO_7.out) (by decide)) (Kd.N_typed HO_9.out) (by decide)) BK211.out (by decide)) (fun k_ hk => ⟨⟨hk.1.1.1, ⟨hk.1.1.2, hk.2⟩⟩, hk.1.2⟩))))); (case aB => exact hbs_); (case aF => exact (fun k_ hk => ⟨(Nat.le_trans (below_size hbs_) hk), Kd.fresh' (Kd.N_lt (Kd.N_below HO_7.out bgo_)) k_ hk, Kd.freshB (g := gb211) (o := .cells #[.int .i64 a0_0, .slice A0_1 l0_1.length c0_1] 29 (0, 0)) (blk_below BK211.out bgo_) k_ hk⟩)); (case aO => exact (by (with_reducible repeat (first | apply Kd.N_alloc | apply Kd.N_drewN | apply Kd.N_drew)); exact Kd.N_mono HO_9.out (fun _ hk => ⟨hk.1, ⟨hk.2.1, hk.2.2.2⟩⟩))); (case aS => exact (below_size hbs_)); (case aL => have := LMc45.out; omega); intro v223 w46 ho hb hg hat; rw [← Ny222.out] at ho; replace HO_7 := Aside0.mk (Kd.N_afterv (ok := (fun k_ => (w.heap.size ≤ k_) ∧ some k_ ≠ (.slice Ao47 x11_3.length co47 : Value).ownBlock ∧ k_ ≠ gb211)) (by (with_reducible repeat (first | apply Kd.N_alloc | apply Kd.N_drewN | apply Kd.N_drew)); exact Kd.N_mono HO_7.out (fun _ hk => ⟨⟨hk.1, ⟨hk.2.2.1, hk.2.2.2⟩⟩, hk.2.1⟩)) hg hat); replace BK211 := Aside0.mk (blk_grown (g := gb211) (o := .cells #[.int .i64 a0_0, .slice A0_1 l0_1.length c0_1] 29 (0, 0)) (blk_below BK211.out bgo_) hg (Kd.N_ne HO_9.out BK211.out (by decide))); replace HB := Aside0.mk (hb); have HO224 := Aside0.mk (ho); clear HO_9 HO_11; clear ho hb hg hat)))
           first | go_roundg k3 | (refine Handed.intro k3 ?measure ?_; rotate_left; go_step; (try simp only [add_plain]); (repeat apply Exists.intro); refine ⟨?rel, rfl⟩)
           case measure => have := HK1.out; have := HK2.out; have := HK3.out; omega
           case rel => exact ⟨(y222), (wrap64 (x10_2 + 1)), es_, H', ⟨by have := HK1.out; have := HK2.out; have := HK3.out; omega⟩, ⟨by (with_reducible repeat (first | apply Kd.N_alloc | apply Kd.N_drewN | apply Kd.N_drew)); exact Kd.N_mono HO_7.out (fun _ hk => ⟨hk.1.1, ⟨hk.2, hk.1.2.2⟩⟩)⟩, ⟨Kd.N_below HO224.out bgo_⟩, ⟨blk_below BK211.out bgo_⟩, ⟨hbs_⟩⟩
       ·rw [if_neg c17] at H
        have c17b0 := decide_eq_false c17
        clear c17
        obtain ⟨y235, Ny235, H⟩ : ∃ y235 : List (List Int), Aside0 (y235 = (([] : List (List Int)))) ∧ (if 0 ≤ (wrap64 (a1 - 1)) then (if (wrap64 (a1 - 1)) < (x9_2.length : Int) then (if 0 ≤ x8_1 then (if x8_1 < ((rd_L5 x9_2 (wrap64 (a1 - 1))).length : Int) then (if rdOf false (rd_L5 x9_2 (wrap64 (a1 - 1))) x8_1 = true then (if y235.length < 5864062014805 then (spec_l03All.j5 k2 a1 (wrap64 (2 * (l0_1.length : Int))) x7_1 x8_1 x9_2 (y235 ++ [(([x8_1] : List Int))]) a0_0 l0_1) else (none)) else (spec_l03All.j5 k2 a1 (wrap64 (2 * (l0_1.length : Int))) x7_1 x8_1 x9_2 y235 a0_0 l0_1)) else (none)) else (none)) else (none)) else (none)) = some (r1, r2) := ⟨_, ⟨rfl⟩, H⟩
        obtain ⟨ji48, hji48⟩ : ∃ j_ : Int, (wrap64 (a1 - 1)) = j_ := ⟨_, rfl⟩
        (try rw [hji48])
        replace H : (if 0 ≤ (ji48) then (if (ji48) < (x9_2.length : Int) then (if 0 ≤ x8_1 then (if x8_1 < ((rd_L5 x9_2 (ji48)).length : Int) then (if rdOf false (rd_L5 x9_2 (ji48)) x8_1 = true then (if y235.length < 5864062014805 then (spec_l03All.j5 k2 a1 (wrap64 (2 * (l0_1.length : Int))) x7_1 x8_1 x9_2 (y235 ++ [(([x8_1] : List Int))]) a0_0 l0_1) else (none)) else (spec_l03All.j5 k2 a1 (wrap64 (2 * (l0_1.length : Int))) x7_1 x8_1 x9_2 y235 a0_0 l0_1)) else (none)) else (none)) else (none)) else (none)) = some (r1, r2) := by first | (rw [hji48] at H; exact H) | (simp only [hji48] at H ⊢; exact H)
        have hji48w : (IntKind.i64.wrap (a1 - 1)) = ji48 := (i64_w _).trans hji48
        obtain ⟨c49, H⟩ := itn_ H
        have c49b0 := decide_eq_true c49
        clear c49
        obtain ⟨c50, H⟩ := itn_ H
        have c50b0 := decide_eq_true c50
        clear c50
        obtain ⟨c51, H⟩ := itn_ H
        have c51b0 := decide_eq_true c51
        clear c51
        obtain ⟨c52, H⟩ := itn_ H
        have c52b0 := decide_eq_true c52
        clear c52
        have HC53 := Aside0.mk H
        clear H
        go_upto_if 96 with (first | ((with_reducible refine gate_dst (N := 88) rfl ?_); refine Kd.N_lit (Kd.slice 2 (Kd.int .i64)) _ 26 ?hg (N' := 88) ?hd (xs := ([] : List (List Int))) (inner := []) (ok := (fun k_ => (w.heap.size ≤ k_) ∧ some k_ ≠ (u7 : Value).ownBlock ∧ some k_ ≠ (u9 : Value).ownBlock ∧ k_ ≠ gb211)) (okp := (fun k_ => (w.heap.size ≤ k_) ∧ some k_ ≠ (u7 : Value).ownBlock ∧ some k_ ≠ (u9 : Value).ownBlock ∧ k_ ≠ gb211)) ?hr ?hp (fun _ hk => hk) ((show ∀ k_, wr.heap.size ≤ k_ → (fun k_ => (w.heap.size ≤ k_) ∧ some k_ ≠ (u7 : Value).ownBlock ∧ some k_ ≠ (u9 : Value).ownBlock ∧ k_ ≠ gb211) k_ from fun k_ hk => ⟨(Nat.le_trans (below_size hbs_) hk), Kd.fresh' (Kd.N_lt (Kd.N_below HO_7.out bgo_)) k_ hk, Kd.fresh' (Kd.N_lt (Kd.N_below HO_9.out bgo_)) k_ hk, Kd.freshB (g := gb211) (o := .cells #[.int .i64 a0_0, .slice A0_1 l0_1.length c0_1] 29 (0, 0)) (blk_below BK211.out bgo_) k_ hk⟩) _ (Nat.le_refl _)) (Below.refl _ _) (Nat.le_refl _) (by simp) ?_; (case hd => rfl); (case hg => rfl); (case hr => first | (go_simp; done) | (go_simp; rfl)); (case hp => exact (Reps.none _ _)); intro v236 w54 ho55 hb hg_ hnew_; clear hg_ hnew_; (first | rw [← Ny235.out] at ho55 | (simp only [Int.reduceToNat] at ho55; rw [← Ny235.out] at ho55)); replace HO_7 := Aside0.mk (Kd.N_elder' (Kd.N_below HO_7.out bgo_) (Kd.N_base ho55) hb); replace HO_9 := Aside0.mk (Kd.N_elder' (Kd.N_below HO_9.out bgo_) (Kd.N_base ho55) hb); have HO237 := Aside0.mk (Kd.N_lower ho55 (below_size hbs_)); replace BK211 := Aside0.mk (blk_below (g := gb211) (o := .cells #[.int .i64 a0_0, .slice A0_1 l0_1.length c0_1] 29 (0, 0)) (blk_below BK211.out bgo_) hb); replace HB := Aside0.mk (below_step hbs_ hb); clear hb ho55; obtain ⟨Ao56, co56, eo56⟩ := Kd.N_slice HO_9.out; subst eo56; have p238 : 0 ≤ ((ji48) : Int) := od_; have q238 : (ji48) < (x9_2.length : Int) := od_; obtain ⟨ad238, A238_0, c238_0, e238, hx238_0, hl238_0, hi238_0⟩ := at_L5 (Kd.N_reads' HO_9.out).2.2 (ji48) p238 q238; cases e238; obtain ⟨ce238, hce238, hMe238, hcc238⟩ := Kd.N_get HO_9.out [] (ji48) p238 (by first | exact q238 | exact od_ | (have e_ := (Kd.N_reads' HO_9.out).1; omega)); obtain ⟨ua238_0, uc238_0, rfl, ul238_0, ge238_0⟩ := Kd.FK_slice_open hMe238; have hv238_0 := hcc238 0 _ rfl; rw [Nat.add_zero, show ((Kd.slice 4 Kd.bool)).sz = 1 from rfl, Nat.mul_one] at hv238_0; replace hv238_0 := Option.some.inj (hv238_0.symm.trans hx238_0); injection hv238_0 with hva_ hvn_ hvc_; rw [hva_] at ge238_0; rw [hvc_] at ul238_0; have HL238_0 := Aside0.mk (show Kd.V Kd.bool 4 _ w.heap.size _ _ (rd_L5 x9_2 (ji48)) from Kd.V_mk ul238_0 ge238_0); clear hva_ hvn_ hvc_ ge238_0 ul238_0; clear hcc238 hce238; have HR238_0 := Aside0.mk hi238_0; have HC238_0 := Aside0.mk hl238_0; clear hi238_0 hl238_0; replace p238 := eq_true p238; replace q238 := eq_true q238; have p239 : 0 ≤ (x8_1 : Int) := od_; have q239 : x8_1 < ((rd_L5 x9_2 (ji48)).length : Int) := od_; obtain ⟨ad239, e239, hx239_0⟩ := Kd.at_bool (by repeat (first | (with_reducible exact HR238_0.out) | (with_reducible refine Kd.C_alloc ?_ _) | (with_reducible refine Kd.C_drewN ?_ _) | (with_reducible refine Kd.C_drew ?_) | exact HR238_0.out)) x8_1 p239 q239; cases e239; replace p239 := eq_true p239; replace q239 := eq_true q239))
        repeat (go_quiet (first | ((with_reducible refine gate_dst (N := 88) rfl ?_); refine Kd.N_lit (Kd.slice 2 (Kd.int .i64)) _ 26 ?hg (N' := 88) ?hd (xs := ([] : List (List Int))) (inner := []) (ok := (fun k_ => (w.heap.size ≤ k_) ∧ some k_ ≠ (u7 : Value).ownBlock ∧ some k_ ≠ (u9 : Value).ownBlock ∧ k_ ≠ gb211)) (okp := (fun k_ => (w.heap.size ≤ k_) ∧ some k_ ≠ (u7 : Value).ownBlock ∧ some k_ ≠ (u9 : Value).ownBlock ∧ k_ ≠ gb211)) ?hr ?hp (fun _ hk => hk) ((show ∀ k_, wr.heap.size ≤ k_ → (fun k_ => (w.heap.size ≤ k_) ∧ some k_ ≠ (u7 : Value).ownBlock ∧ some k_ ≠ (u9 : Value).ownBlock ∧ k_ ≠ gb211) k_ from fun k_ hk => ⟨(Nat.le_trans (below_size hbs_) hk), Kd.fresh' (Kd.N_lt (Kd.N_below HO_7.out bgo_)) k_ hk, Kd.fresh' (Kd.N_lt (Kd.N_below HO_9.out bgo_)) k_ hk, Kd.freshB (g := gb211) (o := .cells #[.int .i64 a0_0, .slice A0_1 l0_1.length c0_1] 29 (0, 0)) (blk_below BK211.out bgo_) k_ hk⟩) _ (Nat.le_refl _)) (Below.refl _ _) (Nat.le_refl _) (by simp) ?_; (case hd => rfl); (case hg => rfl); (case hr => first | (go_simp; done) | (go_simp; rfl)); (case hp => exact (Reps.none _ _)); intro v236 w54 ho55 hb hg_ hnew_; clear hg_ hnew_; (first | rw [← Ny235.out] at ho55 | (simp only [Int.reduceToNat] at ho55; rw [← Ny235.out] at ho55)); replace HO_7 := Aside0.mk (Kd.N_elder' (Kd.N_below HO_7.out bgo_) (Kd.N_base ho55) hb); replace HO_9 := Aside0.mk (Kd.N_elder' (Kd.N_below HO_9.out bgo_) (Kd.N_base ho55) hb); have HO237 := Aside0.mk (Kd.N_lower ho55 (below_size hbs_)); replace BK211 := Aside0.mk (blk_below (g := gb211) (o := .cells #[.int .i64 a0_0, .slice A0_1 l0_1.length c0_1] 29 (0, 0)) (blk_below BK211.out bgo_) hb); replace HB := Aside0.mk (below_step hbs_ hb); clear hb ho55; obtain ⟨Ao56, co56, eo56⟩ := Kd.N_slice HO_9.out; subst eo56; have p238 : 0 ≤ ((ji48) : Int) := od_; have q238 : (ji48) < (x9_2.length : Int) := od_; obtain ⟨ad238, A238_0, c238_0, e238, hx238_0, hl238_0, hi238_0⟩ := at_L5 (Kd.N_reads' HO_9.out).2.2 (ji48) p238 q238; cases e238; obtain ⟨ce238, hce238, hMe238, hcc238⟩ := Kd.N_get HO_9.out [] (ji48) p238 (by first | exact q238 | exact od_ | (have e_ := (Kd.N_reads' HO_9.out).1; omega)); obtain ⟨ua238_0, uc238_0, rfl, ul238_0, ge238_0⟩ := Kd.FK_slice_open hMe238; have hv238_0 := hcc238 0 _ rfl; rw [Nat.add_zero, show ((Kd.slice 4 Kd.bool)).sz = 1 from rfl, Nat.mul_one] at hv238_0; replace hv238_0 := Option.some.inj (hv238_0.symm.trans hx238_0); injection hv238_0 with hva_ hvn_ hvc_; rw [hva_] at ge238_0; rw [hvc_] at ul238_0; have HL238_0 := Aside0.mk (show Kd.V Kd.bool 4 _ w.heap.size _ _ (rd_L5 x9_2 (ji48)) from Kd.V_mk ul238_0 ge238_0); clear hva_ hvn_ hvc_ ge238_0 ul238_0; clear hcc238 hce238; have HR238_0 := Aside0.mk hi238_0; have HC238_0 := Aside0.mk hl238_0; clear hi238_0 hl238_0; replace p238 := eq_true p238; replace q238 := eq_true q238; have p239 : 0 ≤ (x8_1 : Int) := od_; have q239 : x8_1 < ((rd_L5 x9_2 (ji48)).length : Int) := od_; obtain ⟨ad239, e239, hx239_0⟩ := Kd.at_bool (by repeat (first | (with_reducible exact HR238_0.out) | (with_reducible refine Kd.C_alloc ?_ _) | (with_reducible refine Kd.C_drewN ?_ _) | (with_reducible refine Kd.C_drew ?_) | exact HR238_0.out)) x8_1 p239 q239; cases e239; replace p239 := eq_true p239; replace q239 := eq_true q239)); go_upto_if 96 with (first | ((with_reducible refine gate_dst (N := 88) rfl ?_); refine Kd.N_lit (Kd.slice 2 (Kd.int .i64)) _ 26 ?hg (N' := 88) ?hd (xs := ([] : List (List Int))) (inner := []) (ok := (fun k_ => (w.heap.size ≤ k_) ∧ some k_ ≠ (u7 : Value).ownBlock ∧ some k_ ≠ (u9 : Value).ownBlock ∧ k_ ≠ gb211)) (okp := (fun k_ => (w.heap.size ≤ k_) ∧ some k_ ≠ (u7 : Value).ownBlock ∧ some k_ ≠ (u9 : Value).ownBlock ∧ k_ ≠ gb211)) ?hr ?hp (fun _ hk => hk) ((show ∀ k_, wr.heap.size ≤ k_ → (fun k_ => (w.heap.size ≤ k_) ∧ some k_ ≠ (u7 : Value).ownBlock ∧ some k_ ≠ (u9 : Value).ownBlock ∧ k_ ≠ gb211) k_ from fun k_ hk => ⟨(Nat.le_trans (below_size hbs_) hk), Kd.fresh' (Kd.N_lt (Kd.N_below HO_7.out bgo_)) k_ hk, Kd.fresh' (Kd.N_lt (Kd.N_below HO_9.out bgo_)) k_ hk, Kd.freshB (g := gb211) (o := .cells #[.int .i64 a0_0, .slice A0_1 l0_1.length c0_1] 29 (0, 0)) (blk_below BK211.out bgo_) k_ hk⟩) _ (Nat.le_refl _)) (Below.refl _ _) (Nat.le_refl _) (by simp) ?_; (case hd => rfl); (case hg => rfl); (case hr => first | (go_simp; done) | (go_simp; rfl)); (case hp => exact (Reps.none _ _)); intro v236 w54 ho55 hb hg_ hnew_; clear hg_ hnew_; (first | rw [← Ny235.out] at ho55 | (simp only [Int.reduceToNat] at ho55; rw [← Ny235.out] at ho55)); replace HO_7 := Aside0.mk (Kd.N_elder' (Kd.N_below HO_7.out bgo_) (Kd.N_base ho55) hb); replace HO_9 := Aside0.mk (Kd.N_elder' (Kd.N_below HO_9.out bgo_) (Kd.N_base ho55) hb); have HO237 := Aside0.mk (Kd.N_lower ho55 (below_size hbs_)); replace BK211 := Aside0.mk (blk_below (g := gb211) (o := .cells #[.int .i64 a0_0, .slice A0_1 l0_1.length c0_1] 29 (0, 0)) (blk_below BK211.out bgo_) hb); replace HB := Aside0.mk (below_step hbs_ hb); clear hb ho55; obtain ⟨Ao56, co56, eo56⟩ := Kd.N_slice HO_9.out; subst eo56; have p238 : 0 ≤ ((ji48) : Int) := od_; have q238 : (ji48) < (x9_2.length : Int) := od_; obtain ⟨ad238, A238_0, c238_0, e238, hx238_0, hl238_0, hi238_0⟩ := at_L5 (Kd.N_reads' HO_9.out).2.2 (ji48) p238 q238; cases e238; obtain ⟨ce238, hce238, hMe238, hcc238⟩ := Kd.N_get HO_9.out [] (ji48) p238 (by first | exact q238 | exact od_ | (have e_ := (Kd.N_reads' HO_9.out).1; omega)); obtain ⟨ua238_0, uc238_0, rfl, ul238_0, ge238_0⟩ := Kd.FK_slice_open hMe238; have hv238_0 := hcc238 0 _ rfl; rw [Nat.add_zero, show ((Kd.slice 4 Kd.bool)).sz = 1 from rfl, Nat.mul_one] at hv238_0; replace hv238_0 := Option.some.inj (hv238_0.symm.trans hx238_0); injection hv238_0 with hva_ hvn_ hvc_; rw [hva_] at ge238_0; rw [hvc_] at ul238_0; have HL238_0 := Aside0.mk (show Kd.V Kd.bool 4 _ w.heap.size _ _ (rd_L5 x9_2 (ji48)) from Kd.V_mk ul238_0 ge238_0); clear hva_ hvn_ hvc_ ge238_0 ul238_0; clear hcc238 hce238; have HR238_0 := Aside0.mk hi238_0; have HC238_0 := Aside0.mk hl238_0; clear hi238_0 hl238_0; replace p238 := eq_true p238; replace q238 := eq_true q238; have p239 : 0 ≤ (x8_1 : Int) := od_; have q239 : x8_1 < ((rd_L5 x9_2 (ji48)).length : Int) := od_; obtain ⟨ad239, e239, hx239_0⟩ := Kd.at_bool (by repeat (first | (with_reducible exact HR238_0.out) | (with_reducible refine Kd.C_alloc ?_ _) | (with_reducible refine Kd.C_drewN ?_ _) | (with_reducible refine Kd.C_drew ?_) | exact HR238_0.out)) x8_1 p239 q239; cases e239; replace p239 := eq_true p239; replace q239 := eq_true q239)))
        (try simp only [Act.put, List.setIfInBounds_toArray, List.set_cons_zero, List.set_cons_succ])
        go_cut [15] (fun v15 wc => ∃ (kq : Nat) (x15_52 : List (List Int)), Aside0 (spec_l03All.j5 kq a1 (wrap64 (2 * (l0_1.length : Int))) x7_1 x8_1 x9_2 x15_52 a0_0 l0_1 = some (r1, r2)) ∧ Aside0 (kq ≤ k2) ∧ Aside0 (Kd.N (Kd.slice 2 (Kd.int .i64)) 26 wc w.heap.size (fun k_ => (w.heap.size ≤ k_) ∧ some k_ ≠ ((.slice (some ad238) x9_2.length co56) : Value).ownBlock ∧ some k_ ≠ (v15 : Value).ownBlock ∧ k_ ≠ gb211) u7 x7_1) ∧ Aside0 (Kd.N (Kd.slice 4 Kd.bool) 86 wc w.heap.size (fun k_ => (w.heap.size ≤ k_) ∧ some k_ ≠ (u7 : Value).ownBlock ∧ some k_ ≠ (v15 : Value).ownBlock ∧ k_ ≠ gb211) (.slice (some ad238) x9_2.length co56) x9_2) ∧ Aside0 (Kd.N (Kd.slice 2 (Kd.int .i64)) 26 wc w.heap.size (fun k_ => (w.heap.size ≤ k_) ∧ some k_ ≠ (u7 : Value).ownBlock ∧ some k_ ≠ ((.slice (some ad238) x9_2.length co56) : Value).ownBlock ∧ k_ ≠ gb211) v15 x15_52) ∧ Aside0 (wc.heap[gb211]? = some (.cells #[.int .i64 a0_0, (.slice A0_1 l0_1.length c0_1)] 29 (0, 0))) ∧ Aside0 (Below w.heap.size w wc))
        case first =>
         have H := HC53.out
         clear HC53
         obtain ⟨bq57, hbq57⟩ : ∃ b_ : Bool, b_ = (rdOf false (rd_L5 x9_2 (ji48)) x8_1) := ⟨_, rfl⟩
         replace H : (if bq57 = true then (if y235.length < 5864062014805 then (spec_l03All.j5 k2 a1 (wrap64 (2 * (l0_1.length : Int))) x7_1 x8_1 x9_2 (y235 ++ [(([x8_1] : List Int))]) a0_0 l0_1) else (none)) else (spec_l03All.j5 k2 a1 (wrap64 (2 * (l0_1.length : Int))) x7_1 x8_1 x9_2 y235 a0_0 l0_1)) = some (r1, r2) := by rw [← hbq57] at H; exact H
         have Nbq57 := Aside0.mk hbq57
         clear hbq57
         (try rw [← Nbq57.out])
         by_cases c58 : bq57 = true
         ·subst c58
          have H1 : (if y235.length < 5864062014805 then (spec_l03All.j5 k2 a1 (wrap64 (2 * (l0_1.length : Int))) x7_1 x8_1 x9_2 (y235 ++ [(([x8_1] : List Int))]) a0_0 l0_1) else (none)) = some (r1, r2) := by rw [if_pos rfl] at H; exact H
          clear H
          have H := H1
          clear H1
          obtain ⟨y240, Ny240, H⟩ : ∃ y240 : List Int, Aside0 (y240 = (([x8_1] : List Int))) ∧ (if y235.length < 5864062014805 then (spec_l03All.j5 k2 a1 (wrap64 (2 * (l0_1.length : Int))) x7_1 x8_1 x9_2 (y235 ++ [y240]) a0_0 l0_1) else (none)) = some (r1, r2) := ⟨_, ⟨rfl⟩, H⟩
          obtain ⟨c59, H⟩ := itn_ H
          have LMc59 := Aside0.mk c59
          clear c59
          obtain ⟨y243, Ny243, H⟩ : ∃ y243 : List (List Int), Aside0 (y243 = (y235 ++ [y240])) ∧ (spec_l03All.j5 k2 a1 (wrap64 (2 * (l0_1.length : Int))) x7_1 x8_1 x9_2 y243 a0_0 l0_1) = some (r1, r2) := ⟨_, ⟨rfl⟩, H⟩
          have H' := Aside0.mk H
          clear H
          go_wp2_with (first | ((with_reducible refine gate_dst (N := 99) rfl ?_); refine Kd.R_lit (Kd.int .i64) _ 2 ?hg (N := 99) ?hd (xs := ([x8_1] : List Int)) (inner := [.int .i64 x8_1]) (ok := fun _ => True) (okp := fun _ => True) ?hr ?hp (fun _ hk => hk) trivial (Below.refl _ _) (Nat.le_refl _) (by simp) ?_; (case hd => rfl); (case hg => rfl); (case hr => first | (go_simp; done) | (go_simp; rfl)); (case hp => exact (Reps.one (show Kd.M (Kd.int .i64) _ _ _ x8_1 [.int .i64 x8_1] from rfl) (Reps.none _ _))); intro v241 w60 ho61 hb hg_ hnew_; clear hg_ hnew_; (first | rw [← Ny240.out] at ho61 | (simp only [Int.reduceToNat] at ho61; rw [← Ny240.out] at ho61)); replace HO_7 := Aside0.mk (Kd.N_elder' (Kd.N_below HO_7.out bgo_) (Kd.R_base ho61) hb); replace HO_9 := Aside0.mk (Kd.N_elder' (Kd.N_below HO_9.out bgo_) (Kd.R_base ho61) hb); replace HO237 := Aside0.mk (Kd.N_elder' (Kd.N_below HO237.out bgo_) (Kd.R_base ho61) hb); replace HL238_0 := Aside0.mk (Kd.V_elder' (by (with_reducible repeat (first | apply Kd.V_alloc | apply Kd.V_drewN | apply Kd.V_drew)); exact HL238_0.out) (Kd.R_base ho61) hb); have HO242 := Aside0.mk (Kd.R_lower (Kd.R_newM (M := fun k_ => (w.heap.size ≤ k_)) ho61 (below_size hbs_) (fun k_ h_ => h_)) (below_size hbs_)); replace BK211 := Aside0.mk (blk_below (g := gb211) (o := .cells #[.int .i64 a0_0, .slice A0_1 l0_1.length c0_1] 29 (0, 0)) (blk_below BK211.out bgo_) hb); replace HR238_0 := Aside0.mk (Kd.C_below (by repeat (first | (with_reducible exact HR238_0.out) | (with_reducible refine Kd.C_alloc ?_ _) | (with_reducible refine Kd.C_drewN ?_ _) | (with_reducible refine Kd.C_drew ?_) | exact HR238_0.out)) hb); replace HB := Aside0.mk (below_step hbs_ hb); clear hb ho61; obtain ⟨Ao63, co63, eo63⟩ := Kd.R_slice HO242.out; subst eo63) | ((with_reducible refine gate_builtin (b := .append) (xs := #[.tmp 97, .tmp 100]) rfl ?_); at_builtin; refine Kd.N_append (Kd.slice 2 (Kd.int .i64)) (w0 := w) w.heap.size rfl (.tmp 97) (.tmp 100) 22 26 (.slice none 0 0) 24 rfl Try.underlying22 info26 rfl (by decide) (by omega) v236 y235 y240 [.slice Ao63 y240.length co63] (fun k_ => (w.heap.size ≤ k_) ∧ some k_ ≠ (u7 : Value).ownBlock ∧ some k_ ≠ (.slice (some ad238) x9_2.length co56 : Value).ownBlock ∧ k_ ≠ gb211) (fun k_ => ((fun k_ => (w.heap.size ≤ k_) ∧ some k_ ≠ (u7 : Value).ownBlock ∧ some k_ ≠ (.slice (some ad238) x9_2.length co56 : Value).ownBlock ∧ k_ ≠ gb211)) k_ ∧ some k_ ≠ (v236 : Value).ownBlock) rfl rfl ?aP (fun _ hk => hk) ?aF ?aO ?aB ?aS ?aL ?_; (case aP => exact (Kd.FK_slice_mk (Kd.R_reads' (Kd.R_mono (ok' := (fun k_ => ((fun k_ => (w.heap.size ≤ k_) ∧ some k_ ≠ (u7 : Value).ownBlock ∧ some k_ ≠ (.slice (some ad238) x9_2.length co56 : Value).ownBlock ∧ k_ ≠ gb211)) k_ ∧ some k_ ≠ (v236 : Value).ownBlock)) (Kd.R_types (Kd.R_apart' (Kd.R_apart' (Kd.R_apart' (HO242.out) (Kd.N_typed HO_7.out) (by decide)) (Kd.N_typed HO_9.out) (by decide)) (Kd.N_typed HO237.out) (by decide)) BK211.out (by decide)) (fun k_ hk => ⟨⟨hk.1.1.1.1.1, ⟨hk.1.1.1.2, ⟨hk.1.1.2, hk.2⟩⟩⟩, hk.1.2⟩))).2.1 (Kd.R_F (Kd.R_mono (ok' := (fun k_ => ((fun k_ => (w.heap.size ≤ k_) ∧ some k_ ≠ (u7 : Value).ownBlock ∧ some k_ ≠ (.slice (some ad238) x9_2.length co56 : Value).ownBlock ∧ k_ ≠ gb211)) k_ ∧ some k_ ≠ (v236 : Value).ownBlock)) (Kd.R_types (Kd.R_apart' (Kd.R_apart' (Kd.R_apart' (HO242.out) (Kd.N_typed HO_7.out) (by decide)) (Kd.N_typed HO_9.out) (by decide)) (Kd.N_typed HO237.out) (by decide)) BK211.out (by decide)) (fun k_ hk => ⟨⟨hk.1.1.1.1.1, ⟨hk.1.1.1.2, ⟨hk.1.1.2, hk.2⟩⟩⟩, hk.1.2⟩))))); (case aB => exact hbs_); (case aF => exact (fun k_ hk => ⟨(Nat.le_trans (below_size hbs_) hk), Kd.fresh' (Kd.N_lt (Kd.N_below HO_7.out bgo_)) k_ hk, Kd.fresh' (Kd.N_lt (Kd.N_below HO_9.out bgo_)) k_ hk, Kd.freshB (g := gb211) (o := .cells #[.int .i64 a0_0, .slice A0_1 l0_1.length c0_1] 29 (0, 0)) (blk_below BK211.out bgo_) k_ hk⟩)); (case aO => exact (by (with_reducible repeat (first | apply Kd.N_alloc | apply Kd.N_drewN | apply Kd.N_drew)); exact Kd.N_mono HO237.out (fun _ hk => ⟨hk.1.1, ⟨hk.1.2.1, ⟨hk.1.2.2.1, hk.1.2.2.2⟩⟩⟩))); (case aS => exact (below_size hbs_)); (case aL => have := LMc59.out; omega); intro v244 w62 ho hb hg hat; rw [← Ny243.out] at ho; replace HO_7 := Aside0.mk (Kd.N_afterv (ok := (fun k_ => (w.heap.size ≤ k_) ∧ some k_ ≠ (.slice (some ad238) x9_2.length co56 : Value).ownBlock ∧ some k_ ≠ (.slice Ao63 y240.length co63 : Value).ownBlock ∧ k_ ≠ gb211)) (by (with_reducible repeat (first | apply Kd.N_alloc | apply Kd.N_drewN | apply Kd.N_drew)); exact Kd.N_mono HO_7.out (fun _ hk => ⟨⟨hk.1.1.1, ⟨hk.1.1.2.1, ⟨hk.2, hk.1.1.2.2⟩⟩⟩, hk.1.2⟩)) hg hat); replace HO_9 := Aside0.mk (Kd.N_afterv (ok := (fun k_ => (w.heap.size ≤ k_) ∧ some k_ ≠ (u7 : Value).ownBlock ∧ some k_ ≠ (.slice Ao63 y240.length co63 : Value).ownBlock ∧ k_ ≠ gb211)) (by (with_reducible repeat (first | apply Kd.N_alloc | apply Kd.N_drewN | apply Kd.N_drew)); exact Kd.N_mono HO_9.out (fun _ hk => ⟨⟨hk.1.1.1, ⟨hk.1.1.2.1, ⟨hk.2, hk.1.1.2.2⟩⟩⟩, hk.1.2⟩)) hg hat); replace BK211 := Aside0.mk (blk_grown (g := gb211) (o := .cells #[.int .i64 a0_0, .slice A0_1 l0_1.length c0_1] 29 (0, 0)) (blk_below BK211.out bgo_) hg (Kd.N_ne HO237.out BK211.out (by decide))); replace HL238_0 := Aside0.mk (Kd.V_afterv (ok := (fun k_ => (w.heap.size ≤ k_) ∧ some k_ ≠ (u7 : Value).ownBlock ∧ some k_ ≠ (.slice (some ad238) x9_2.length co56 : Value).ownBlock ∧ some k_ ≠ (.slice Ao63 y240.length co63 : Value).ownBlock ∧ k_ ≠ gb211)) (by (with_reducible repeat (first | apply Kd.V_alloc | apply Kd.V_drewN | apply Kd.V_drew)); exact Kd.V_mono HL238_0.out (fun _ hk => ⟨⟨hk.1.1.1.1, ⟨hk.1.1.1.2.1, ⟨hk.1.2, ⟨hk.2, hk.1.1.1.2.2⟩⟩⟩⟩, hk.1.1.2⟩)) hg hat); replace HB := Aside0.mk (hb); have HO245 := Aside0.mk (ho); clear HO237 HO242; clear ho hb hg hat))
          repeat (go_quiet (first | ((with_reducible refine gate_dst (N := 99) rfl ?_); refine Kd.R_lit (Kd.int .i64) _ 2 ?hg (N := 99) ?hd (xs := ([x8_1] : List Int)) (inner := [.int .i64 x8_1]) (ok := fun _ => True) (okp := fun _ => True) ?hr ?hp (fun _ hk => hk) trivial (Below.refl _ _) (Nat.le_refl _) (by simp) ?_; (case hd => rfl); (case hg => rfl); (case hr => first | (go_simp; done) | (go_simp; rfl)); (case hp => exact (Reps.one (show Kd.M (Kd.int .i64) _ _ _ x8_1 [.int .i64 x8_1] from rfl) (Reps.none _ _))); intro v241 w60 ho61 hb hg_ hnew_; clear hg_ hnew_; (first | rw [← Ny240.out] at ho61 | (simp only [Int.reduceToNat] at ho61; rw [← Ny240.out] at ho61)); replace HO_7 := Aside0.mk (Kd.N_elder' (Kd.N_below HO_7.out bgo_) (Kd.R_base ho61) hb); replace HO_9 := Aside0.mk (Kd.N_elder' (Kd.N_below HO_9.out bgo_) (Kd.R_base ho61) hb); replace HO237 := Aside0.mk (Kd.N_elder' (Kd.N_below HO237.out bgo_) (Kd.R_base ho61) hb); replace HL238_0 := Aside0.mk (Kd.V_elder' (by (with_reducible repeat (first | apply Kd.V_alloc | apply Kd.V_drewN | apply Kd.V_drew)); exact HL238_0.out) (Kd.R_base ho61) hb); have HO242 := Aside0.mk (Kd.R_lower (Kd.R_newM (M := fun k_ => (w.heap.size ≤ k_)) ho61 (below_size hbs_) (fun k_ h_ => h_)) (below_size hbs_)); replace BK211 := Aside0.mk (blk_below (g := gb211) (o := .cells #[.int .i64 a0_0, .slice A0_1 l0_1.length c0_1] 29 (0, 0)) (blk_below BK211.out bgo_) hb); replace HR238_0 := Aside0.mk (Kd.C_below (by repeat (first | (with_reducible exact HR238_0.out) | (with_reducible refine Kd.C_alloc ?_ _) | (with_reducible refine Kd.C_drewN ?_ _) | (with_reducible refine Kd.C_drew ?_) | exact HR238_0.out)) hb); replace HB := Aside0.mk (below_step hbs_ hb); clear hb ho61; obtain ⟨Ao63, co63, eo63⟩ := Kd.R_slice HO242.out; subst eo63) | ((with_reducible refine gate_builtin (b := .append) (xs := #[.tmp 97, .tmp 100]) rfl ?_); at_builtin; refine Kd.N_append (Kd.slice 2 (Kd.int .i64)) (w0 := w) w.heap.size rfl (.tmp 97) (.tmp 100) 22 26 (.slice none 0 0) 24 rfl Try.underlying22 info26 rfl (by decide) (by omega) v236 y235 y240 [.slice Ao63 y240.length co63] (fun k_ => (w.heap.size ≤ k_) ∧ some k_ ≠ (u7 : Value).ownBlock ∧ some k_ ≠ (.slice (some ad238) x9_2.length co56 : Value).ownBlock ∧ k_ ≠ gb211) (fun k_ => ((fun k_ => (w.heap.size ≤ k_) ∧ some k_ ≠ (u7 : Value).ownBlock ∧ some k_ ≠ (.slice (some ad238) x9_2.length co56 : Value).ownBlock ∧ k_ ≠ gb211)) k_ ∧ some k_ ≠ (v236 : Value).ownBlock) rfl rfl ?aP (fun _ hk => hk) ?aF ?aO ?aB ?aS ?aL ?_; (case aP => exact (Kd.FK_slice_mk (Kd.R_reads' (Kd.R_mono (ok' := (fun k_ => ((fun k_ => (w.heap.size ≤ k_) ∧ some k_ ≠ (u7 : Value).ownBlock ∧ some k_ ≠ (.slice (some ad238) x9_2.length co56 : Value).ownBlock ∧ k_ ≠ gb211)) k_ ∧ some k_ ≠ (v236 : Value).ownBlock)) (Kd.R_types (Kd.R_apart' (Kd.R_apart' (Kd.R_apart' (HO242.out) (Kd.N_typed HO_7.out) (by decide)) (Kd.N_typed HO_9.out) (by decide)) (Kd.N_typed HO237.out) (by decide)) BK211.out (by decide)) (fun k_ hk => ⟨⟨hk.1.1.1.1.1, ⟨hk.1.1.1.2, ⟨hk.1.1.2, hk.2⟩⟩⟩, hk.1.2⟩))).2.1 (Kd.R_F (Kd.R_mono (ok' := (fun k_ => ((fun k_ => (w.heap.size ≤ k_) ∧ some k_ ≠ (u7 : Value).ownBlock ∧ some k_ ≠ (.slice (some ad238) x9_2.length co56 : Value).ownBlock ∧ k_ ≠ gb211)) k_ ∧ some k_ ≠ (v236 : Value).ownBlock)) (Kd.R_types (Kd.R_apart' (Kd.R_apart' (Kd.R_apart' (HO242.out) (Kd.N_typed HO_7.out) (by decide)) (Kd.N_typed HO_9.out) (by decide)) (Kd.N_typed HO237.out) (by decide)) BK211.out (by decide)) (fun k_ hk => ⟨⟨hk.1.1.1.1.1, ⟨hk.1.1.1.2, ⟨hk.1.1.2, hk.2⟩⟩⟩, hk.1.2⟩))))); (case aB => exact hbs_); (case aF => exact (fun k_ hk => ⟨(Nat.le_trans (below_size hbs_) hk), Kd.fresh' (Kd.N_lt (Kd.N_below HO_7.out bgo_)) k_ hk, Kd.fresh' (Kd.N_lt (Kd.N_below HO_9.out bgo_)) k_ hk, Kd.freshB (g := gb211) (o := .cells #[.int .i64 a0_0, .slice A0_1 l0_1.length c0_1] 29 (0, 0)) (blk_below BK211.out bgo_) k_ hk⟩)); (case aO => exact (by (with_reducible repeat (first | apply Kd.N_alloc | apply Kd.N_drewN | apply Kd.N_drew)); exact Kd.N_mono HO237.out (fun _ hk => ⟨hk.1.1, ⟨hk.1.2.1, ⟨hk.1.2.2.1, hk.1.2.2.2⟩⟩⟩))); (case aS => exact (below_size hbs_)); (case aL => have := LMc59.out; omega); intro v244 w62 ho hb hg hat; rw [← Ny243.out] at ho; replace HO_7 := Aside0.mk (Kd.N_afterv (ok := (fun k_ => (w.heap.size ≤ k_) ∧ some k_ ≠ (.slice (some ad238) x9_2.length co56 : Value).ownBlock ∧ some k_ ≠ (.slice Ao63 y240.length co63 : Value).ownBlock ∧ k_ ≠ gb211)) (by (with_reducible repeat (first | apply Kd.N_alloc | apply Kd.N_drewN | apply Kd.N_drew)); exact Kd.N_mono HO_7.out (fun _ hk => ⟨⟨hk.1.1.1, ⟨hk.1.1.2.1, ⟨hk.2, hk.1.1.2.2⟩⟩⟩, hk.1.2⟩)) hg hat); replace HO_9 := Aside0.mk (Kd.N_afterv (ok := (fun k_ => (w.heap.size ≤ k_) ∧ some k_ ≠ (u7 : Value).ownBlock ∧ some k_ ≠ (.slice Ao63 y240.length co63 : Value).ownBlock ∧ k_ ≠ gb211)) (by (with_reducible repeat (first | apply Kd.N_alloc | apply Kd.N_drewN | apply Kd.N_drew)); exact Kd.N_mono HO_9.out (fun _ hk => ⟨⟨hk.1.1.1, ⟨hk.1.1.2.1, ⟨hk.2, hk.1.1.2.2⟩⟩⟩, hk.1.2⟩)) hg hat); replace BK211 := Aside0.mk (blk_grown (g := gb211) (o := .cells #[.int .i64 a0_0, .slice A0_1 l0_1.length c0_1] 29 (0, 0)) (blk_below BK211.out bgo_) hg (Kd.N_ne HO237.out BK211.out (by decide))); replace HL238_0 := Aside0.mk (Kd.V_afterv (ok := (fun k_ => (w.heap.size ≤ k_) ∧ some k_ ≠ (u7 : Value).ownBlock ∧ some k_ ≠ (.slice (some ad238) x9_2.length co56 : Value).ownBlock ∧ some k_ ≠ (.slice Ao63 y240.length co63 : Value).ownBlock ∧ k_ ≠ gb211)) (by (with_reducible repeat (first | apply Kd.V_alloc | apply Kd.V_drewN | apply Kd.V_drew)); exact Kd.V_mono HL238_0.out (fun _ hk => ⟨⟨hk.1.1.1.1, ⟨hk.1.1.1.2.1, ⟨hk.1.2, ⟨hk.2, hk.1.1.1.2.2⟩⟩⟩⟩, hk.1.1.2⟩)) hg hat); replace HB := Aside0.mk (hb); have HO245 := Aside0.mk (ho); clear HO237 HO242; clear ho hb hg hat)); try go_wp2_with (first | ((with_reducible refine gate_dst (N := 99) rfl ?_); refine Kd.R_lit (Kd.int .i64) _ 2 ?hg (N := 99) ?hd (xs := ([x8_1] : List Int)) (inner := [.int .i64 x8_1]) (ok := fun _ => True) (okp := fun _ => True) ?hr ?hp (fun _ hk => hk) trivial (Below.refl _ _) (Nat.le_refl _) (by simp) ?_; (case hd => rfl); (case hg => rfl); (case hr => first | (go_simp; done) | (go_simp; rfl)); (case hp => exact (Reps.one (show Kd.M (Kd.int .i64) _ _ _ x8_1 [.int .i64 x8_1] from rfl) (Reps.none _ _))); intro v241 w60 ho61 hb hg_ hnew_; clear hg_ hnew_; (first | rw [← Ny240.out] at ho61 | (simp only [Int.reduceToNat] at ho61; rw [← Ny240.out] at ho61)); replace HO_7 := Aside0.mk (Kd.N_elder' (Kd.N_below HO_7.out bgo_) (Kd.R_base ho61) hb); replace HO_9 := Aside0.mk (Kd.N_elder' (Kd.N_below HO_9.out bgo_) (Kd.R_base ho61) hb); replace HO237 := Aside0.mk (Kd.N_elder' (Kd.N_below HO237.out bgo_) (Kd.R_base ho61) hb); replace HL238_0 := Aside0.mk (Kd.V_elder' (by (with_reducible repeat (first | apply Kd.V_alloc | apply Kd.V_drewN | apply Kd.V_drew)); exact HL238_0.out) (Kd.R_base ho61) hb); have HO242 := Aside0.mk (Kd.R_lower (Kd.R_newM (M := fun k_ => (w.heap.size ≤ k_)) ho61 (below_size hbs_) (fun k_ h_ => h_)) (below_size hbs_)); replace BK211 := Aside0.mk (blk_below (g := gb211) (o := .cells #[.int .i64 a0_0, .slice A0_1 l0_1.length c0_1] 29 (0, 0)) (blk_below BK211.out bgo_) hb); replace HR238_0 := Aside0.mk (Kd.C_below (by repeat (first | (with_reducible exact HR238_0.out) | (with_reducible refine Kd.C_alloc ?_ _) | (with_reducible refine Kd.C_drewN ?_ _) | (with_reducible refine Kd.C_drew ?_) | exact HR238_0.out)) hb); replace HB := Aside0.mk (below_step hbs_ hb); clear hb ho61; obtain ⟨Ao63, co63, eo63⟩ := Kd.R_slice HO242.out; subst eo63) | ((with_reducible refine gate_builtin (b := .append) (xs := #[.tmp 97, .tmp 100]) rfl ?_); at_builtin; refine Kd.N_append (Kd.slice 2 (Kd.int .i64)) (w0 := w) w.heap.size rfl (.tmp 97) (.tmp 100) 22 26 (.slice none 0 0) 24 rfl Try.underlying22 info26 rfl (by decide) (by omega) v236 y235 y240 [.slice Ao63 y240.length co63] (fun k_ => (w.heap.size ≤ k_) ∧ some k_ ≠ (u7 : Value).ownBlock ∧ some k_ ≠ (.slice (some ad238) x9_2.length co56 : Value).ownBlock ∧ k_ ≠ gb211) (fun k_ => ((fun k_ => (w.heap.size ≤ k_) ∧ some k_ ≠ (u7 : Value).ownBlock ∧ some k_ ≠ (.slice (some ad238) x9_2.length co56 : Value).ownBlock ∧ k_ ≠ gb211)) k_ ∧ some k_ ≠ (v236 : Value).ownBlock) rfl rfl ?aP (fun _ hk => hk) ?aF ?aO ?aB ?aS ?aL ?_; (case aP => exact (Kd.FK_slice_mk (Kd.R_reads' (Kd.R_mono (ok' := (fun k_ => ((fun k_ => (w.heap.size ≤ k_) ∧ some k_ ≠ (u7 : Value).ownBlock ∧ some k_ ≠ (.slice (some ad238) x9_2.length co56 : Value).ownBlock ∧ k_ ≠ gb211)) k_ ∧ some k_ ≠ (v236 : Value).ownBlock)) (Kd.R_types (Kd.R_apart' (Kd.R_apart' (Kd.R_apart' (HO242.out) (Kd.N_typed HO_7.out) (by decide)) (Kd.N_typed HO_9.out) (by decide)) (Kd.N_typed HO237.out) (by decide)) BK211.out (by decide)) (fun k_ hk => ⟨⟨hk.1.1.1.1.1, ⟨hk.1.1.1.2, ⟨hk.1.1.2, hk.2⟩⟩⟩, hk.1.2⟩))).2.1 (Kd.R_F (Kd.R_mono (ok' := (fun k_ => ((fun k_ => (w.heap.size ≤ k_) ∧ some k_ ≠ (u7 : Value).ownBlock ∧ some k_ ≠ (.slice (some ad238) x9_2.length co56 : Value).ownBlock ∧ k_ ≠ gb211)) k_ ∧ some k_ ≠ (v236 : Value).ownBlock)) (Kd.R_types (Kd.R_apart' (Kd.R_apart' (Kd.R_apart' (HO242.out) (Kd.N_typed HO_7.out) (by decide)) (Kd.N_typed HO_9.out) (by decide)) (Kd.N_typed HO237.out) (by decide)) BK211.out (by decide)) (fun k_ hk => ⟨⟨hk.1.1.1.1.1, ⟨hk.1.1.1.2, ⟨hk.1.1.2, hk.2⟩⟩⟩, hk.1.2⟩))))); (case aB => exact hbs_); (case aF => exact (fun k_ hk => ⟨(Nat.le_trans (below_size hbs_) hk), Kd.fresh' (Kd.N_lt (Kd.N_below HO_7.out bgo_)) k_ hk, Kd.fresh' (Kd.N_lt (Kd.N_below HO_9.out bgo_)) k_ hk, Kd.freshB (g := gb211) (o := .cells #[.int .i64 a0_0, .slice A0_1 l0_1.length c0_1] 29 (0, 0)) (blk_below BK211.out bgo_) k_ hk⟩)); (case aO => exact (by (with_reducible repeat (first | apply Kd.N_alloc | apply Kd.N_drewN | apply Kd.N_drew)); exact Kd.N_mono HO237.out (fun _ hk => ⟨hk.1.1, ⟨hk.1.2.1, ⟨hk.1.2.2.1, hk.1.2.2.2⟩⟩⟩))); (case aS => exact (below_size hbs_)); (case aL => have := LMc59.out; omega); intro v244 w62 ho hb hg hat; rw [← Ny243.out] at ho; replace HO_7 := Aside0.mk (Kd.N_afterv (ok := (fun k_ => (w.heap.size ≤ k_) ∧ some k_ ≠ (.slice (some ad238) x9_2.length co56 : Value).ownBlock ∧ some k_ ≠ (.slice Ao63 y240.length co63 : Value).ownBlock ∧ k_ ≠ gb211)) (by (with_reducible repeat (first | apply Kd.N_alloc | apply Kd.N_drewN | apply Kd.N_drew)); exact Kd.N_mono HO_7.out (fun _ hk => ⟨⟨hk.1.1.1, ⟨hk.1.1.2.1, ⟨hk.2, hk.1.1.2.2⟩⟩⟩, hk.1.2⟩)) hg hat); replace HO_9 := Aside0.mk (Kd.N_afterv (ok := (fun k_ => (w.heap.size ≤ k_) ∧ some k_ ≠ (u7 : Value).ownBlock ∧ some k_ ≠ (.slice Ao63 y240.length co63 : Value).ownBlock ∧ k_ ≠ gb211)) (by (with_reducible repeat (first | apply Kd.N_alloc | apply Kd.N_drewN | apply Kd.N_drew)); exact Kd.N_mono HO_9.out (fun _ hk => ⟨⟨hk.1.1.1, ⟨hk.1.1.2.1, ⟨hk.2, hk.1.1.2.2⟩⟩⟩, hk.1.2⟩)) hg hat); replace BK211 := Aside0.mk (blk_grown (g := gb211) (o := .cells #[.int .i64 a0_0, .slice A0_1 l0_1.length c0_1] 29 (0, 0)) (blk_below BK211.out bgo_) hg (Kd.N_ne HO237.out BK211.out (by decide))); replace HL238_0 := Aside0.mk (Kd.V_afterv (ok := (fun k_ => (w.heap.size ≤ k_) ∧ some k_ ≠ (u7 : Value).ownBlock ∧ some k_ ≠ (.slice (some ad238) x9_2.length co56 : Value).ownBlock ∧ some k_ ≠ (.slice Ao63 y240.length co63 : Value).ownBlock ∧ k_ ≠ gb211)) (by (with_reducible repeat (first | apply Kd.V_alloc | apply Kd.V_drewN | apply Kd.V_drew)); exact Kd.V_mono HL238_0.out (fun _ hk => ⟨⟨hk.1.1.1.1, ⟨hk.1.1.1.2.1, ⟨hk.1.2, ⟨hk.2, hk.1.1.1.2.2⟩⟩⟩⟩, hk.1.1.2⟩)) hg hat); replace HB := Aside0.mk (hb); have HO245 := Aside0.mk (ho); clear HO237 HO242; clear ho hb hg hat)))
          go_meet
          case rel => exact ⟨_, (y243), H', ⟨by have := HK1.out; have := HK2.out; first | omega | exact Nat.le_refl _⟩, ⟨by (with_reducible repeat (first | apply Kd.N_alloc | apply Kd.N_drewN | apply Kd.N_drew)); exact Kd.N_mono HO_7.out (fun _ hk => ⟨hk.1.1, ⟨hk.1.2.1, ⟨hk.2, hk.1.2.2.2⟩⟩⟩)⟩, ⟨by (with_reducible repeat (first | apply Kd.N_alloc | apply Kd.N_drewN | apply Kd.N_drew)); exact Kd.N_mono HO_9.out (fun _ hk => ⟨hk.1.1, ⟨hk.1.2.1, ⟨hk.2, hk.1.2.2.2⟩⟩⟩)⟩, ⟨Kd.N_below HO245.out bgo_⟩, ⟨blk_below BK211.out bgo_⟩, ⟨hbs_⟩⟩
         ·replace c58 := Bool.eq_false_iff.mpr c58
          subst c58
          have H1 : (spec_l03All.j5 k2 a1 (wrap64 (2 * (l0_1.length : Int))) x7_1 x8_1 x9_2 y235 a0_0 l0_1) = some (r1, r2) := by rw [if_neg (show ¬ (false = true) by decide)] at H; exact H
          clear H
          have H := H1
          clear H1
          have H' := Aside0.mk H
          clear H
          go_wp2
          repeat (go_quiet (fail); try go_wp2)
          go_meet
          case rel => exact ⟨_, (y235), H', ⟨by have := HK1.out; have := HK2.out; first | omega | exact Nat.le_refl _⟩, ⟨by (with_reducible repeat (first | apply Kd.N_alloc | apply Kd.N_drewN | apply Kd.N_drew)); exact Kd.N_mono HO_7.out (fun _ hk => ⟨hk.1.1, ⟨hk.1.2.1, ⟨hk.2, hk.1.2.2⟩⟩⟩)⟩, ⟨by (with_reducible repeat (first | apply Kd.N_alloc | apply Kd.N_drewN | apply Kd.N_drew)); exact Kd.N_mono HO_9.out (fun _ hk => ⟨hk.1.1, ⟨hk.1.2.1, ⟨hk.2, hk.1.2.2⟩⟩⟩)⟩, ⟨Kd.N_below HO237.out bgo_⟩, ⟨blk_below BK211.out bgo_⟩, ⟨hbs_⟩⟩
        case rest => as_aux_lemma =>
         clear HC53
         obtain ⟨kq, x15_52, HA, HJ52, HO_7, HO_9, HO_15, BK211, HB⟩ := hcut
         cases kq with
         | zero => exact absurd HA.out (by simp [spec_l03All.j5])
         | succ kj52 =>
          have H := HA.out
          clear HA
          simp only [spec_l03All.j5] at H
          have H' := Aside0.mk H
          clear H
          go_wp2
          repeat (go_quiet (fail); try go_wp2)
          go_loopg [15, 16] kj52 (fun kq v15 v16 w' => ∃ (x15_4 : List (List Int)) (x16_4 : Int), v16 = .int .i64 x16_4 ∧ Aside0 (spec_l03All.l4 kq a1 (wrap64 (2 * (l0_1.length : Int))) x7_1 x8_1 x9_2 x15_4 x16_4 a0_0 l0_1 = some (r1, r2)) ∧ Aside0 (kq ≤ kj52) ∧ Aside0 (Kd.N (Kd.slice 2 (Kd.int .i64)) 26 w' w.heap.size (fun k_ => (w.heap.size ≤ k_) ∧ some k_ ≠ ((.slice (some ad238) x9_2.length co56) : Value).ownBlock ∧ some k_ ≠ (v15 : Value).ownBlock ∧ k_ ≠ gb211) u7 x7_1) ∧ Aside0 (Kd.N (Kd.slice 4 Kd.bool) 86 w' w.heap.size (fun k_ => (w.heap.size ≤ k_) ∧ some k_ ≠ (u7 : Value).ownBlock ∧ some k_ ≠ (v15 : Value).ownBlock ∧ k_ ≠ gb211) (.slice (some ad238) x9_2.length co56) x9_2) ∧ Aside0 (Kd.N (Kd.slice 2 (Kd.int .i64)) 26 w' w.heap.size (fun k_ => (w.heap.size ≤ k_) ∧ some k_ ≠ (u7 : Value).ownBlock ∧ some k_ ≠ ((.slice (some ad238) x9_2.length co56) : Value).ownBlock ∧ k_ ≠ gb211) v15 x15_4) ∧ Aside0 (w'.heap[gb211]? = some (.cells #[.int .i64 a0_0, (.slice A0_1 l0_1.length c0_1)] 29 (0, 0))) ∧ Aside0 (Below w.heap.size w w'))
          case atStart => exact ⟨(x15_52), (wrap64 (a1 - 2)), es_, H', ⟨Nat.le_refl _⟩, ⟨Kd.N_below HO_7.out bgo_⟩, ⟨Kd.N_below HO_9.out bgo_⟩, ⟨Kd.N_below HO_15.out bgo_⟩, ⟨blk_below BK211.out bgo_⟩, ⟨hbs_⟩⟩
          case round =>
           clear H'
           obtain ⟨x15_4, x16_4, rfl, HA, HK4, HO_7, HO_9, HO_15, BK211, HB⟩ := hrel
           cases gk with
           | zero => exact absurd HA.out (by simp [spec_l03All.l4])
           | succ k4 =>
            have H := HA.out
            clear HA
            simp only [spec_l03All.l4] at H
            by_cases c64 : x16_4 ≥ 0
            ·rw [if_pos c64] at H
             have c64b0 := decide_eq_true c64
             clear c64
             obtain ⟨t249, A65, H⟩ := bnd_ H
             obtain ⟨y252, Ny252, H⟩ : ∃ y252 : List (List Int), Aside0 (y252 = (([] : List (List Int)))) ∧ (spec_l03All.l5 k4 a1 (wrap64 (2 * (l0_1.length : Int))) x7_1 x8_1 x9_2 x16_4 t249 y252 0 a0_0 l0_1) = some (r1, r2) := ⟨_, ⟨rfl⟩, H⟩
             have H' := Aside0.mk H
             clear H
             have hcz66_0 : wr.cell? ⟨gb211, 0, none⟩ = some (.int .i64 a0_0) := (blk_cell BK211.out 0).trans rfl
             have hcz66_1 : wr.cell? ⟨gb211, 1, none⟩ = some (.slice A0_1 l0_1.length c0_1) := (blk_cell BK211.out 1).trans rfl
             have hfz66_0 := blk_frozen BK211.out 0
             have hfz66_1 := blk_frozen BK211.out 1
             obtain ⟨Ao67, co67, eo67⟩ := Kd.N_slice HO_15.out
             subst eo67
             go_wp2_with (first | (go_at_call 103; (with_reducible refine (spec_l03Longer.calls k4 a0_0 _ _ l0_1 _ _ x15_4 t249 _ ?side1 ?side2 ?side3 ?side4 A65.out).mono ?_); (case side1 => exact Kd.C_below (Kd.C_below HR0_1.out HB.out) bgo_); (case side2 => exact HC0_1.out); (case side3 => exact Kd.C_below (Kd.N_reads' HO_15.out).2.2 bgo_); (case side4 => exact (Kd.N_reads' HO_15.out).2.1); rintro e w68 ⟨v250, rfl, ho0, hb⟩; have HO251 := Aside0.mk (Kd.N_lower (Kd.N_mono (ok' := fun k_ => (w.heap.size ≤ k_) ∧ some k_ ≠ (u7 : Value).ownBlock ∧ some k_ ≠ (.slice (some ad238) x9_2.length co56 : Value).ownBlock ∧ some k_ ≠ (.slice Ao67 x15_4.length co67 : Value).ownBlock ∧ k_ ≠ gb211) (Kd.S_N (Kd.S_bound ho0)) (fun k_ hk_ => ⟨(Nat.le_trans (below_size hbs_) hk_.2.1), (Kd.fresh' (Kd.N_lt (Kd.N_below HO_7.out bgo_)) k_ hk_.2.1), (Kd.fresh' (Kd.N_lt (Kd.N_below HO_9.out bgo_)) k_ hk_.2.1), (Kd.fresh' (Kd.N_lt (Kd.N_below HO_15.out bgo_)) k_ hk_.2.1), (Kd.freshB (g := gb211) (o := .cells #[.int .i64 a0_0, .slice A0_1 l0_1.length c0_1] 29 (0, 0)) (blk_below BK211.out bgo_) k_ hk_.2.1)⟩)) (below_size hbs_)); replace HO_7 := Aside0.mk (Kd.N_elder' (Kd.N_below HO_7.out bgo_) (by first | exact Kd.N_base ho0 | exact Kd.S_base ho0) hb); replace HO_9 := Aside0.mk (Kd.N_elder' (Kd.N_below HO_9.out bgo_) (by first | exact Kd.N_base ho0 | exact Kd.S_base ho0) hb); replace HO_15 := Aside0.mk (Kd.N_elder' (Kd.N_below HO_15.out bgo_) (by first | exact Kd.N_base ho0 | exact Kd.S_base ho0) hb); replace BK211 := Aside0.mk (blk_below (g := gb211) (o := .cells #[.int .i64 a0_0, .slice A0_1 l0_1.length c0_1] 29 (0, 0)) (blk_below BK211.out bgo_) hb); replace HB := Aside0.mk (below_step hbs_ hb); (try clear hb); (try clear hb2); (try clear hk); (try clear hi); (try clear ho0)) | ((with_reducible refine gate_dst (N := 111) rfl ?_); refine Kd.N_lit (Kd.slice 2 (Kd.int .i64)) _ 26 ?hg (N' := 111) ?hd (xs := ([] : List (List Int))) (inner := []) (ok := (fun k_ => (w.heap.size ≤ k_) ∧ some k_ ≠ (u7 : Value).ownBlock ∧ some k_ ≠ (.slice (some ad238) x9_2.length co56 : Value).ownBlock ∧ some k_ ≠ (.slice Ao67 x15_4.length co67 : Value).ownBlock ∧ some k_ ≠ (v250 : Value).ownBlock ∧ k_ ≠ gb211)) (okp := (fun k_ => (w.heap.size ≤ k_) ∧ some k_ ≠ (u7 : Value).ownBlock ∧ some k_ ≠ (.slice (some ad238) x9_2.length co56 : Value).ownBlock ∧ some k_ ≠ (.slice Ao67 x15_4.length co67 : Value).ownBlock ∧ some k_ ≠ (v250 : Value).ownBlock ∧ k_ ≠ gb211)) ?hr ?hp (fun _ hk => hk) ((show ∀ k_, w68.heap.size ≤ k_ → (fun k_ => (w.heap.size ≤ k_) ∧ some k_ ≠ (u7 : Value).ownBlock ∧ some k_ ≠ (.slice (some ad238) x9_2.length co56 : Value).ownBlock ∧ some k_ ≠ (.slice Ao67 x15_4.length co67 : Value).ownBlock ∧ some k_ ≠ (v250 : Value).ownBlock ∧ k_ ≠ gb211) k_ from fun k_ hk => ⟨(Nat.le_trans (below_size hbs_) hk), Kd.fresh' (Kd.N_lt (Kd.N_below HO_7.out bgo_)) k_ hk, Kd.fresh' (Kd.N_lt (Kd.N_below HO_9.out bgo_)) k_ hk, Kd.fresh' (Kd.N_lt (Kd.N_below HO_15.out bgo_)) k_ hk, Kd.fresh' (Kd.N_lt (Kd.N_below HO251.out bgo_)) k_ hk, Kd.freshB (g := gb211) (o := .cells #[.int .i64 a0_0, .slice A0_1 l0_1.length c0_1] 29 (0, 0)) (blk_below BK211.out bgo_) k_ hk⟩) _ (Nat.le_refl _)) (Below.refl _ _) (Nat.le_refl _) (by simp) ?_; (case hd => rfl); (case hg => rfl); (case hr => first | (go_simp; done) | (go_simp; rfl)); (case hp => exact (Reps.none _ _)); intro v253 w69 ho70 hb hg_ hnew_; clear hg_ hnew_; (first | rw [← Ny252.out] at ho70 | (simp only [Int.reduceToNat] at ho70; rw [← Ny252.out] at ho70)); replace HO_7 := Aside0.mk (Kd.N_elder' (Kd.N_below HO_7.out bgo_) (Kd.N_base ho70) hb); replace HO_9 := Aside0.mk (Kd.N_elder' (Kd.N_below HO_9.out bgo_) (Kd.N_base ho70) hb); replace HO_15 := Aside0.mk (Kd.N_elder' (Kd.N_below HO_15.out bgo_) (Kd.N_base ho70) hb); replace HO251 := Aside0.mk (Kd.N_elder' (Kd.N_below HO251.out bgo_) (Kd.N_base ho70) hb); have HO254 := Aside0.mk (Kd.N_lower ho70 (below_size hbs_)); replace BK211 := Aside0.mk (blk_below (g := gb211) (o := .cells #[.int .i64 a0_0, .slice A0_1 l0_1.length c0_1] 29 (0, 0)) (blk_below BK211.out bgo_) hb); replace HB := Aside0.mk (below_step hbs_ hb); clear hb ho70))
             repeat (go_quiet (first | (go_at_call 103; (with_reducible refine (spec_l03Longer.calls k4 a0_0 _ _ l0_1 _ _ x15_4 t249 _ ?side1 ?side2 ?side3 ?side4 A65.out).mono ?_); (case side1 => exact Kd.C_below (Kd.C_below HR0_1.out HB.out) bgo_); (case side2 => exact HC0_1.out); (case side3 => exact Kd.C_below (Kd.N_reads' HO_15.out).2.2 bgo_); (case side4 => exact (Kd.N_reads' HO_15.out).2.1); rintro e w68 ⟨v250, rfl, ho0, hb⟩; have HO251 := Aside0.mk (Kd.N_lower (Kd.N_mono (ok' := fun k_ => (w.heap.size ≤ k_) ∧ some k_ ≠ (u7 : Value).ownBlock ∧ some k_ ≠ (.slice (some ad238) x9_2.length co56 : Value).ownBlock ∧ some k_ ≠ (.slice Ao67 x15_4.length co67 : Value).ownBlock ∧ k_ ≠ gb211) (Kd.S_N (Kd.S_bound ho0)) (fun k_ hk_ => ⟨(Nat.le_trans (below_size hbs_) hk_.2.1), (Kd.fresh' (Kd.N_lt (Kd.N_below HO_7.out bgo_)) k_ hk_.2.1), (Kd.fresh' (Kd.N_lt (Kd.N_below HO_9.out bgo_)) k_ hk_.2.1), (Kd.fresh' (Kd.N_lt (Kd.N_below HO_15.out bgo_)) k_ hk_.2.1), (Kd.freshB (g := gb211) (o := .cells #[.int .i64 a0_0, .slice A0_1 l0_1.length c0_1] 29 (0, 0)) (blk_below BK211.out bgo_) k_ hk_.2.1)⟩)) (below_size hbs_)); replace HO_7 := Aside0.mk (Kd.N_elder' (Kd.N_below HO_7.out bgo_) (by first | exact Kd.N_base ho0 | exact Kd.S_base ho0) hb); replace HO_9 := Aside0.mk (Kd.N_elder' (Kd.N_below HO_9.out bgo_) (by first | exact Kd.N_base ho0 | exact Kd.S_base ho0) hb); replace HO_15 := Aside0.mk (Kd.N_elder' (Kd.N_below HO_15.out bgo_) (by first | exact Kd.N_base ho0 | exact Kd.S_base ho0) hb); replace BK211 := Aside0.mk (blk_below (g := gb211) (o := .cells #[.int .i64 a0_0, .slice A0_1 l0_1.length c0_1] 29 (0, 0)) (blk_below BK211.out bgo_) hb); replace HB := Aside0.mk (below_step hbs_ hb); (try clear hb); (try clear hb2); (try clear hk); (try clear hi); (try clear ho0)) | ((with_reducible refine gate_dst (N := 111) rfl ?_); refine Kd.N_lit (Kd.slice 2 (Kd.int .i64)) _ 26 ?hg (N' := 111) ?hd (xs := ([] : List (List Int))) (inner := []) (ok := (fun k_ => (w.heap.size ≤ k_) ∧ some k_ ≠ (u7 : Value).ownBlock ∧ some k_ ≠ (.slice (some ad238) x9_2.length co56 : Value).ownBlock ∧ some k_ ≠ (.slice Ao67 x15_4.length co67 : Value).ownBlock ∧ some k_ ≠ (v250 : Value).ownBlock ∧ k_ ≠ gb211)) (okp := (fun k_ => (w.heap.size ≤ k_) ∧ some k_ ≠ (u7 : Value).ownBlock ∧ some k_ ≠ (.slice (some ad238) x9_2.length co56 : Value).ownBlock ∧ some k_ ≠ (.slice Ao67 x15_4.length co67 : Value).ownBlock ∧ some k_ ≠ (v250 : Value).ownBlock ∧ k_ ≠ gb211)) ?hr ?hp (fun _ hk => hk) ((show ∀ k_, w68.heap.size ≤ k_ → (fun k_ => (w.heap.size ≤ k_) ∧ some k_ ≠ (u7 : Value).ownBlock ∧ some k_ ≠ (.slice (some ad238) x9_2.length co56 : Value).ownBlock ∧ some k_ ≠ (.slice Ao67 x15_4.length co67 : Value).ownBlock ∧ some k_ ≠ (v250 : Value).ownBlock ∧ k_ ≠ gb211) k_ from fun k_ hk => ⟨(Nat.le_trans (below_size hbs_) hk), Kd.fresh' (Kd.N_lt (Kd.N_below HO_7.out bgo_)) k_ hk, Kd.fresh' (Kd.N_lt (Kd.N_below HO_9.out bgo_)) k_ hk, Kd.fresh' (Kd.N_lt (Kd.N_below HO_15.out bgo_)) k_ hk, Kd.fresh' (Kd.N_lt (Kd.N_below HO251.out bgo_)) k_ hk, Kd.freshB (g := gb211) (o := .cells #[.int .i64 a0_0, .slice A0_1 l0_1.length c0_1] 29 (0, 0)) (blk_below BK211.out bgo_) k_ hk⟩) _ (Nat.le_refl _)) (Below.refl _ _) (Nat.le_refl _) (by simp) ?_; (case hd => rfl); (case hg => rfl); (case hr => first | (go_simp; done) | (go_simp; rfl)); (case hp => exact (Reps.none _ _)); intro v253 w69 ho70 hb hg_ hnew_; clear hg_ hnew_; (first | rw [← Ny252.out] at ho70 | (simp only [Int.reduceToNat] at ho70; rw [← Ny252.out] at ho70)); replace HO_7 := Aside0.mk (Kd.N_elder' (Kd.N_below HO_7.out bgo_) (Kd.N_base ho70) hb); replace HO_9 := Aside0.mk (Kd.N_elder' (Kd.N_below HO_9.out bgo_) (Kd.N_base ho70) hb); replace HO_15 := Aside0.mk (Kd.N_elder' (Kd.N_below HO_15.out bgo_) (Kd.N_base ho70) hb); replace HO251 := Aside0.mk (Kd.N_elder' (Kd.N_below HO251.out bgo_) (Kd.N_base ho70) hb); have HO254 := Aside0.mk (Kd.N_lower ho70 (below_size hbs_)); replace BK211 := Aside0.mk (blk_below (g := gb211) (o := .cells #[.int .i64 a0_0, .slice A0_1 l0_1.length c0_1] 29 (0, 0)) (blk_below BK211.out bgo_) hb); replace HB := Aside0.mk (below_step hbs_ hb); clear hb ho70)); try go_wp2_with (first | (go_at_call 103; (with_reducible refine (spec_l03Longer.calls k4 a0_0 _ _ l0_1 _ _ x15_4 t249 _ ?side1 ?side2 ?side3 ?side4 A65.out).mono ?_); (case side1 => exact Kd.C_below (Kd.C_below HR0_1.out HB.out) bgo_); (case side2 => exact HC0_1.out); (case side3 => exact Kd.C_below (Kd.N_reads' HO_15.out).2.2 bgo_); (case side4 => exact (Kd.N_reads' HO_15.out).2.1); rintro e w68 ⟨v250, rfl, ho0, hb⟩; have HO251 := Aside0.mk (Kd.N_lower (Kd.N_mono (ok' := fun k_ => (w.heap.size ≤ k_) ∧ some k_ ≠ (u7 : Value).ownBlock ∧ some k_ ≠ (.slice (some ad238) x9_2.length co56 : Value).ownBlock ∧ some k_ ≠ (.slice Ao67 x15_4.length co67 : Value).ownBlock ∧ k_ ≠ gb211) (Kd.S_N (Kd.S_bound ho0)) (fun k_ hk_ => ⟨(Nat.le_trans (below_size hbs_) hk_.2.1), (Kd.fresh' (Kd.N_lt (Kd.N_below HO_7.out bgo_)) k_ hk_.2.1), (Kd.fresh' (Kd.N_lt (Kd.N_below HO_9.out bgo_)) k_ hk_.2.1), (Kd.fresh' (Kd.N_lt (Kd.N_below HO_15.out bgo_)) k_ hk_.2.1), (Kd.freshB (g := gb211) (o := .cells #[.int .i64 a0_0, .slice A0_1 l0_1.length c0_1] 29 (0, 0)) (blk_below BK211.out bgo_) k_ hk_.2.1)⟩)) (below_size hbs_)); replace HO_7 := Aside0.mk (Kd.N_elder' (Kd.N_below HO_7.out bgo_) (by first | exact Kd.N_base ho0 | exact Kd.S_base ho0) hb); replace HO_9 := Aside0.mk (Kd.N_elder' (Kd.N_below HO_9.out bgo_) (by first | exact Kd.N_base ho0 | exact Kd.S_base ho0) hb); replace HO_15 := Aside0.mk (Kd.N_elder' (Kd.N_below HO_15.out bgo_) (by first | exact Kd.N_base ho0 | exact Kd.S_base ho0) hb); replace BK211 := Aside0.mk (blk_below (g := gb211) (o := .cells #[.int .i64 a0_0, .slice A0_1 l0_1.length c0_1] 29 (0, 0)) (blk_below BK211.out bgo_) hb); replace HB := Aside0.mk (below_step hbs_ hb); (try clear hb); (try clear hb2); (try clear hk); (try clear hi); (try clear ho0)) | ((with_reducible refine gate_dst (N := 111) rfl ?_); refine Kd.N_lit (Kd.slice 2 (Kd.int .i64)) _ 26 ?hg (N' := 111) ?hd (xs := ([] : List (List Int))) (inner := []) (ok := (fun k_ => (w.heap.size ≤ k_) ∧ some k_ ≠ (u7 : Value).ownBlock ∧ some k_ ≠ (.slice (some ad238) x9_2.length co56 : Value).ownBlock ∧ some k_ ≠ (.slice Ao67 x15_4.length co67 : Value).ownBlock ∧ some k_ ≠ (v250 : Value).ownBlock ∧ k_ ≠ gb211)) (okp := (fun k_ => (w.heap.size ≤ k_) ∧ some k_ ≠ (u7 : Value).ownBlock ∧ some k_ ≠ (.slice (some ad238) x9_2.length co56 : Value).ownBlock ∧ some k_ ≠ (.slice Ao67 x15_4.length co67 : Value).ownBlock ∧ some k_ ≠ (v250 : Value).ownBlock ∧ k_ ≠ gb211)) ?hr ?hp (fun _ hk => hk) ((show ∀ k_, w68.heap.size ≤ k_ → (fun k_ => (w.heap.size ≤ k_) ∧ some k_ ≠ (u7 : Value).ownBlock ∧ some k_ ≠ (.slice (some ad238) x9_2.length co56 : Value).ownBlock ∧ some k_ ≠ (.slice Ao67 x15_4.length co67 : Value).ownBlock ∧ some k_ ≠ (v250 : Value).ownBlock ∧ k_ ≠ gb211) k_ from fun k_ hk => ⟨(Nat.le_trans (below_size hbs_) hk), Kd.fresh' (Kd.N_lt (Kd.N_below HO_7.out bgo_)) k_ hk, Kd.fresh' (Kd.N_lt (Kd.N_below HO_9.out bgo_)) k_ hk, Kd.fresh' (Kd.N_lt (Kd.N_below HO_15.out bgo_)) k_ hk, Kd.fresh' (Kd.N_lt (Kd.N_below HO251.out bgo_)) k_ hk, Kd.freshB (g := gb211) (o := .cells #[.int .i64 a0_0, .slice A0_1 l0_1.length c0_1] 29 (0, 0)) (blk_below BK211.out bgo_) k_ hk⟩) _ (Nat.le_refl _)) (Below.refl _ _) (Nat.le_refl _) (by simp) ?_; (case hd => rfl); (case hg => rfl); (case hr => first | (go_simp; done) | (go_simp; rfl)); (case hp => exact (Reps.none _ _)); intro v253 w69 ho70 hb hg_ hnew_; clear hg_ hnew_; (first | rw [← Ny252.out] at ho70 | (simp only [Int.reduceToNat] at ho70; rw [← Ny252.out] at ho70)); replace HO_7 := Aside0.mk (Kd.N_elder' (Kd.N_below HO_7.out bgo_) (Kd.N_base ho70) hb); replace HO_9 := Aside0.mk (Kd.N_elder' (Kd.N_below HO_9.out bgo_) (Kd.N_base ho70) hb); replace HO_15 := Aside0.mk (Kd.N_elder' (Kd.N_below HO_15.out bgo_) (Kd.N_base ho70) hb); replace HO251 := Aside0.mk (Kd.N_elder' (Kd.N_below HO251.out bgo_) (Kd.N_base ho70) hb); have HO254 := Aside0.mk (Kd.N_lower ho70 (below_size hbs_)); replace BK211 := Aside0.mk (blk_below (g := gb211) (o := .cells #[.int .i64 a0_0, .slice A0_1 l0_1.length c0_1] 29 (0, 0)) (blk_below BK211.out bgo_) hb); replace HB := Aside0.mk (below_step hbs_ hb); clear hb ho70)))
             go_loopg [18, 19] k4 (fun kq v18 v19 w' => ∃ (x18_5 : List (List Int)) (x19_5 : Int), v19 = .int .i64 x19_5 ∧ Aside0 (spec_l03All.l5 kq a1 (wrap64 (2 * (l0_1.length : Int))) x7_1 x8_1 x9_2 x16_4 t249 x18_5 x19_5 a0_0 l0_1 = some (r1, r2)) ∧ Aside0 (kq ≤ k4) ∧ Aside0 (Kd.N (Kd.slice 2 (Kd.int .i64)) 26 w' w.heap.size (fun k_ => (w.heap.size ≤ k_) ∧ some k_ ≠ ((.slice (some ad238) x9_2.length co56) : Value).ownBlock ∧ some k_ ≠ (v250 : Value).ownBlock ∧ some k_ ≠ (v18 : Value).ownBlock ∧ k_ ≠ gb211) u7 x7_1) ∧ Aside0 (Kd.N (Kd.slice 4 Kd.bool) 86 w' w.heap.size (fun k_ => (w.heap.size ≤ k_) ∧ some k_ ≠ (u7 : Value).ownBlock ∧ some k_ ≠ (v250 : Value).ownBlock ∧ some k_ ≠ (v18 : Value).ownBlock ∧ k_ ≠ gb211) (.slice (some ad238) x9_2.length co56) x9_2) ∧ Aside0 (Kd.N (Kd.slice 2 (Kd.int .i64)) 26 w' w.heap.size (fun k_ => (w.heap.size ≤ k_) ∧ some k_ ≠ (u7 : Value).ownBlock ∧ some k_ ≠ ((.slice (some ad238) x9_2.length co56) : Value).ownBlock ∧ some k_ ≠ (v18 : Value).ownBlock ∧ k_ ≠ gb211) v250 t249) ∧ Aside0 (Kd.N (Kd.slice 2 (Kd.int .i64)) 26 w' w.heap.size (fun k_ => (w.heap.size ≤ k_) ∧ some k_ ≠ (u7 : Value).ownBlock ∧ some k_ ≠ ((.slice (some ad238) x9_2.length co56) : Value).ownBlock ∧ some k_ ≠ (v250 : Value).ownBlock ∧ k_ ≠ gb211) v18 x18_5) ∧ Aside0 (w'.heap[gb211]? = some (.cells #[.int .i64 a0_0, (.slice A0_1 l0_1.length c0_1)] 29 (0, 0))) ∧ Aside0 (Below w.heap.size w w'))
             case atStart => exact ⟨(y252), (0), es_, H', ⟨Nat.le_refl _⟩, ⟨by (with_reducible repeat (first | apply Kd.N_alloc | apply Kd.N_drewN | apply Kd.N_drew)); exact Kd.N_mono HO_7.out (fun _ hk => ⟨hk.1.1.1, ⟨hk.1.1.2.1, ⟨hk.1.2, ⟨hk.2, hk.1.1.2.2.2⟩⟩⟩⟩)⟩, ⟨by (with_reducible repeat (first | apply Kd.N_alloc | apply Kd.N_drewN | apply Kd.N_drew)); exact Kd.N_mono HO_9.out (fun _ hk => ⟨hk.1.1.1, ⟨hk.1.1.2.1, ⟨hk.1.2, ⟨hk.2, hk.1.1.2.2.2⟩⟩⟩⟩)⟩, ⟨by (with_reducible repeat (first | apply Kd.N_alloc | apply Kd.N_drewN | apply Kd.N_drew)); exact Kd.N_mono HO251.out (fun _ hk => ⟨hk.1.1, ⟨hk.1.2.1, ⟨hk.1.2.2.1, ⟨hk.2, hk.1.2.2.2.2⟩⟩⟩⟩)⟩, ⟨by (with_reducible repeat (first | apply Kd.N_alloc | apply Kd.N_drewN | apply Kd.N_drew)); exact Kd.N_mono HO254.out (fun _ hk => ⟨hk.1, ⟨hk.2.1, ⟨hk.2.2.1, ⟨hk.2.2.2.2.1, hk.2.2.2.2.2⟩⟩⟩⟩)⟩, ⟨blk_below BK211.out bgo_⟩, ⟨hbs_⟩⟩
             case round =>
              clear H'
              obtain ⟨x18_5, x19_5, rfl, HA, HK5, HO_7, HO_9, HO_17, HO_18, BK211, HB⟩ := hrel
              cases gk with
              | zero => exact absurd HA.out (by simp [spec_l03All.l5])
              | succ k5 =>
               have H := HA.out
               clear HA
               simp only [spec_l03All.l5] at H
               by_cases c71 : x19_5 < (t249.length : Int)
               ·rw [if_pos c71] at H
                have c71b0 := decide_eq_true c71
                clear c71
                obtain ⟨c72, H⟩ := itn_ H
                have c72b0 := decide_eq_true c72
                clear c72
                obtain ⟨c73, H⟩ := itn_ H
                have c73b0 := decide_eq_true c73
                clear c73
                obtain ⟨c74, H⟩ := itn_ H
                have c74b0 := decide_eq_true c74
                clear c74
                obtain ⟨ji75, hji75⟩ : ∃ j_ : Int, (wrap64 (((rd_L1 t249 x19_5).length : Int) - 1)) = j_ := ⟨_, rfl⟩
                (try rw [hji75])
                replace H : (if 0 ≤ (ji75) then (if (ji75) < ((rd_L1 t249 x19_5).length : Int) then (if 0 ≤ (rd (rd_L1 t249 x19_5) (ji75)) then (if (rd (rd_L1 t249 x19_5) (ji75)) < ((rd_L5 x9_2 x16_4).length : Int) then (if rdOf false (rd_L5 x9_2 x16_4) (rd (rd_L1 t249 x19_5) (ji75)) = true then (if x18_5.length < 5864062014805 then (spec_l03All.l5 k5 a1 (wrap64 (2 * (l0_1.length : Int))) x7_1 x8_1 x9_2 x16_4 t249 (x18_5 ++ [rd_L1 t249 x19_5]) (wrap64 (x19_5 + 1)) a0_0 l0_1) else (none)) else (spec_l03All.l5 k5 a1 (wrap64 (2 * (l0_1.length : Int))) x7_1 x8_1 x9_2 x16_4 t249 x18_5 (wrap64 (x19_5 + 1)) a0_0 l0_1)) else (none)) else (none)) else (none)) else (none)) = some (r1, r2) := by first | (rw [hji75] at H; exact H) | (simp only [hji75] at H ⊢; exact H)
                have hji75w : (IntKind.i64.wrap (((rd_L1 t249 x19_5).length : Int) - 1)) = ji75 := (i64_w _).trans hji75
                obtain ⟨c76, H⟩ := itn_ H
                have c76b0 := decide_eq_true c76
                clear c76
                obtain ⟨c77, H⟩ := itn_ H
                have c77b0 := decide_eq_true c77
                clear c77
                obtain ⟨c78, H⟩ := itn_ H
                have c78b0 := decide_eq_true c78
                clear c78
                obtain ⟨c79, H⟩ := itn_ H
                have c79b0 := decide_eq_true c79
                clear c79
                obtain ⟨bq80, hbq80⟩ : ∃ b_ : Bool, b_ = (rdOf false (rd_L5 x9_2 x16_4) (rd (rd_L1 t249 x19_5) (ji75))) := ⟨_, rfl⟩
                replace H : (if bq80 = true then (if x18_5.length < 5864062014805 then (spec_l03All.l5 k5 a1 (wrap64 (2 * (l0_1.length : Int))) x7_1 x8_1 x9_2 x16_4 t249 (x18_5 ++ [rd_L1 t249 x19_5]) (wrap64 (x19_5 + 1)) a0_0 l0_1) else (none)) else (spec_l03All.l5 k5 a1 (wrap64 (2 * (l0_1.length : Int))) x7_1 x8_1 x9_2 x16_4 t249 x18_5 (wrap64 (x19_5 + 1)) a0_0 l0_1)) = some (r1, r2) := by rw [← hbq80] at H; exact H
                have Nbq80 := Aside0.mk hbq80
                clear hbq80
                by_cases c81 : bq80 = true
                ·subst c81
                 have H1 : (if x18_5.length < 5864062014805 then (spec_l03All.l5 k5 a1 (wrap64 (2 * (l0_1.length : Int))) x7_1 x8_1 x9_2 x16_4 t249 (x18_5 ++ [rd_L1 t249 x19_5]) (wrap64 (x19_5 + 1)) a0_0 l0_1) else (none)) = some (r1, r2) := by rw [if_pos rfl] at H; exact H
                 clear H
                 have H := H1
                 clear H1
                 obtain ⟨c82, H⟩ := itn_ H
                 have LMc82 := Aside0.mk c82
                 clear c82
                 obtain ⟨y261, Ny261, H⟩ : ∃ y261 : List (List Int), Aside0 (y261 = (x18_5 ++ [rd_L1 t249 x19_5])) ∧ (spec_l03All.l5 k5 a1 (wrap64 (2 * (l0_1.length : Int))) x7_1 x8_1 x9_2 x16_4 t249 y261 (wrap64 (x19_5 + 1)) a0_0 l0_1) = some (r1, r2) := ⟨_, ⟨rfl⟩, H⟩
                 have H' := Aside0.mk H
                 clear H
                 obtain ⟨Ao83, co83, eo83⟩ := Kd.N_slice HO_17.out
                 subst eo83
                 have p255 : 0 ≤ (x16_4 : Int) := od_
                 have q255 : x16_4 < (x9_2.length : Int) := od_
                 obtain ⟨ad255, A255_0, c255_0, e255, hx255_0, hl255_0, hi255_0⟩ := at_L5 (Kd.N_reads' HO_9.out).2.2 x16_4 p255 q255
                 obtain rfl : ad238 = ad255 := (by injection e255)
                 obtain ⟨ce255, hce255, hMe255, hcc255⟩ := Kd.N_get HO_9.out [] x16_4 p255 (by first | exact q255 | exact od_ | (have e_ := (Kd.N_reads' HO_9.out).1; omega))
                 obtain ⟨ua255_0, uc255_0, rfl, ul255_0, ge255_0⟩ := Kd.FK_slice_open hMe255
                 have hv255_0 := hcc255 0 _ rfl
                 rw [Nat.add_zero, show ((Kd.slice 4 Kd.bool)).sz = 1 from rfl, Nat.mul_one] at hv255_0
                 replace hv255_0 := Option.some.inj (hv255_0.symm.trans hx255_0)
                 injection hv255_0 with hva_ hvn_ hvc_
                 rw [hva_] at ge255_0
                 rw [hvc_] at ul255_0
                 have HL255_0 := Aside0.mk (show Kd.V Kd.bool 4 _ w.heap.size _ _ (rd_L5 x9_2 x16_4) from Kd.V_mk ul255_0 ge255_0)
                 clear hva_ hvn_ hvc_ ge255_0 ul255_0
                 clear hcc255 hce255
                 have HR255_0 := Aside0.mk hi255_0
                 have HC255_0 := Aside0.mk hl255_0
                 clear hi255_0 hl255_0
                 replace p255 := eq_true p255
                 replace q255 := eq_true q255
                 have p256 : 0 ≤ (x19_5 : Int) := od_
                 have q256 : x19_5 < (t249.length : Int) := od_
                 obtain ⟨ad256, A256_0, c256_0, e256, hx256_0, hl256_0, hi256_0⟩ := at_L1 (Kd.N_reads' HO_17.out).2.2 x19_5 p256 q256
                 cases e256
                 obtain ⟨ce256, hce256, hMe256, hcc256⟩ := Kd.N_get HO_17.out [] x19_5 p256 (by first | exact q256 | exact od_ | (have e_ := (Kd.N_reads' HO_17.out).1; omega))
                 obtain ⟨ua256_0, uc256_0, rfl, ul256_0, ge256_0⟩ := Kd.FK_slice_open hMe256
                 have hv256_0 := hcc256 0 _ rfl
                 rw [Nat.add_zero, show ((Kd.slice 2 (Kd.int .i64))).sz = 1 from rfl, Nat.mul_one] at hv256_0
                 replace hv256_0 := Option.some.inj (hv256_0.symm.trans hx256_0)
                 injection hv256_0 with hva_ hvn_ hvc_
                 rw [hva_] at ge256_0
                 rw [hvc_] at ul256_0
                 have HL256_0 := Aside0.mk (show Kd.V (Kd.int .i64) 2 _ w.heap.size _ _ (rd_L1 t249 x19_5) from Kd.V_mk ul256_0 ge256_0)
                 clear hva_ hvn_ hvc_ ge256_0 ul256_0
                 clear hcc256 hce256
                 have HR256_0 := Aside0.mk hi256_0
                 have HC256_0 := Aside0.mk hl256_0
                 clear hi256_0 hl256_0
                 replace p256 := eq_true p256
                 replace q256 := eq_true q256
                 have p257 : 0 ≤ (x19_5 : Int) := od_
                 have q257 : x19_5 < (t249.length : Int) := od_
                 obtain ⟨ad257, A257_0, c257_0, e257, hx257_0, hl257_0, hi257_0⟩ := at_L1 (Kd.N_reads' HO_17.out).2.2 x19_5 p257 q257
                 obtain rfl : ad256 = ad257 := (by injection e257)
                 obtain ⟨ce257, hce257, hMe257, hcc257⟩ := Kd.N_get HO_17.out [] x19_5 p257 (by first | exact q257 | exact od_ | (have e_ := (Kd.N_reads' HO_17.out).1; omega))
                 obtain ⟨ua257_0, uc257_0, rfl, ul257_0, ge257_0⟩ := Kd.FK_slice_open hMe257
                 have hv257_0 := hcc257 0 _ rfl
                 rw [Nat.add_zero, show ((Kd.slice 2 (Kd.int .i64))).sz = 1 from rfl, Nat.mul_one] at hv257_0
                 replace hv257_0 := Option.some.inj (hv257_0.symm.trans hx257_0)
                 injection hv257_0 with hva_ hvn_ hvc_
                 rw [hva_] at ge257_0
                 rw [hvc_] at ul257_0
                 have HL257_0 := Aside0.mk (show Kd.V (Kd.int .i64) 2 _ w.heap.size _ _ (rd_L1 t249 x19_5) from Kd.V_mk ul257_0 ge257_0)
                 clear hva_ hvn_ hvc_ ge257_0 ul257_0
                 clear hcc257 hce257
                 have HR257_0 := Aside0.mk hi257_0
                 have HC257_0 := Aside0.mk hl257_0
                 clear hi257_0 hl257_0
                 replace p257 := eq_true p257
                 replace q257 := eq_true q257
                 have ea_ := Option.some.inj (hx256_0.symm.trans hx257_0)
                 injection ea_ with ea_ en_ ec_
                 subst ea_
                 subst ec_
                 clear en_
                 have p258 : 0 ≤ ((ji75) : Int) := od_
                 have q258 : (ji75) < ((rd_L1 t249 x19_5).length : Int) := od_
                 obtain ⟨ad258, e258, hx258_0⟩ := Kd.at_int (by repeat (first | (with_reducible exact HR256_0.out) | (with_reducible refine Kd.C_alloc ?_ _) | (with_reducible refine Kd.C_drewN ?_ _) | (with_reducible refine Kd.C_drew ?_) | exact HR256_0.out)) (ji75) p258 q258
                 cases e258
                 replace p258 := eq_true p258
                 replace q258 := eq_true q258
                 have p259 : 0 ≤ ((rd (rd_L1 t249 x19_5) (ji75)) : Int) := od_
                 have q259 : (rd (rd_L1 t249 x19_5) (ji75)) < ((rd_L5 x9_2 x16_4).length : Int) := od_
                 obtain ⟨ad259, e259, hx259_0⟩ := Kd.at_bool (by repeat (first | (with_reducible exact HR255_0.out) | (with_reducible refine Kd.C_alloc ?_ _) | (with_reducible refine Kd.C_drewN ?_ _) | (with_reducible refine Kd.C_drew ?_) | exact HR255_0.out)) (rd (rd_L1 t249 x19_5) (ji75)) p259 q259
                 (try rw [← Nbq80.out] at hx259_0)
                 cases e259
                 replace p259 := eq_true p259
                 replace q259 := eq_true q259
                 have p260 : 0 ≤ (x19_5 : Int) := od_
                 have q260 : x19_5 < (t249.length : Int) := od_
                 obtain ⟨ad260, A260_0, c260_0, e260, hx260_0, hl260_0, hi260_0⟩ := at_L1 (Kd.N_reads' HO_17.out).2.2 x19_5 p260 q260
                 obtain rfl : ad256 = ad260 := (by injection e260)
                 obtain ⟨ce260, hce260, hMe260, hcc260⟩ := Kd.N_get HO_17.out [] x19_5 p260 (by first | exact q260 | exact od_ | (have e_ := (Kd.N_reads' HO_17.out).1; omega))
                 obtain ⟨ua260_0, uc260_0, rfl, ul260_0, ge260_0⟩ := Kd.FK_slice_open hMe260
                 have hv260_0 := hcc260 0 _ rfl
                 rw [Nat.add_zero, show ((Kd.slice 2 (Kd.int .i64))).sz = 1 from rfl, Nat.mul_one] at hv260_0
                 replace hv260_0 := Option.some.inj (hv260_0.symm.trans hx260_0)
                 injection hv260_0 with hva_ hvn_ hvc_
                 rw [hva_] at ge260_0
                 rw [hvc_] at ul260_0
                 have HL260_0 := Aside0.mk (show Kd.V (Kd.int .i64) 2 _ w.heap.size _ _ (rd_L1 t249 x19_5) from Kd.V_mk ul260_0 ge260_0)
                 clear hva_ hvn_ hvc_ ge260_0 ul260_0
                 clear hcc260 hce260
                 have HR260_0 := Aside0.mk hi260_0
                 have HC260_0 := Aside0.mk hl260_0
                 clear hi260_0 hl260_0
                 replace p260 := eq_true p260
                 replace q260 := eq_true q260
                 have ea_ := Option.some.inj (hx256_0.symm.trans hx260_0)
                 injection ea_ with ea_ en_ ec_
                 subst ea_
                 subst ec_
                 clear en_
                 go_wp2_with (first | ((with_reducible refine gate_builtin (b := .append) (xs := #[.tmp 136, .tmp 141]) rfl ?_); at_builtin; refine Kd.N_append (Kd.slice 2 (Kd.int .i64)) (w0 := w) w.heap.size rfl (.tmp 136) (.tmp 141) 22 26 (.slice none 0 0) 24 rfl Try.underlying22 info26 rfl (by decide) (by omega) u18 x18_5 (rd_L1 t249 x19_5) [.slice (some ad258) (rd_L1 t249 x19_5).length c256_0] (fun k_ => (w.heap.size ≤ k_) ∧ some k_ ≠ (u7 : Value).ownBlock ∧ some k_ ≠ (.slice (some ad238) x9_2.length co56 : Value).ownBlock ∧ some k_ ≠ (.slice (some ad256) t249.length co83 : Value).ownBlock ∧ k_ ≠ gb211) (fun k_ => ((fun k_ => (w.heap.size ≤ k_) ∧ some k_ ≠ (u7 : Value).ownBlock ∧ some k_ ≠ (.slice (some ad238) x9_2.length co56 : Value).ownBlock ∧ some k_ ≠ (.slice (some ad256) t249.length co83 : Value).ownBlock ∧ k_ ≠ gb211)) k_ ∧ some k_ ≠ (u18 : Value).ownBlock) rfl rfl ?aP (fun _ hk => hk) ?aF ?aO ?aB ?aS ?aL ?_; (case aP => exact (Kd.FK_slice_mk (Kd.V_reads' (Kd.V_mono (ok' := (fun k_ => ((fun k_ => (w.heap.size ≤ k_) ∧ some k_ ≠ (u7 : Value).ownBlock ∧ some k_ ≠ (.slice (some ad238) x9_2.length co56 : Value).ownBlock ∧ some k_ ≠ (.slice (some ad256) t249.length co83 : Value).ownBlock ∧ k_ ≠ gb211)) k_ ∧ some k_ ≠ (u18 : Value).ownBlock)) (HL260_0.out) (fun k_ hk => ⟨⟨hk.1.1, ⟨hk.1.2.1, ⟨hk.1.2.2.1, ⟨hk.2, hk.1.2.2.2.2⟩⟩⟩⟩, hk.1.2.2.2.1⟩))).2.1 (Kd.V_F (Kd.V_mono (ok' := (fun k_ => ((fun k_ => (w.heap.size ≤ k_) ∧ some k_ ≠ (u7 : Value).ownBlock ∧ some k_ ≠ (.slice (some ad238) x9_2.length co56 : Value).ownBlock ∧ some k_ ≠ (.slice (some ad256) t249.length co83 : Value).ownBlock ∧ k_ ≠ gb211)) k_ ∧ some k_ ≠ (u18 : Value).ownBlock)) (Kd.V_below HL260_0.out bgo_) (fun k_ hk => ⟨⟨hk.1.1, ⟨hk.1.2.1, ⟨hk.1.2.2.1, ⟨hk.2, hk.1.2.2.2.2⟩⟩⟩⟩, hk.1.2.2.2.1⟩))))); (case aB => exact hbs_); (case aF => exact (fun k_ hk => ⟨(Nat.le_trans (below_size hbs_) hk), Kd.fresh' (Kd.N_lt (Kd.N_below HO_7.out bgo_)) k_ hk, Kd.fresh' (Kd.N_lt (Kd.N_below HO_9.out bgo_)) k_ hk, Kd.fresh' (Kd.N_lt (Kd.N_below HO_17.out bgo_)) k_ hk, Kd.freshB (g := gb211) (o := .cells #[.int .i64 a0_0, .slice A0_1 l0_1.length c0_1] 29 (0, 0)) (blk_below BK211.out bgo_) k_ hk⟩)); (case aO => exact (Kd.N_below HO_18.out bgo_)); (case aS => exact (below_size hbs_)); (case aL => have := LMc82.out; omega); intro v262 w84 ho hb hg hat; rw [← Ny261.out] at ho; replace HO_7 := Aside0.mk (Kd.N_afterv (ok := (fun k_ => (w.heap.size ≤ k_) ∧ some k_ ≠ (.slice (some ad238) x9_2.length co56 : Value).ownBlock ∧ some k_ ≠ (.slice (some ad256) t249.length co83 : Value).ownBlock ∧ k_ ≠ gb211)) (by (with_reducible repeat (first | apply Kd.N_alloc | apply Kd.N_drewN | apply Kd.N_drew)); exact Kd.N_mono HO_7.out (fun _ hk => ⟨⟨hk.1, ⟨hk.2.1, ⟨hk.2.2.1, hk.2.2.2.2⟩⟩⟩, hk.2.2.2.1⟩)) hg hat); replace HO_9 := Aside0.mk (Kd.N_afterv (ok := (fun k_ => (w.heap.size ≤ k_) ∧ some k_ ≠ (u7 : Value).ownBlock ∧ some k_ ≠ (.slice (some ad256) t249.length co83 : Value).ownBlock ∧ k_ ≠ gb211)) (by (with_reducible repeat (first | apply Kd.N_alloc | apply Kd.N_drewN | apply Kd.N_drew)); exact Kd.N_mono HO_9.out (fun _ hk => ⟨⟨hk.1, ⟨hk.2.1, ⟨hk.2.2.1, hk.2.2.2.2⟩⟩⟩, hk.2.2.2.1⟩)) hg hat); replace HO_17 := Aside0.mk (Kd.N_afterv (ok := (fun k_ => (w.heap.size ≤ k_) ∧ some k_ ≠ (u7 : Value).ownBlock ∧ some k_ ≠ (.slice (some ad238) x9_2.length co56 : Value).ownBlock ∧ k_ ≠ gb211)) (by (with_reducible repeat (first | apply Kd.N_alloc | apply Kd.N_drewN | apply Kd.N_drew)); exact Kd.N_mono HO_17.out (fun _ hk => ⟨⟨hk.1, ⟨hk.2.1, ⟨hk.2.2.1, hk.2.2.2.2⟩⟩⟩, hk.2.2.2.1⟩)) hg hat); replace BK211 := Aside0.mk (blk_grown (g := gb211) (o := .cells #[.int .i64 a0_0, .slice A0_1 l0_1.length c0_1] 29 (0, 0)) (blk_below BK211.out bgo_) hg (Kd.N_ne HO_18.out BK211.out (by decide))); replace HL255_0 := Aside0.mk (Kd.V_afterv (ok := (fun k_ => (w.heap.size ≤ k_) ∧ some k_ ≠ (u7 : Value).ownBlock ∧ some k_ ≠ (.slice (some ad238) x9_2.length co56 : Value).ownBlock ∧ some k_ ≠ (.slice (some ad256) t249.length co83 : Value).ownBlock ∧ k_ ≠ gb211)) (by (with_reducible repeat (first | apply Kd.V_alloc | apply Kd.V_drewN | apply Kd.V_drew)); exact Kd.V_mono HL255_0.out (fun _ hk => ⟨⟨hk.1.1, ⟨hk.1.2.1, ⟨hk.2, ⟨hk.1.2.2.1, hk.1.2.2.2.2⟩⟩⟩⟩, hk.1.2.2.2.1⟩)) hg hat); replace HL256_0 := Aside0.mk (Kd.V_afterv (ok := (fun k_ => (w.heap.size ≤ k_) ∧ some k_ ≠ (u7 : Value).ownBlock ∧ some k_ ≠ (.slice (some ad238) x9_2.length co56 : Value).ownBlock ∧ some k_ ≠ (.slice (some ad256) t249.length co83 : Value).ownBlock ∧ k_ ≠ gb211)) (by (with_reducible repeat (first | apply Kd.V_alloc | apply Kd.V_drewN | apply Kd.V_drew)); exact Kd.V_mono HL256_0.out (fun _ hk => ⟨⟨hk.1.1, ⟨hk.1.2.1, ⟨hk.1.2.2.1, ⟨hk.2, hk.1.2.2.2.2⟩⟩⟩⟩, hk.1.2.2.2.1⟩)) hg hat); replace HL257_0 := Aside0.mk (Kd.V_afterv (ok := (fun k_ => (w.heap.size ≤ k_) ∧ some k_ ≠ (u7 : Value).ownBlock ∧ some k_ ≠ (.slice (some ad238) x9_2.length co56 : Value).ownBlock ∧ some k_ ≠ (.slice (some ad256) t249.length co83 : Value).ownBlock ∧ k_ ≠ gb211)) (by (with_reducible repeat (first | apply Kd.V_alloc | apply Kd.V_drewN | apply Kd.V_drew)); exact Kd.V_mono HL257_0.out (fun _ hk => ⟨⟨hk.1.1, ⟨hk.1.2.1, ⟨hk.1.2.2.1, ⟨hk.2, hk.1.2.2.2.2⟩⟩⟩⟩, hk.1.2.2.2.1⟩)) hg hat); replace HL260_0 := Aside0.mk (Kd.V_afterv (ok := (fun k_ => (w.heap.size ≤ k_) ∧ some k_ ≠ (u7 : Value).ownBlock ∧ some k_ ≠ (.slice (some ad238) x9_2.length co56 : Value).ownBlock ∧ some k_ ≠ (.slice (some ad256) t249.length co83 : Value).ownBlock ∧ k_ ≠ gb211)) (by (with_reducible repeat (first | apply Kd.V_alloc | apply Kd.V_drewN | apply Kd.V_drew)); exact Kd.V_mono HL260_0.out (fun _ hk => ⟨⟨hk.1.1, ⟨hk.1.2.1, ⟨hk.1.2.2.1, ⟨hk.2, hk.1.2.2.2.2⟩⟩⟩⟩, hk.1.2.2.2.1⟩)) hg hat); replace HB := Aside0.mk (hb); have HO263 := Aside0.mk (ho); clear HO_18; clear ho hb hg hat))
                 repeat (go_quiet (first | ((with_reducible refine gate_builtin (b := .append) (xs := #[.tmp 136, .tmp 141]) rfl ?_); at_builtin; refine Kd.N_append (Kd.slice 2 (Kd.int .i64)) (w0 := w) w.heap.size rfl (.tmp 136) (.tmp 141) 22 26 (.slice none 0 0) 24 rfl Try.underlying22 info26 rfl (by decide) (by omega) u18 x18_5 (rd_L1 t249 x19_5) [.slice (some ad258) (rd_L1 t249 x19_5).length c256_0] (fun k_ => (w.heap.size ≤ k_) ∧ some k_ ≠ (u7 : Value).ownBlock ∧ some k_ ≠ (.slice (some ad238) x9_2.length co56 : Value).ownBlock ∧ some k_ ≠ (.slice (some ad256) t249.length co83 : Value).ownBlock ∧ k_ ≠ gb211) (fun k_ => ((fun k_ => (w.heap.size ≤ k_) ∧ some k_ ≠ (u7 : Value).ownBlock ∧ some k_ ≠ (.slice (some ad238) x9_2.length co56 : Value).ownBlock ∧ some k_ ≠ (.slice (some ad256) t249.length co83 : Value).ownBlock ∧ k_ ≠ gb211)) k_ ∧ some k_ ≠ (u18 : Value).ownBlock) rfl rfl ?aP (fun _ hk => hk) ?aF ?aO ?aB ?aS ?aL ?_; (case aP => exact (Kd.FK_slice_mk (Kd.V_reads' (Kd.V_mono (ok' := (fun k_ => ((fun k_ => (w.heap.size ≤ k_) ∧ some k_ ≠ (u7 : Value).ownBlock ∧ some k_ ≠ (.slice (some ad238) x9_2.length co56 : Value).ownBlock ∧ some k_ ≠ (.slice (some ad256) t249.length co83 : Value).ownBlock ∧ k_ ≠ gb211)) k_ ∧ some k_ ≠ (u18 : Value).ownBlock)) (HL260_0.out) (fun k_ hk => ⟨⟨hk.1.1, ⟨hk.1.2.1, ⟨hk.1.2.2.1, ⟨hk.2, hk.1.2.2.2.2⟩⟩⟩⟩, hk.1.2.2.2.1⟩))).2.1 (Kd.V_F (Kd.V_mono (ok' := (fun k_ => ((fun k_ => (w.heap.size ≤ k_) ∧ some k_ ≠ (u7 : Value).ownBlock ∧ some k_ ≠ (.slice (some ad238) x9_2.length co56 : Value).ownBlock ∧ some k_ ≠ (.slice (some ad256) t249.length co83 : Value).ownBlock ∧ k_ ≠ gb211)) k_ ∧ some k_ ≠ (u18 : Value).ownBlock)) (Kd.V_below HL260_0.out bgo_) (fun k_ hk => ⟨⟨hk.1.1, ⟨hk.1.2.1, ⟨hk.1.2.2.1, ⟨hk.2, hk.1.2.2.2.2⟩⟩⟩⟩, hk.1.2.2.2.1⟩))))); (case aB => exact hbs_); (case aF => exact (fun k_ hk => ⟨(Nat.le_trans (below_size hbs_) hk), Kd.fresh' (Kd.N_lt (Kd.N_below HO_7.out bgo_)) k_ hk, Kd.fresh' (Kd.N_lt (Kd.N_below HO_9.out bgo_)) k_ hk, Kd.fresh' (Kd.N_lt (Kd.N_below HO_17.out bgo_)) k_ hk, Kd.freshB (g := gb211) (o := .cells #[.int .i64 a0_0, .slice A0_1 l0_1.length c0_1] 29 (0, 0)) (blk_below BK211.out bgo_) k_ hk⟩)); (case aO => exact (Kd.N_below HO_18.out bgo_)); (case aS => exact (below_size hbs_)); (case aL => have := LMc82.out; omega); intro v262 w84 ho hb hg hat; rw [← Ny261.out] at ho; replace HO_7 := Aside0.mk (Kd.N_afterv (ok := (fun k_ => (w.heap.size ≤ k_) ∧ some k_ ≠ (.slice (some ad238) x9_2.length co56 : Value).ownBlock ∧ some k_ ≠ (.slice (some ad256) t249.length co83 : Value).ownBlock ∧ k_ ≠ gb211)) (by (with_reducible repeat (first | apply Kd.N_alloc | apply Kd.N_drewN | apply Kd.N_drew)); exact Kd.N_mono HO_7.out (fun _ hk => ⟨⟨hk.1, ⟨hk.2.1, ⟨hk.2.2.1, hk.2.2.2.2⟩⟩⟩, hk.2.2.2.1⟩)) hg hat); replace HO_9 := Aside0.mk (Kd.N_afterv (ok := (fun k_ => (w.heap.size ≤ k_) ∧ some k_ ≠ (u7 : Value).ownBlock ∧ some k_ ≠ (.slice (some ad256) t249.length co83 : Value).ownBlock ∧ k_ ≠ gb211)) (by (with_reducible repeat (first | apply Kd.N_alloc | apply Kd.N_drewN | apply Kd.N_drew)); exact Kd.N_mono HO_9.out (fun _ hk => ⟨⟨hk.1, ⟨hk.2.1, ⟨hk.2.2.1, hk.2.2.2.2⟩⟩⟩, hk.2.2.2.1⟩)) hg hat); replace HO_17 := Aside0.mk (Kd.N_afterv (ok := (fun k_ => (w.heap.size ≤ k_) ∧ some k_ ≠ (u7 : Value).ownBlock ∧ some k_ ≠ (.slice (some ad238) x9_2.length co56 : Value).ownBlock ∧ k_ ≠ gb211)) (by (with_reducible repeat (first | apply Kd.N_alloc | apply Kd.N_drewN | apply Kd.N_drew)); exact Kd.N_mono HO_17.out (fun _ hk => ⟨⟨hk.1, ⟨hk.2.1, ⟨hk.2.2.1, hk.2.2.2.2⟩⟩⟩, hk.2.2.2.1⟩)) hg hat); replace BK211 := Aside0.mk (blk_grown (g := gb211) (o := .cells #[.int .i64 a0_0, .slice A0_1 l0_1.length c0_1] 29 (0, 0)) (blk_below BK211.out bgo_) hg (Kd.N_ne HO_18.out BK211.out (by decide))); replace HL255_0 := Aside0.mk (Kd.V_afterv (ok := (fun k_ => (w.heap.size ≤ k_) ∧ some k_ ≠ (u7 : Value).ownBlock ∧ some k_ ≠ (.slice (some ad238) x9_2.length co56 : Value).ownBlock ∧ some k_ ≠ (.slice (some ad256) t249.length co83 : Value).ownBlock ∧ k_ ≠ gb211)) (by (with_reducible repeat (first | apply Kd.V_alloc | apply Kd.V_drewN | apply Kd.V_drew)); exact Kd.V_mono HL255_0.out (fun _ hk => ⟨⟨hk.1.1, ⟨hk.1.2.1, ⟨hk.2, ⟨hk.1.2.2.1, hk.1.2.2.2.2⟩⟩⟩⟩, hk.1.2.2.2.1⟩)) hg hat); replace HL256_0 := Aside0.mk (Kd.V_afterv (ok := (fun k_ => (w.heap.size ≤ k_) ∧ some k_ ≠ (u7 : Value).ownBlock ∧ some k_ ≠ (.slice (some ad238) x9_2.length co56 : Value).ownBlock ∧ some k_ ≠ (.slice (some ad256) t249.length co83 : Value).ownBlock ∧ k_ ≠ gb211)) (by (with_reducible repeat (first | apply Kd.V_alloc | apply Kd.V_drewN | apply Kd.V_drew)); exact Kd.V_mono HL256_0.out (fun _ hk => ⟨⟨hk.1.1, ⟨hk.1.2.1, ⟨hk.1.2.2.1, ⟨hk.2, hk.1.2.2.2.2⟩⟩⟩⟩, hk.1.2.2.2.1⟩)) hg hat); replace HL257_0 := Aside0.mk (Kd.V_afterv (ok := (fun k_ => (w.heap.size ≤ k_) ∧ some k_ ≠ (u7 : Value).ownBlock ∧ some k_ ≠ (.slice (some ad238) x9_2.length co56 : Value).ownBlock ∧ some k_ ≠ (.slice (some ad256) t249.length co83 : Value).ownBlock ∧ k_ ≠ gb211)) (by (with_reducible repeat (first | apply Kd.V_alloc | apply Kd.V_drewN | apply Kd.V_drew)); exact Kd.V_mono HL257_0.out (fun _ hk => ⟨⟨hk.1.1, ⟨hk.1.2.1, ⟨hk.1.2.2.1, ⟨hk.2, hk.1.2.2.2.2⟩⟩⟩⟩, hk.1.2.2.2.1⟩)) hg hat); replace HL260_0 := Aside0.mk (Kd.V_afterv (ok := (fun k_ => (w.heap.size ≤ k_) ∧ some k_ ≠ (u7 : Value).ownBlock ∧ some k_ ≠ (.slice (some ad238) x9_2.length co56 : Value).ownBlock ∧ some k_ ≠ (.slice (some ad256) t249.length co83 : Value).ownBlock ∧ k_ ≠ gb211)) (by (with_reducible repeat (first | apply Kd.V_alloc | apply Kd.V_drewN | apply Kd.V_drew)); exact Kd.V_mono HL260_0.out (fun _ hk => ⟨⟨hk.1.1, ⟨hk.1.2.1, ⟨hk.1.2.2.1, ⟨hk.2, hk.1.2.2.2.2⟩⟩⟩⟩, hk.1.2.2.2.1⟩)) hg hat); replace HB := Aside0.mk (hb); have HO263 := Aside0.mk (ho); clear HO_18; clear ho hb hg hat)); try go_wp2_with (first | ((with_reducible refine gate_builtin (b := .append) (xs := #[.tmp 136, .tmp 141]) rfl ?_); at_builtin; refine Kd.N_append (Kd.slice 2 (Kd.int .i64)) (w0 := w) w.heap.size rfl (.tmp 136) (.tmp 141) 22 26 (.slice none 0 0) 24 rfl Try.underlying22 info26 rfl (by decide) (by omega) u18 x18_5 (rd_L1 t249 x19_5) [.slice (some ad258) (rd_L1 t249 x19_5).length c256_0] (fun k_ => (w.heap.size ≤ k_) ∧ some k_ ≠ (u7 : Value).ownBlock ∧ some k_ ≠ (.slice (some ad238) x9_2.length co56 : Value).ownBlock ∧ some k_ ≠ (.slice (some ad256) t249.length co83 : Value).ownBlock ∧ k_ ≠ gb211) (fun k_ => ((fun k_ => (w.heap.size ≤ k_) ∧ some k_ ≠ (u7 : Value).ownBlock ∧ some k_ ≠ (.slice (some ad238) x9_2.length co56 : Value).ownBlock ∧ some k_ ≠ (.slice (some ad256) t249.length co83 : Value).ownBlock ∧ k_ ≠ gb211)) k_ ∧ some k_ ≠ (u18 : Value).ownBlock) rfl rfl ?aP (fun _ hk => hk) ?aF ?aO ?aB ?aS ?aL ?_; (case aP => exact (Kd.FK_slice_mk (Kd.V_reads' (Kd.V_mono (ok' := (fun k_ => ((fun k_ => (w.heap.size ≤ k_) ∧ some k_ ≠ (u7 : Value).ownBlock ∧ some k_ ≠ (.slice (some ad238) x9_2.length co56 : Value).ownBlock ∧ some k_ ≠ (.slice (some ad256) t249.length co83 : Value).ownBlock ∧ k_ ≠ gb211)) k_ ∧ some k_ ≠ (u18 : Value).ownBlock)) (HL260_0.out) (fun k_ hk => ⟨⟨hk.1.1, ⟨hk.1.2.1, ⟨hk.1.2.2.1, ⟨hk.2, hk.1.2.2.2.2⟩⟩⟩⟩, hk.1.2.2.2.1⟩))).2.1 (Kd.V_F (Kd.V_mono (ok' := (fun k_ => ((fun k_ => (w.heap.size ≤ k_) ∧ some k_ ≠ (u7 : Value).ownBlock ∧ some k_ ≠ (.slice (some ad238) x9_2.length co56 : Value).ownBlock ∧ some k_ ≠ (.slice (some ad256) t249.length co83 : Value).ownBlock ∧ k_ ≠ gb211)) k_ ∧ some k_ ≠ (u18 : Value).ownBlock)) (Kd.V_below HL260_0.out bgo_) (fun k_ hk => ⟨⟨hk.1.1, ⟨hk.1.2.1, ⟨hk.1.2.2.1, ⟨hk.2, hk.1.2.2.2.2⟩⟩⟩⟩, hk.1.2.2.2.1⟩))))); (case aB => exact hbs_); (case aF => exact (fun k_ hk => ⟨(Nat.le_trans (below_size hbs_) hk), Kd.fresh' (Kd.N_lt (Kd.N_below HO_7.out bgo_)) k_ hk, Kd.fresh' (Kd.N_lt (Kd.N_below HO_9.out bgo_)) k_ hk, Kd.fresh' (Kd.N_lt (Kd.N_below HO_17.out bgo_)) k_ hk, Kd.freshB (g := gb211) (o := .cells #[.int .i64 a0_0, .slice A0_1 l0_1.length c0_1] 29 (0, 0)) (blk_below BK211.out bgo_) k_ hk⟩)); (case aO => exact (Kd.N_below HO_18.out bgo_)); (case aS => exact (below_size hbs_)); (case aL => have := LMc82.out; omega); intro v262 w84 ho hb hg hat; rw [← Ny261.out] at ho; replace HO_7 := Aside0.mk (Kd.N_afterv (ok := (fun k_ => (w.heap.size ≤ k_) ∧ some k_ ≠ (.slice (some ad238) x9_2.length co56 : Value).ownBlock ∧ some k_ ≠ (.slice (some ad256) t249.length co83 : Value).ownBlock ∧ k_ ≠ gb211)) (by (with_reducible repeat (first | apply Kd.N_alloc | apply Kd.N_drewN | apply Kd.N_drew)); exact Kd.N_mono HO_7.out (fun _ hk => ⟨⟨hk.1, ⟨hk.2.1, ⟨hk.2.2.1, hk.2.2.2.2⟩⟩⟩, hk.2.2.2.1⟩)) hg hat); replace HO_9 := Aside0.mk (Kd.N_afterv (ok := (fun k_ => (w.heap.size ≤ k_) ∧ some k_ ≠ (u7 : Value).ownBlock ∧ some k_ ≠ (.slice (some ad256) t249.length co83 : Value).ownBlock ∧ k_ ≠ gb211)) (by (with_reducible repeat (first | apply Kd.N_alloc | apply Kd.N_drewN | apply Kd.N_drew)); exact Kd.N_mono HO_9.out (fun _ hk => ⟨⟨hk.1, ⟨hk.2.1, ⟨hk.2.2.1, hk.2.2.2.2⟩⟩⟩, hk.2.2.2.1⟩)) hg hat); replace HO_17 := Aside0.mk (Kd.N_afterv (ok := (fun k_ => (w.heap.size ≤ k_) ∧ some k_ ≠ (u7 : Value).ownBlock ∧ some k_ ≠ (.slice (some ad238) x9_2.length co56 : Value).ownBlock ∧ k_ ≠ gb211)) (by (with_reducible repeat (first | apply Kd.N_alloc | apply Kd.N_drewN | apply Kd.N_drew)); exact Kd.N_mono HO_17.out (fun _ hk => ⟨⟨hk.1, ⟨hk.2.1, ⟨hk.2.2.1, hk.2.2.2.2⟩⟩⟩, hk.2.2.2.1⟩)) hg hat); replace BK211 := Aside0.mk (blk_grown (g := gb211) (o := .cells #[.int .i64 a0_0, .slice A0_1 l0_1.length c0_1] 29 (0, 0)) (blk_below BK211.out bgo_) hg (Kd.N_ne HO_18.out BK211.out (by decide))); replace HL255_0 := Aside0.mk (Kd.V_afterv (ok := (fun k_ => (w.heap.size ≤ k_) ∧ some k_ ≠ (u7 : Value).ownBlock ∧ some k_ ≠ (.slice (some ad238) x9_2.length co56 : Value).ownBlock ∧ some k_ ≠ (.slice (some ad256) t249.length co83 : Value).ownBlock ∧ k_ ≠ gb211)) (by (with_reducible repeat (first | apply Kd.V_alloc | apply Kd.V_drewN | apply Kd.V_drew)); exact Kd.V_mono HL255_0.out (fun _ hk => ⟨⟨hk.1.1, ⟨hk.1.2.1, ⟨hk.2, ⟨hk.1.2.2.1, hk.1.2.2.2.2⟩⟩⟩⟩, hk.1.2.2.2.1⟩)) hg hat); replace HL256_0 := Aside0.mk (Kd.V_afterv (ok := (fun k_ => (w.heap.size ≤ k_) ∧ some k_ ≠ (u7 : Value).ownBlock ∧ some k_ ≠ (.slice (some ad238) x9_2.length co56 : Value).ownBlock ∧ some k_ ≠ (.slice (some ad256) t249.length co83 : Value).ownBlock ∧ k_ ≠ gb211)) (by (with_reducible repeat (first | apply Kd.V_alloc | apply Kd.V_drewN | apply Kd.V_drew)); exact Kd.V_mono HL256_0.out (fun _ hk => ⟨⟨hk.1.1, ⟨hk.1.2.1, ⟨hk.1.2.2.1, ⟨hk.2, hk.1.2.2.2.2⟩⟩⟩⟩, hk.1.2.2.2.1⟩)) hg hat); replace HL257_0 := Aside0.mk (Kd.V_afterv (ok := (fun k_ => (w.heap.size ≤ k_) ∧ some k_ ≠ (u7 : Value).ownBlock ∧ some k_ ≠ (.slice (some ad238) x9_2.length co56 : Value).ownBlock ∧ some k_ ≠ (.slice (some ad256) t249.length co83 : Value).ownBlock ∧ k_ ≠ gb211)) (by (with_reducible repeat (first | apply Kd.V_alloc | apply Kd.V_drewN | apply Kd.V_drew)); exact Kd.V_mono HL257_0.out (fun _ hk => ⟨⟨hk.1.1, ⟨hk.1.2.1, ⟨hk.1.2.2.1, ⟨hk.2, hk.1.2.2.2.2⟩⟩⟩⟩, hk.1.2.2.2.1⟩)) hg hat); replace HL260_0 := Aside0.mk (Kd.V_afterv (ok := (fun k_ => (w.heap.size ≤ k_) ∧ some k_ ≠ (u7 : Value).ownBlock ∧ some k_ ≠ (.slice (some ad238) x9_2.length co56 : Value).ownBlock ∧ some k_ ≠ (.slice (some ad256) t249.length co83 : Value).ownBlock ∧ k_ ≠ gb211)) (by (with_reducible repeat (first | apply Kd.V_alloc | apply Kd.V_drewN | apply Kd.V_drew)); exact Kd.V_mono HL260_0.out (fun _ hk => ⟨⟨hk.1.1, ⟨hk.1.2.1, ⟨hk.1.2.2.1, ⟨hk.2, hk.1.2.2.2.2⟩⟩⟩⟩, hk.1.2.2.2.1⟩)) hg hat); replace HB := Aside0.mk (hb); have HO263 := Aside0.mk (ho); clear HO_18; clear ho hb hg hat)))
                 first | (first | go_roundg k5 | (refine Handed.intro k5 ?measure ?_; rotate_left; go_step; (try simp only [add_plain]); (repeat apply Exists.intro); refine ⟨?rel, rfl⟩)) | ((try subst hji75); (try subst hji48); (first | go_roundg k5 | (refine Handed.intro k5 ?measure ?_; rotate_left; go_step; (try simp only [add_plain]); (repeat apply Exists.intro); refine ⟨?rel, rfl⟩)))
                 case measure => have := HK1.out; have := HK2.out; have := HJ52.out; have := HK4.out; have := HK5.out; omega
                 case rel => exact ⟨(y261), (wrap64 (x19_5 + 1)), es_, H', ⟨by have := HK1.out; have := HK2.out; have := HJ52.out; have := HK4.out; have := HK5.out; omega⟩, ⟨by (with_reducible repeat (first | apply Kd.N_alloc | apply Kd.N_drewN | apply Kd.N_drew)); exact Kd.N_mono HO_7.out (fun _ hk => ⟨hk.1.1, ⟨hk.1.2.1, ⟨hk.1.2.2.1, ⟨hk.2, hk.1.2.2.2⟩⟩⟩⟩)⟩, ⟨by (with_reducible repeat (first | apply Kd.N_alloc | apply Kd.N_drewN | apply Kd.N_drew)); exact Kd.N_mono HO_9.out (fun _ hk => ⟨hk.1.1, ⟨hk.1.2.1, ⟨hk.1.2.2.1, ⟨hk.2, hk.1.2.2.2⟩⟩⟩⟩)⟩, ⟨by (with_reducible repeat (first | apply Kd.N_alloc | apply Kd.N_drewN | apply Kd.N_drew)); exact Kd.N_mono HO_17.out (fun _ hk => ⟨hk.1.1, ⟨hk.1.2.1, ⟨hk.1.2.2.1, ⟨hk.2, hk.1.2.2.2⟩⟩⟩⟩)⟩, ⟨Kd.N_below HO263.out bgo_⟩, ⟨blk_below BK211.out bgo_⟩, ⟨hbs_⟩⟩
                ·replace c81 := Bool.eq_false_iff.mpr c81
                 subst c81
                 have H1 : (spec_l03All.l5 k5 a1 (wrap64 (2 * (l0_1.length : Int))) x7_1 x8_1 x9_2 x16_4 t249 x18_5 (wrap64 (x19_5 + 1)) a0_0 l0_1) = some (r1, r2) := by rw [if_neg (show ¬ (false = true) by decide)] at H; exact H
                 clear H
                 have H := H1
                 clear H1
                 have H' := Aside0.mk H
                 clear H
                 obtain ⟨Ao85, co85, eo85⟩ := Kd.N_slice HO_17.out
                 subst eo85
                 have p255 : 0 ≤ (x16_4 : Int) := od_
                 have q255 : x16_4 < (x9_2.length : Int) := od_
                 obtain ⟨ad255, A255_0, c255_0, e255, hx255_0, hl255_0, hi255_0⟩ := at_L5 (Kd.N_reads' HO_9.out).2.2 x16_4 p255 q255
                 obtain rfl : ad238 = ad255 := (by injection e255)
                 obtain ⟨ce255, hce255, hMe255, hcc255⟩ := Kd.N_get HO_9.out [] x16_4 p255 (by first | exact q255 | exact od_ | (have e_ := (Kd.N_reads' HO_9.out).1; omega))
                 obtain ⟨ua255_0, uc255_0, rfl, ul255_0, ge255_0⟩ := Kd.FK_slice_open hMe255
                 have hv255_0 := hcc255 0 _ rfl
                 rw [Nat.add_zero, show ((Kd.slice 4 Kd.bool)).sz = 1 from rfl, Nat.mul_one] at hv255_0
                 replace hv255_0 := Option.some.inj (hv255_0.symm.trans hx255_0)
                 injection hv255_0 with hva_ hvn_ hvc_
                 rw [hva_] at ge255_0
                 rw [hvc_] at ul255_0
                 have HL255_0 := Aside0.mk (show Kd.V Kd.bool 4 _ w.heap.size _ _ (rd_L5 x9_2 x16_4) from Kd.V_mk ul255_0 ge255_0)
                 clear hva_ hvn_ hvc_ ge255_0 ul255_0
                 clear hcc255 hce255
                 have HR255_0 := Aside0.mk hi255_0
                 have HC255_0 := Aside0.mk hl255_0
                 clear hi255_0 hl255_0
                 replace p255 := eq_true p255
                 replace q255 := eq_true q255
                 have p256 : 0 ≤ (x19_5 : Int) := od_
                 have q256 : x19_5 < (t249.length : Int) := od_
                 obtain ⟨ad256, A256_0, c256_0, e256, hx256_0, hl256_0, hi256_0⟩ := at_L1 (Kd.N_reads' HO_17.out).2.2 x19_5 p256 q256
                 cases e256
                 obtain ⟨ce256, hce256, hMe256, hcc256⟩ := Kd.N_get HO_17.out [] x19_5 p256 (by first | exact q256 | exact od_ | (have e_ := (Kd.N_reads' HO_17.out).1; omega))
                 obtain ⟨ua256_0, uc256_0, rfl, ul256_0, ge256_0⟩ := Kd.FK_slice_open hMe256
                 have hv256_0 := hcc256 0 _ rfl
                 rw [Nat.add_zero, show ((Kd.slice 2 (Kd.int .i64))).sz = 1 from rfl, Nat.mul_one] at hv256_0
                 replace hv256_0 := Option.some.inj (hv256_0.symm.trans hx256_0)
                 injection hv256_0 with hva_ hvn_ hvc_
                 rw [hva_] at ge256_0
                 rw [hvc_] at ul256_0
                 have HL256_0 := Aside0.mk (show Kd.V (Kd.int .i64) 2 _ w.heap.size _ _ (rd_L1 t249 x19_5) from Kd.V_mk ul256_0 ge256_0)
                 clear hva_ hvn_ hvc_ ge256_0 ul256_0
                 clear hcc256 hce256
                 have HR256_0 := Aside0.mk hi256_0
                 have HC256_0 := Aside0.mk hl256_0
                 clear hi256_0 hl256_0
                 replace p256 := eq_true p256
                 replace q256 := eq_true q256
                 have p257 : 0 ≤ (x19_5 : Int) := od_
                 have q257 : x19_5 < (t249.length : Int) := od_
                 obtain ⟨ad257, A257_0, c257_0, e257, hx257_0, hl257_0, hi257_0⟩ := at_L1 (Kd.N_reads' HO_17.out).2.2 x19_5 p257 q257
                 obtain rfl : ad256 = ad257 := (by injection e257)
                 obtain ⟨ce257, hce257, hMe257, hcc257⟩ := Kd.N_get HO_17.out [] x19_5 p257 (by first | exact q257 | exact od_ | (have e_ := (Kd.N_reads' HO_17.out).1; omega))
                 obtain ⟨ua257_0, uc257_0, rfl, ul257_0, ge257_0⟩ := Kd.FK_slice_open hMe257
                 have hv257_0 := hcc257 0 _ rfl
                 rw [Nat.add_zero, show ((Kd.slice 2 (Kd.int .i64))).sz = 1 from rfl, Nat.mul_one] at hv257_0
                 replace hv257_0 := Option.some.inj (hv257_0.symm.trans hx257_0)
                 injection hv257_0 with hva_ hvn_ hvc_
                 rw [hva_] at ge257_0
                 rw [hvc_] at ul257_0
                 have HL257_0 := Aside0.mk (show Kd.V (Kd.int .i64) 2 _ w.heap.size _ _ (rd_L1 t249 x19_5) from Kd.V_mk ul257_0 ge257_0)
                 clear hva_ hvn_ hvc_ ge257_0 ul257_0
                 clear hcc257 hce257
                 have HR257_0 := Aside0.mk hi257_0
                 have HC257_0 := Aside0.mk hl257_0
                 clear hi257_0 hl257_0
                 replace p257 := eq_true p257
                 replace q257 := eq_true q257
                 have ea_ := Option.some.inj (hx256_0.symm.trans hx257_0)
                 injection ea_ with ea_ en_ ec_
                 subst ea_
                 subst ec_
                 clear en_
                 have p258 : 0 ≤ ((ji75) : Int) := od_
                 have q258 : (ji75) < ((rd_L1 t249 x19_5).length : Int) := od_
                 obtain ⟨ad258, e258, hx258_0⟩ := Kd.at_int (by repeat (first | (with_reducible exact HR256_0.out) | (with_reducible refine Kd.C_alloc ?_ _) | (with_reducible refine Kd.C_drewN ?_ _) | (with_reducible refine Kd.C_drew ?_) | exact HR256_0.out)) (ji75) p258 q258
                 cases e258
                 replace p258 := eq_true p258
                 replace q258 := eq_true q258
                 have p259 : 0 ≤ ((rd (rd_L1 t249 x19_5) (ji75)) : Int) := od_
                 have q259 : (rd (rd_L1 t249 x19_5) (ji75)) < ((rd_L5 x9_2 x16_4).length : Int) := od_
                 obtain ⟨ad259, e259, hx259_0⟩ := Kd.at_bool (by repeat (first | (with_reducible exact HR255_0.out) | (with_reducible refine Kd.C_alloc ?_ _) | (with_reducible refine Kd.C_drewN ?_ _) | (with_reducible refine Kd.C_drew ?_) | exact HR255_0.out)) (rd (rd_L1 t249 x19_5) (ji75)) p259 q259
                 (try rw [← Nbq80.out] at hx259_0)
                 cases e259
                 replace p259 := eq_true p259
                 replace q259 := eq_true q259
                 go_wp2
                 repeat (go_quiet (fail); try go_wp2)
                 first | (first | go_roundg k5 | (refine Handed.intro k5 ?measure ?_; rotate_left; go_step; (try simp only [add_plain]); (repeat apply Exists.intro); refine ⟨?rel, rfl⟩)) | ((try subst hji75); (try subst hji48); (first | go_roundg k5 | (refine Handed.intro k5 ?measure ?_; rotate_left; go_step; (try simp only [add_plain]); (repeat apply Exists.intro); refine ⟨?rel, rfl⟩)))
                 case measure => have := HK1.out; have := HK2.out; have := HJ52.out; have := HK4.out; have := HK5.out; omega
                 case rel => exact ⟨(x18_5), (wrap64 (x19_5 + 1)), es_, H', ⟨by have := HK1.out; have := HK2.out; have := HJ52.out; have := HK4.out; have := HK5.out; omega⟩, ⟨Kd.N_below HO_7.out bgo_⟩, ⟨Kd.N_below HO_9.out bgo_⟩, ⟨Kd.N_below HO_17.out bgo_⟩, ⟨Kd.N_below HO_18.out bgo_⟩, ⟨blk_below BK211.out bgo_⟩, ⟨hbs_⟩⟩
               ·rw [if_neg c71] at H
                have c71b0 := decide_eq_false c71
                clear c71
                have H' := Aside0.mk H
                clear H
                obtain ⟨Ao86, co86, eo86⟩ := Kd.N_slice HO_17.out
                subst eo86
                go_wp2
                repeat (go_quiet (fail); try go_wp2)
                first | (first | go_roundg k5 | (refine Handed.intro k5 ?measure ?_; rotate_left; go_step; (try simp only [add_plain]); (repeat apply Exists.intro); refine ⟨?rel, rfl⟩)) | ((try subst hji48); (first | go_roundg k5 | (refine Handed.intro k5 ?measure ?_; rotate_left; go_step; (try simp only [add_plain]); (repeat apply Exists.intro); refine ⟨?rel, rfl⟩)))
                case measure => have := HK1.out; have := HK2.out; have := HJ52.out; have := HK4.out; have := HK5.out; omega
                case rel => exact ⟨(x18_5), (wrap64 (x16_4 - 1)), es_, H', ⟨by have := HK1.out; have := HK2.out; have := HJ52.out; have := HK4.out; have := HK5.out; omega⟩, ⟨by (with_reducible repeat (first | apply Kd.N_alloc | apply Kd.N_drewN | apply Kd.N_drew)); exact Kd.N_mono HO_7.out (fun _ hk => ⟨hk.1, ⟨hk.2.1, ⟨hk.2.2.2.1, hk.2.2.2.2⟩⟩⟩)⟩, ⟨by (with_reducible repeat (first | apply Kd.N_alloc | apply Kd.N_drewN | apply Kd.N_drew)); exact Kd.N_mono HO_9.out (fun _ hk => ⟨hk.1, ⟨hk.2.1, ⟨hk.2.2.2.1, hk.2.2.2.2⟩⟩⟩)⟩, ⟨by (with_reducible repeat (first | apply Kd.N_alloc | apply Kd.N_drewN | apply Kd.N_drew)); exact Kd.N_mono HO_18.out (fun _ hk => ⟨hk.1, ⟨hk.2.1, ⟨hk.2.2.1, hk.2.2.2.2⟩⟩⟩)⟩, ⟨blk_below BK211.out bgo_⟩, ⟨hbs_⟩⟩
            ·rw [if_neg c64] at H
             have c64b0 := decide_eq_false c64
             clear c64
             obtain ⟨c87, H⟩ := itn_ H
             have LMc87 := Aside0.mk c87
             clear c87
             obtain ⟨y246, Ny246, H⟩ : ∃ y246 : List (List Int), Aside0 (y246 = (x7_1 ++ x15_4)) ∧ (spec_l03All.l0 k4 a1 (wrap64 (2 * (l0_1.length : Int))) y246 (wrap64 (x8_1 + 1)) a0_0 l0_1) = some (r1, r2) := ⟨_, ⟨rfl⟩, H⟩
             have H' := Aside0.mk H
             clear H
             obtain ⟨Ao89, co89, eo89⟩ := Kd.N_slice HO_15.out
             subst eo89
             go_wp2_with (first | ((with_reducible refine gate_builtin (b := .append) (xs := #[.tmp 144, .tmp 145]) rfl ?_); at_builtin; refine Kd.N_append_rows (Kd.slice 2 (Kd.int .i64)) (w0 := w) w.heap.size rfl (.tmp 144) (.tmp 145) 22 26 (.slice none 0 0) 24 rfl Try.underlying22 info26 rfl (by decide) (by omega) u7 x7_1 x15_4 _ _ _ (fun k_ => (w.heap.size ≤ k_) ∧ some k_ ≠ (.slice (some ad238) x9_2.length co56 : Value).ownBlock ∧ k_ ≠ gb211) (fun k_ => ((fun k_ => (w.heap.size ≤ k_) ∧ some k_ ≠ (.slice (some ad238) x9_2.length co56 : Value).ownBlock ∧ k_ ≠ gb211)) k_ ∧ some k_ ≠ (u7 : Value).ownBlock) rfl rfl ?aO ?aR (fun _ hk => hk) ?aF ?aB ?aS ?aL ?_; (case aR => exact (by skip; exact Kd.N_F (Kd.N_mono (ok' := (fun k_ => ((fun k_ => (w.heap.size ≤ k_) ∧ some k_ ≠ (.slice (some ad238) x9_2.length co56 : Value).ownBlock ∧ k_ ≠ gb211)) k_ ∧ some k_ ≠ (u7 : Value).ownBlock)) (HO_15.out) (fun k_ hk => ⟨⟨hk.1, ⟨hk.2.2.1, hk.2.2.2⟩⟩, hk.2.1⟩)))); (case aB => exact hbs_); (case aF => exact (fun k_ hk => ⟨(Nat.le_trans (below_size hbs_) hk), Kd.fresh' (Kd.N_lt (Kd.N_below HO_9.out bgo_)) k_ hk, Kd.freshB (g := gb211) (o := .cells #[.int .i64 a0_0, .slice A0_1 l0_1.length c0_1] 29 (0, 0)) (blk_below BK211.out bgo_) k_ hk⟩)); (case aO => exact (by (with_reducible repeat (first | apply Kd.N_alloc | apply Kd.N_drewN | apply Kd.N_drew)); exact Kd.N_mono HO_7.out (fun _ hk => ⟨hk.1, ⟨hk.2.1, hk.2.2.2⟩⟩))); (case aS => exact (below_size hbs_)); (case aL => have := LMc87.out; omega); intro v247 w88 ho hb hg hat; rw [← Ny246.out] at ho; replace HO_9 := Aside0.mk (Kd.N_afterv (ok := (fun k_ => (w.heap.size ≤ k_) ∧ some k_ ≠ (.slice Ao89 x15_4.length co89 : Value).ownBlock ∧ k_ ≠ gb211)) (by (with_reducible repeat (first | apply Kd.N_alloc | apply Kd.N_drewN | apply Kd.N_drew)); exact Kd.N_mono HO_9.out (fun _ hk => ⟨⟨hk.1, ⟨hk.2.2.1, hk.2.2.2⟩⟩, hk.2.1⟩)) hg hat); replace HO_15 := Aside0.mk (Kd.N_afterv (ok := (fun k_ => (w.heap.size ≤ k_) ∧ some k_ ≠ (.slice (some ad238) x9_2.length co56 : Value).ownBlock ∧ k_ ≠ gb211)) (by (with_reducible repeat (first | apply Kd.N_alloc | apply Kd.N_drewN | apply Kd.N_drew)); exact Kd.N_mono HO_15.out (fun _ hk => ⟨⟨hk.1, ⟨hk.2.2.1, hk.2.2.2⟩⟩, hk.2.1⟩)) hg hat); replace BK211 := Aside0.mk (blk_grown (g := gb211) (o := .cells #[.int .i64 a0_0, .slice A0_1 l0_1.length c0_1] 29 (0, 0)) (blk_below BK211.out bgo_) hg (Kd.N_ne HO_7.out BK211.out (by decide))); replace HB := Aside0.mk (hb); have HO248 := Aside0.mk (ho); clear HO_7; clear ho hb hg hat))
             repeat (go_quiet (first | ((with_reducible refine gate_builtin (b := .append) (xs := #[.tmp 144, .tmp 145]) rfl ?_); at_builtin; refine Kd.N_append_rows (Kd.slice 2 (Kd.int .i64)) (w0 := w) w.heap.size rfl (.tmp 144) (.tmp 145) 22 26 (.slice none 0 0) 24 rfl Try.underlying22 info26 rfl (by decide) (by omega) u7 x7_1 x15_4 _ _ _ (fun k_ => (w.heap.size ≤ k_) ∧ some k_ ≠ (.slice (some ad238) x9_2.length co56 : Value).ownBlock ∧ k_ ≠ gb211) (fun k_ => ((fun k_ => (w.heap.size ≤ k_) ∧ some k_ ≠ (.slice (some ad238) x9_2.length co56 : Value).ownBlock ∧ k_ ≠ gb211)) k_ ∧ some k_ ≠ (u7 : Value).ownBlock) rfl rfl ?aO ?aR (fun _ hk => hk) ?aF ?aB ?aS ?aL ?_; (case aR => exact (by skip; exact Kd.N_F (Kd.N_mono (ok' := (fun k_ => ((fun k_ => (w.heap.size ≤ k_) ∧ some k_ ≠ (.slice (some ad238) x9_2.length co56 : Value).ownBlock ∧ k_ ≠ gb211)) k_ ∧ some k_ ≠ (u7 : Value).ownBlock)) (HO_15.out) (fun k_ hk => ⟨⟨hk.1, ⟨hk.2.2.1, hk.2.2.2⟩⟩, hk.2.1⟩)))); (case aB => exact hbs_); (case aF => exact (fun k_ hk => ⟨(Nat.le_trans (below_size hbs_) hk), Kd.fresh' (Kd.N_lt (Kd.N_below HO_9.out bgo_)) k_ hk, Kd.freshB (g := gb211) (o := .cells #[.int .i64 a0_0, .slice A0_1 l0_1.length c0_1] 29 (0, 0)) (blk_below BK211.out bgo_) k_ hk⟩)); (case aO => exact (by (with_reducible repeat (first | apply Kd.N_alloc | apply Kd.N_drewN | apply Kd.N_drew)); exact Kd.N_mono HO_7.out (fun _ hk => ⟨hk.1, ⟨hk.2.1, hk.2.2.2⟩⟩))); (case aS => exact (below_size hbs_)); (case aL => have := LMc87.out; omega); intro v247 w88 ho hb hg hat; rw [← Ny246.out] at ho; replace HO_9 := Aside0.mk (Kd.N_afterv (ok := (fun k_ => (w.heap.size ≤ k_) ∧ some k_ ≠ (.slice Ao89 x15_4.length co89 : Value).ownBlock ∧ k_ ≠ gb211)) (by (with_reducible repeat (first | apply Kd.N_alloc | apply Kd.N_drewN | apply Kd.N_drew)); exact Kd.N_mono HO_9.out (fun _ hk => ⟨⟨hk.1, ⟨hk.2.2.1, hk.2.2.2⟩⟩, hk.2.1⟩)) hg hat); replace HO_15 := Aside0.mk (Kd.N_afterv (ok := (fun k_ => (w.heap.size ≤ k_) ∧ some k_ ≠ (.slice (some ad238) x9_2.length co56 : Value).ownBlock ∧ k_ ≠ gb211)) (by (with_reducible repeat (first | apply Kd.N_alloc | apply Kd.N_drewN | apply Kd.N_drew)); exact Kd.N_mono HO_15.out (fun _ hk => ⟨⟨hk.1, ⟨hk.2.2.1, hk.2.2.2⟩⟩, hk.2.1⟩)) hg hat); replace BK211 := Aside0.mk (blk_grown (g := gb211) (o := .cells #[.int .i64 a0_0, .slice A0_1 l0_1.length c0_1] 29 (0, 0)) (blk_below BK211.out bgo_) hg (Kd.N_ne HO_7.out BK211.out (by decide))); replace HB := Aside0.mk (hb); have HO248 := Aside0.mk (ho); clear HO_7; clear ho hb hg hat)); try go_wp2_with (first | ((with_reducible refine gate_builtin (b := .append) (xs := #[.tmp 144, .tmp 145]) rfl ?_); at_builtin; refine Kd.N_append_rows (Kd.slice 2 (Kd.int .i64)) (w0 := w) w.heap.size rfl (.tmp 144) (.tmp 145) 22 26 (.slice none 0 0) 24 rfl Try.underlying22 info26 rfl (by decide) (by omega) u7 x7_1 x15_4 _ _ _ (fun k_ => (w.heap.size ≤ k_) ∧ some k_ ≠ (.slice (some ad238) x9_2.length co56 : Value).ownBlock ∧ k_ ≠ gb211) (fun k_ => ((fun k_ => (w.heap.size ≤ k_) ∧ some k_ ≠ (.slice (some ad238) x9_2.length co56 : Value).ownBlock ∧ k_ ≠ gb211)) k_ ∧ some k_ ≠ (u7 : Value).ownBlock) rfl rfl ?aO ?aR (fun _ hk => hk) ?aF ?aB ?aS ?aL ?_; (case aR => exact (by skip; exact Kd.N_F (Kd.N_mono (ok' := (fun k_ => ((fun k_ => (w.heap.size ≤ k_) ∧ some k_ ≠ (.slice (some ad238) x9_2.length co56 : Value).ownBlock ∧ k_ ≠ gb211)) k_ ∧ some k_ ≠ (u7 : Value).ownBlock)) (HO_15.out) (fun k_ hk => ⟨⟨hk.1, ⟨hk.2.2.1, hk.2.2.2⟩⟩, hk.2.1⟩)))); (case aB => exact hbs_); (case aF => exact (fun k_ hk => ⟨(Nat.le_trans (below_size hbs_) hk), Kd.fresh' (Kd.N_lt (Kd.N_below HO_9.out bgo_)) k_ hk, Kd.freshB (g := gb211) (o := .cells #[.int .i64 a0_0, .slice A0_1 l0_1.length c0_1] 29 (0, 0)) (blk_below BK211.out bgo_) k_ hk⟩)); (case aO => exact (by (with_reducible repeat (first | apply Kd.N_alloc | apply Kd.N_drewN | apply Kd.N_drew)); exact Kd.N_mono HO_7.out (fun _ hk => ⟨hk.1, ⟨hk.2.1, hk.2.2.2⟩⟩))); (case aS => exact (below_size hbs_)); (case aL => have := LMc87.out; omega); intro v247 w88 ho hb hg hat; rw [← Ny246.out] at ho; replace HO_9 := Aside0.mk (Kd.N_afterv (ok := (fun k_ => (w.heap.size ≤ k_) ∧ some k_ ≠ (.slice Ao89 x15_4.length co89 : Value).ownBlock ∧ k_ ≠ gb211)) (by (with_reducible repeat (first | apply Kd.N_alloc | apply Kd.N_drewN | apply Kd.N_drew)); exact Kd.N_mono HO_9.out (fun _ hk => ⟨⟨hk.1, ⟨hk.2.2.1, hk.2.2.2⟩⟩, hk.2.1⟩)) hg hat); replace HO_15 := Aside0.mk (Kd.N_afterv (ok := (fun k_ => (w.heap.size ≤ k_) ∧ some k_ ≠ (.slice (some ad238) x9_2.length co56 : Value).ownBlock ∧ k_ ≠ gb211)) (by (with_reducible repeat (first | apply Kd.N_alloc | apply Kd.N_drewN | apply Kd.N_drew)); exact Kd.N_mono HO_15.out (fun _ hk => ⟨⟨hk.1, ⟨hk.2.2.1, hk.2.2.2⟩⟩, hk.2.1⟩)) hg hat); replace BK211 := Aside0.mk (blk_grown (g := gb211) (o := .cells #[.int .i64 a0_0, .slice A0_1 l0_1.length c0_1] 29 (0, 0)) (blk_below BK211.out bgo_) hg (Kd.N_ne HO_7.out BK211.out (by decide))); replace HB := Aside0.mk (hb); have HO248 := Aside0.mk (ho); clear HO_7; clear ho hb hg hat)))
             first | (first | go_roundg k4 | (refine Handed.intro k4 ?measure ?_; rotate_left; go_step; (try simp only [add_plain]); (repeat apply Exists.intro); refine ⟨?rel, rfl⟩)) | ((try subst hji48); (first | go_roundg k4 | (refine Handed.intro k4 ?measure ?_; rotate_left; go_step; (try simp only [add_plain]); (repeat apply Exists.intro); refine ⟨?rel, rfl⟩)))
             case measure => have := HK1.out; have := HK2.out; have := HJ52.out; have := HK4.out; omega
             case rel => exact ⟨(y246), (wrap64 (x8_1 + 1)), es_, H', ⟨by have := HK1.out; have := HK2.out; have := HJ52.out; have := HK4.out; omega⟩, ⟨by (with_reducible repeat (first | apply Kd.N_alloc | apply Kd.N_drewN | apply Kd.N_drew)); exact Kd.N_mono HO248.out (fun _ hk => ⟨hk.1, hk.2.2⟩)⟩, ⟨blk_below BK211.out bgo_⟩, ⟨hbs_⟩⟩
    ·rw [if_neg c14] at H
     have c14b0 := decide_eq_false c14
     clear c14
     simp only [Option.some.injEq, Prod.mk.injEq] at H
     obtain ⟨rfl, rfl⟩ := H
     go_wp2
     repeat (go_quiet (fail); try go_wp2)
     go_ret2
     exact ⟨_, er_, by (with_reducible repeat (first | apply Kd.N_alloc | apply Kd.N_drewN | apply Kd.N_drew)); exact Kd.N_mono HO_7.out (fun _ hk => hk.1), hbs_⟩

/-! ### spec_ClosedWalks: function 29 -/
def spec_ClosedWalks.f (k : Nat) (a0_0 : Int) (l0_1 : List (List Int)) (a1 : Int) : Option ((List (List Int)) × Int) := (spec_l03Length.f k a0_0 l0_1 a1 1).bind fun t265 => (if t265 = 0 then ((spec_l03All.f k a0_0 l0_1 a1).bind fun bt266 => (if bt266.2 = true then (some (bt266.1, 0)) else (some (([] : List (List Int)), 3)))) else (some (([] : List (List Int)), t265)))
set_option maxHeartbeats 8000000 in
set_option maxRecDepth 100000 in
theorem spec_ClosedWalks.calls (k : Nat) (a0_0 : Int) (A0_1 : Option Addr) (c0_1 : Nat) (l0_1 : List (List Int)) (a1 : Int) (r1 : List (List Int)) (r2 : Int) (w : World) (hr0_1 : Kd.C (Kd.slice 2 (Kd.int .i64)) w A0_1 l0_1.length l0_1) (hc0_1 : l0_1.length ≤ c0_1) (h : spec_ClosedWalks.f k a0_0 l0_1 a1 = some (r1, r2)) :
  Calls Try.prog 29 #[.agg #[.int .i64 a0_0, .slice A0_1 l0_1.length c0_1], .int .i64 a1] w fun e w' => ∃ v0_ : Value, e = .returned (.tuple #[v0_, .int .i64 r2]) ∧ Kd.N (Kd.slice 2 (Kd.int .i64)) 26 w' w.heap.size (fun k_ => (w.heap.size ≤ k_)) v0_ r1 ∧ Below w.heap.size w w' := by
 have hu29 := Try.underlying29
 have HR0_1 := Aside0.mk hr0_1
 have HC0_1 := Aside0.mk hc0_1
 clear hr0_1 hc0_1
 have HB := Aside0.mk (Below.refl w.heap.size w)
 have H : ((spec_l03Length.f k a0_0 l0_1 a1 1).bind fun t265 => (if t265 = 0 then ((spec_l03All.f k a0_0 l0_1 a1).bind fun bt266 => (if bt266.2 = true then (some (bt266.1, 0)) else (some (([] : List (List Int)), 3)))) else (some (([] : List (List Int)), t265)))) = some (r1, r2) := h
 clear h
 obtain ⟨t265, A3, H⟩ := bnd_ H
 by_cases c4 : t265 = 0
 ·rw [if_pos c4] at H
  have c4b0 : (t265 == 0) = true := beq_iff_eq.mpr c4
  have c4b1 : (t265 != 0) = false := bne_eq_false_iff_eq.mpr c4
  clear c4
  obtain ⟨⟨t266, t269⟩, A5, H⟩ := bnd_ H
  dsimp only at H
  by_cases c6 : t269 = true
  ·subst c6
   have H1 : (some (t266, 0)) = some (r1, r2) := by rw [if_pos rfl] at H; exact H
   clear H
   have H := H1
   clear H1
   simp only [Option.some.injEq, Prod.mk.injEq] at H
   obtain ⟨rfl, rfl⟩ := H
   go_enter Try.func29, Try.ntmps29
   go_wp2_with (first | ((with_reducible refine gate_dst (N := 2) rfl ?_); refine box_event ?hg (N := 2) ?hd (cs := #[.int .i64 a0_0, .slice A0_1 l0_1.length c0_1]) (t := 29) ?hr ?_; (case hd => rfl); (case hg => rfl); (case hr => first | (go_simp; done) | (go_simp; rfl)); intro gb264 hg w7 hbox hb; have BK264 := Aside0.mk (hbox); have GW264 := Aside0.mk ((by rw [hg]; exact (below_size hb_) : w.heap.size ≤ gb264)); have GE264 := Aside0.mk ((by rw [hg]; exact (below_size hb_) : w.heap.size ≤ gb264)); replace HB := Aside0.mk (below_step hb_ hb); clear hb hbox hg; have hcz8_0 : w7.cell? ⟨gb264, 0, none⟩ = some (.int .i64 a0_0) := (blk_cell BK264.out 0).trans rfl; have hcz8_1 : w7.cell? ⟨gb264, 1, none⟩ = some (.slice A0_1 l0_1.length c0_1) := (blk_cell BK264.out 1).trans rfl; have hfz8_0 := blk_frozen BK264.out 0; have hfz8_1 := blk_frozen BK264.out 1) | ((with_reducible refine gate_callee (f := 61) rfl ?_); refine goesL_ (some 11) rfl rfl Try.func61 (by kernel_rfl) rfl #[.agg #[.int .i64 a0_0, .slice A0_1 l0_1.length c0_1], .int .i64 a1, .int .i64 1] rfl arg_ ?_; (with_reducible refine (spec_l03Length.calls k a0_0 _ _ l0_1 a1 1 t265 _ ?side1 ?side2 A3.out).mono ?_); (case side1 => exact Kd.C_below (Kd.C_below HR0_1.out HB.out) bgo_); (case side2 => exact HC0_1.out); rintro e w9 ⟨rfl, hb⟩; refine ⟨_, rfl, ?_⟩; replace BK264 := Aside0.mk (blk_below (g := gb264) (o := .cells #[.int .i64 a0_0, .slice A0_1 l0_1.length c0_1] 29 (0, 0)) (blk_below BK264.out bgo_) hb); replace HB := Aside0.mk (below_step hbs_ hb); (try clear hb); (try clear hb2); (try clear hk); (try clear hi); have hcz10_0 : w9.cell? ⟨gb264, 0, none⟩ = some (.int .i64 a0_0) := (blk_cell BK264.out 0).trans rfl; have hcz10_1 : w9.cell? ⟨gb264, 1, none⟩ = some (.slice A0_1 l0_1.length c0_1) := (blk_cell BK264.out 1).trans rfl; have hfz10_0 := blk_frozen BK264.out 0; have hfz10_1 := blk_frozen BK264.out 1) | ((with_reducible refine gate_callee (f := 73) rfl ?_); refine goesL_ (some 18) rfl rfl Try.func73 (by kernel_rfl) rfl #[.agg #[.int .i64 a0_0, .slice A0_1 l0_1.length c0_1], .int .i64 a1] rfl arg_ ?_; (with_reducible refine (spec_l03All.calls k a0_0 _ _ l0_1 a1 t266 true _ ?side1 ?side2 A5.out).mono ?_); (case side1 => exact Kd.C_below (Kd.C_below HR0_1.out HB.out) bgo_); (case side2 => exact HC0_1.out); rintro e w11 ⟨v267, rfl, ho0, hb⟩; refine ⟨_, rfl, ?_⟩; have HO268 := Aside0.mk (Kd.N_lower (Kd.N_mono (ok' := fun k_ => (w.heap.size ≤ k_) ∧ k_ ≠ gb264) ho0 (fun k_ hk_ => ⟨(Nat.le_trans (below_size hbs_) hk_), (Kd.freshB (g := gb264) (o := .cells #[.int .i64 a0_0, .slice A0_1 l0_1.length c0_1] 29 (0, 0)) (blk_below BK264.out bgo_) k_ hk_)⟩)) (below_size hbs_)); replace BK264 := Aside0.mk (blk_below (g := gb264) (o := .cells #[.int .i64 a0_0, .slice A0_1 l0_1.length c0_1] 29 (0, 0)) (blk_below BK264.out bgo_) hb); replace HB := Aside0.mk (below_step hbs_ hb); (try clear hb); (try clear hb2); (try clear hk); (try clear hi); (try clear ho0)))
   go_ret2
   exact ⟨_, er_, by (with_reducible repeat (first | apply Kd.N_alloc | apply Kd.N_drewN | apply Kd.N_drew)); exact Kd.N_mono HO268.out (fun _ hk => hk.1), hbs_⟩
  ·replace c6 := Bool.eq_false_iff.mpr c6
   subst c6
   have H1 : (some (([] : List (List Int)), 3)) = some (r1, r2) := by rw [if_neg (show ¬ (false = true) by decide)] at H; exact H
   clear H
   have H := H1
   clear H1
   simp only [Option.some.injEq, Prod.mk.injEq] at H
   obtain ⟨rfl, rfl⟩ := H
   go_enter Try.func29, Try.ntmps29
   go_wp2_with (first | ((with_reducible refine gate_dst (N := 2) rfl ?_); refine box_event ?hg (N := 2) ?hd (cs := #[.int .i64 a0_0, .slice A0_1 l0_1.length c0_1]) (t := 29) ?hr ?_; (case hd => rfl); (case hg => rfl); (case hr => first | (go_simp; done) | (go_simp; rfl)); intro gb264 hg w12 hbox hb; have BK264 := Aside0.mk (hbox); have GW264 := Aside0.mk ((by rw [hg]; exact (below_size hb_) : w.heap.size ≤ gb264)); have GE264 := Aside0.mk ((by rw [hg]; exact (below_size hb_) : w.heap.size ≤ gb264)); replace HB := Aside0.mk (below_step hb_ hb); clear hb hbox hg; have hcz13_0 : w12.cell? ⟨gb264, 0, none⟩ = some (.int .i64 a0_0) := (blk_cell BK264.out 0).trans rfl; have hcz13_1 : w12.cell? ⟨gb264, 1, none⟩ = some (.slice A0_1 l0_1.length c0_1) := (blk_cell BK264.out 1).trans rfl; have hfz13_0 := blk_frozen BK264.out 0; have hfz13_1 := blk_frozen BK264.out 1) | ((with_reducible refine gate_callee (f := 61) rfl ?_); refine goesL_ (some 11) rfl rfl Try.func61 (by kernel_rfl) rfl #[.agg #[.int .i64 a0_0, .slice A0_1 l0_1.length c0_1], .int .i64 a1, .int .i64 1] rfl arg_ ?_; (with_reducible refine (spec_l03Length.calls k a0_0 _ _ l0_1 a1 1 t265 _ ?side1 ?side2 A3.out).mono ?_); (case side1 => exact Kd.C_below (Kd.C_below HR0_1.out HB.out) bgo_); (case side2 => exact HC0_1.out); rintro e w14 ⟨rfl, hb⟩; refine ⟨_, rfl, ?_⟩; replace BK264 := Aside0.mk (blk_below (g := gb264) (o := .cells #[.int .i64 a0_0, .slice A0_1 l0_1.length c0_1] 29 (0, 0)) (blk_below BK264.out bgo_) hb); replace HB := Aside0.mk (below_step hbs_ hb); (try clear hb); (try clear hb2); (try clear hk); (try clear hi); have hcz15_0 : w14.cell? ⟨gb264, 0, none⟩ = some (.int .i64 a0_0) := (blk_cell BK264.out 0).trans rfl; have hcz15_1 : w14.cell? ⟨gb264, 1, none⟩ = some (.slice A0_1 l0_1.length c0_1) := (blk_cell BK264.out 1).trans rfl; have hfz15_0 := blk_frozen BK264.out 0; have hfz15_1 := blk_frozen BK264.out 1) | ((with_reducible refine gate_callee (f := 73) rfl ?_); refine goesL_ (some 18) rfl rfl Try.func73 (by kernel_rfl) rfl #[.agg #[.int .i64 a0_0, .slice A0_1 l0_1.length c0_1], .int .i64 a1] rfl arg_ ?_; (with_reducible refine (spec_l03All.calls k a0_0 _ _ l0_1 a1 t266 false _ ?side1 ?side2 A5.out).mono ?_); (case side1 => exact Kd.C_below (Kd.C_below HR0_1.out HB.out) bgo_); (case side2 => exact HC0_1.out); rintro e w16 ⟨v267, rfl, ho0, hb⟩; refine ⟨_, rfl, ?_⟩; have HO268 := Aside0.mk (Kd.N_lower (Kd.N_mono (ok' := fun k_ => (w.heap.size ≤ k_) ∧ k_ ≠ gb264) ho0 (fun k_ hk_ => ⟨(Nat.le_trans (below_size hbs_) hk_), (Kd.freshB (g := gb264) (o := .cells #[.int .i64 a0_0, .slice A0_1 l0_1.length c0_1] 29 (0, 0)) (blk_below BK264.out bgo_) k_ hk_)⟩)) (below_size hbs_)); replace BK264 := Aside0.mk (blk_below (g := gb264) (o := .cells #[.int .i64 a0_0, .slice A0_1 l0_1.length c0_1] 29 (0, 0)) (blk_below BK264.out bgo_) hb); replace HB := Aside0.mk (below_step hbs_ hb); (try clear hb); (try clear hb2); (try clear hk); (try clear hi); (try clear ho0)))
   go_ret2
   exact ⟨_, er_, by first | exact Kd.S_nil _ _ _ _ _ | exact Kd.N_nil _ _ _ _ _ | exact Kd.V_nil _ _ _ _ _ | exact Kd.Q_nil _ _ _ _ _ | exact Kd.R_nil _ _ _ _ _, hbs_⟩
 ·rw [if_neg c4] at H
  have c4b0 : (t265 == 0) = false := beq_eq_false_iff_ne.mpr c4
  have c4b1 : (t265 != 0) = true := bne_iff_ne.mpr c4
  simp only [Option.some.injEq, Prod.mk.injEq] at H
  obtain ⟨rfl, rfl⟩ := H
  go_enter Try.func29, Try.ntmps29
  go_wp2_with (first | ((with_reducible refine gate_dst (N := 2) rfl ?_); refine box_event ?hg (N := 2) ?hd (cs := #[.int .i64 a0_0, .slice A0_1 l0_1.length c0_1]) (t := 29) ?hr ?_; (case hd => rfl); (case hg => rfl); (case hr => first | (go_simp; done) | (go_simp; rfl)); intro gb264 hg w17 hbox hb; have BK264 := Aside0.mk (hbox); have GW264 := Aside0.mk ((by rw [hg]; exact (below_size hb_) : w.heap.size ≤ gb264)); have GE264 := Aside0.mk ((by rw [hg]; exact (below_size hb_) : w.heap.size ≤ gb264)); replace HB := Aside0.mk (below_step hb_ hb); clear hb hbox hg; have hcz18_0 : w17.cell? ⟨gb264, 0, none⟩ = some (.int .i64 a0_0) := (blk_cell BK264.out 0).trans rfl; have hcz18_1 : w17.cell? ⟨gb264, 1, none⟩ = some (.slice A0_1 l0_1.length c0_1) := (blk_cell BK264.out 1).trans rfl; have hfz18_0 := blk_frozen BK264.out 0; have hfz18_1 := blk_frozen BK264.out 1) | ((with_reducible refine gate_callee (f := 61) rfl ?_); refine goesL_ (some 11) rfl rfl Try.func61 (by kernel_rfl) rfl #[.agg #[.int .i64 a0_0, .slice A0_1 l0_1.length c0_1], .int .i64 a1, .int .i64 1] rfl arg_ ?_; (with_reducible refine (spec_l03Length.calls k a0_0 _ _ l0_1 a1 1 t265 _ ?side1 ?side2 A3.out).mono ?_); (case side1 => exact Kd.C_below (Kd.C_below HR0_1.out HB.out) bgo_); (case side2 => exact HC0_1.out); rintro e w19 ⟨rfl, hb⟩; refine ⟨_, rfl, ?_⟩; replace BK264 := Aside0.mk (blk_below (g := gb264) (o := .cells #[.int .i64 a0_0, .slice A0_1 l0_1.length c0_1] 29 (0, 0)) (blk_below BK264.out bgo_) hb); replace HB := Aside0.mk (below_step hbs_ hb); (try clear hb); (try clear hb2); (try clear hk); (try clear hi)))
  go_ret2
  exact ⟨_, er_, by first | exact Kd.S_nil _ _ _ _ _ | exact Kd.N_nil _ _ _ _ _ | exact Kd.V_nil _ _ _ _ _ | exact Kd.Q_nil _ _ _ _ _ | exact Kd.R_nil _ _ _ _ _, hbs_⟩

/-! ### impl_within: function 58 -/
def impl_within.f (a0 : Int) (a1 : Int) (a2 : Int) : Option (Bool) := if a0 ≥ a1 then (some (decide (a0 ≤ a2))) else (some false)
set_option maxHeartbeats 8000000 in
set_option maxRecDepth 100000 in
theorem impl_within.calls (a0 : Int) (a1 : Int) (a2 : Int) (r : Bool) (w : World) (h : impl_within.f a0 a1 a2 = some r) :
  Calls Try.prog 58 #[.int .i64 a0, .int .i64 a1, .int .i64 a2] w fun e w' => e = .returned (.bool r) ∧ Drawn0 w w' := by
 have H : (if a0 ≥ a1 then (some (decide (a0 ≤ a2))) else (some false)) = some r := h
 clear h
 by_cases c4 : a0 ≥ a1
 ·rw [if_pos c4] at H
  have c4b0 := decide_eq_true c4
  clear c4
  obtain rfl := Option.some.inj H
  go_enter Try.func58, Try.ntmps58
  go_wp2
  go_ret
  exact ⟨es_, by repeat (first | exact Drawn0.refl _ | apply Drawn0.step)⟩
 ·rw [if_neg c4] at H
  have c4b0 := decide_eq_false c4
  clear c4
  obtain rfl := Option.some.inj H
  go_enter Try.func58, Try.ntmps58
  go_wp2
  go_ret
  exact ⟨es_, by repeat (first | exact Drawn0.refl _ | apply Drawn0.step)⟩

/-! ### impl_IsGraph: function 46 -/
def impl_IsGraph.l0 : Nat → List (List Int) → Int → Int → Int → List (List Int) → Option (Bool)
 | 0, _, _, _, _, _ => none
 | k + 1, x6, x7, x8, x271000, x271001 => if x8 < x7 then (if 0 ≤ x8 then (if x8 < (x6.length : Int) then (if ((rd_L1 x6 x8).length : Int) = 2 then (if 0 < ((rd_L1 x6 x8).length : Int) then ((impl_within.f (rd (rd_L1 x6 x8) 0) 0 (wrap64 (x271000 - 1))).bind fun t274 => (if t274 = true then (if 1 < ((rd_L1 x6 x8).length : Int) then ((impl_within.f (rd (rd_L1 x6 x8) 1) 0 (wrap64 (x271000 - 1))).bind fun t276 => (if t276 = true then (impl_IsGraph.l0 k x6 x7 (wrap64 (x8 + 1)) x271000 x271001) else (some false))) else (none)) else (some false))) else (none)) else (some false)) else (none)) else (none)) else ((impl_within.f x271000 1 8).bind fun t271 => (if t271 = true then (some (decide ((x271001.length : Int) ≤ 10))) else (some false)))
def impl_IsGraph.f (k : Nat) (a0_0 : Int) (l0_1 : List (List Int)) : Option (Bool) := impl_IsGraph.l0 k l0_1 (l0_1.length : Int) 0 a0_0 l0_1
set_option maxHeartbeats 8000000 in
set_option maxRecDepth 100000 in
theorem impl_IsGraph.calls (k : Nat) (a0_0 : Int) (A0_1 : Option Addr) (c0_1 : Nat) (l0_1 : List (List Int)) (r : Bool) (w : World) (hr0_1 : Kd.C (Kd.slice 2 (Kd.int .i64)) w A0_1 l0_1.length l0_1) (hc0_1 : l0_1.length ≤ c0_1) (h : impl_IsGraph.f k a0_0 l0_1 = some r) :
  Calls Try.prog 46 #[.agg #[.int .i64 a0_0, .slice A0_1 l0_1.length c0_1]] w fun e w' => e = .returned (.bool r) ∧ Below w.heap.size w w' := by
 have hu29 := Try.underlying29
 have HR0_1 := Aside0.mk hr0_1
 have HC0_1 := Aside0.mk hc0_1
 clear hr0_1 hc0_1
 have HB := Aside0.mk (Below.refl w.heap.size w)
 have H : (impl_IsGraph.l0 k l0_1 (l0_1.length : Int) 0 a0_0 l0_1) = some r := h
 clear h
 have H' := Aside0.mk H
 clear H
 go_enter Try.func46, Try.ntmps46
 go_wp2_with (first | ((with_reducible refine gate_dst (N := 1) rfl ?_); (try (refine gate_guard (by rfl) ?_; dsimp only)); refine box_event ?hg (N := 1) ?hd (cs := #[.int .i64 a0_0, .slice A0_1 l0_1.length c0_1]) (t := 29) ?hr ?_; (case hd => rfl); (case hg => rfl); (case hr => first | (go_simp; done) | (go_simp; rfl)); intro gb270 hg w2 hbox hb; have BK270 := Aside0.mk (hbox); have GW270 := Aside0.mk ((by rw [hg]; exact (below_size hb_) : w.heap.size ≤ gb270)); have GE270 := Aside0.mk ((by rw [hg]; exact (below_size hb_) : w.heap.size ≤ gb270)); replace HB := Aside0.mk (below_step hb_ hb); clear hb hbox hg; have hcz3_0 : w2.cell? ⟨gb270, 0, none⟩ = some (.int .i64 a0_0) := (blk_cell BK270.out 0).trans rfl; have hcz3_1 : w2.cell? ⟨gb270, 1, none⟩ = some (.slice A0_1 l0_1.length c0_1) := (blk_cell BK270.out 1).trans rfl; have hfz3_0 := blk_frozen BK270.out 0; have hfz3_1 := blk_frozen BK270.out 1))
 repeat (go_quiet (first | ((with_reducible refine gate_dst (N := 1) rfl ?_); (try (refine gate_guard (by rfl) ?_; dsimp only)); refine box_event ?hg (N := 1) ?hd (cs := #[.int .i64 a0_0, .slice A0_1 l0_1.length c0_1]) (t := 29) ?hr ?_; (case hd => rfl); (case hg => rfl); (case hr => first | (go_simp; done) | (go_simp; rfl)); intro gb270 hg w2 hbox hb; have BK270 := Aside0.mk (hbox); have GW270 := Aside0.mk ((by rw [hg]; exact (below_size hb_) : w.heap.size ≤ gb270)); have GE270 := Aside0.mk ((by rw [hg]; exact (below_size hb_) : w.heap.size ≤ gb270)); replace HB := Aside0.mk (below_step hb_ hb); clear hb hbox hg; have hcz3_0 : w2.cell? ⟨gb270, 0, none⟩ = some (.int .i64 a0_0) := (blk_cell BK270.out 0).trans rfl; have hcz3_1 : w2.cell? ⟨gb270, 1, none⟩ = some (.slice A0_1 l0_1.length c0_1) := (blk_cell BK270.out 1).trans rfl; have hfz3_0 := blk_frozen BK270.out 0; have hfz3_1 := blk_frozen BK270.out 1)); try go_wp2_with (first | ((with_reducible refine gate_dst (N := 1) rfl ?_); (try (refine gate_guard (by rfl) ?_; dsimp only)); refine box_event ?hg (N := 1) ?hd (cs := #[.int .i64 a0_0, .slice A0_1 l0_1.length c0_1]) (t := 29) ?hr ?_; (case hd => rfl); (case hg => rfl); (case hr => first | (go_simp; done) | (go_simp; rfl)); intro gb270 hg w2 hbox hb; have BK270 := Aside0.mk (hbox); have GW270 := Aside0.mk ((by rw [hg]; exact (below_size hb_) : w.heap.size ≤ gb270)); have GE270 := Aside0.mk ((by rw [hg]; exact (below_size hb_) : w.heap.size ≤ gb270)); replace HB := Aside0.mk (below_step hb_ hb); clear hb hbox hg; have hcz3_0 : w2.cell? ⟨gb270, 0, none⟩ = some (.int .i64 a0_0) := (blk_cell BK270.out 0).trans rfl; have hcz3_1 : w2.cell? ⟨gb270, 1, none⟩ = some (.slice A0_1 l0_1.length c0_1) := (blk_cell BK270.out 1).trans rfl; have hfz3_0 := blk_frozen BK270.out 0; have hfz3_1 := blk_frozen BK270.out 1)))
 go_loopg [8] k (fun kq v8 w' => ∃ (x8_1 : Int), v8 = .int .i64 x8_1 ∧ Aside0 (impl_IsGraph.l0 kq l0_1 (l0_1.length : Int) x8_1 a0_0 l0_1 = some r) ∧ Aside0 (kq ≤ k) ∧ Aside0 (w'.heap[gb270]? = some (.cells #[.int .i64 a0_0, (.slice A0_1 l0_1.length c0_1)] 29 (0, 0))) ∧ Aside0 (Below w.heap.size w w'))
 case atStart => exact ⟨(0), es_, H', ⟨Nat.le_refl _⟩, ⟨blk_below BK270.out bgo_⟩, ⟨hbs_⟩⟩
 case round =>
  clear H'
  obtain ⟨x8_1, rfl, HA, HK1, BK270, HB⟩ := hrel
  cases gk with
  | zero => exact absurd HA.out (by simp [impl_IsGraph.l0])
  | succ k1 =>
   have H := HA.out
   clear HA
   simp only [impl_IsGraph.l0] at H
   by_cases c4 : x8_1 < (l0_1.length : Int)
   ·rw [if_pos c4] at H
    have c4b0 := decide_eq_true c4
    clear c4
    obtain ⟨c5, H⟩ := itn_ H
    have c5b0 := decide_eq_true c5
    clear c5
    obtain ⟨c6, H⟩ := itn_ H
    have c6b0 := decide_eq_true c6
    clear c6
    by_cases c7 : ((rd_L1 l0_1 x8_1).length : Int) = 2
    ·rw [if_pos c7] at H
     have c7b0 : (((rd_L1 l0_1 x8_1).length : Int) == 2) = true := beq_iff_eq.mpr c7
     have c7b1 : (((rd_L1 l0_1 x8_1).length : Int) != 2) = false := bne_eq_false_iff_eq.mpr c7
     clear c7
     obtain ⟨c8, H⟩ := itn_ H
     have c8b0 := decide_eq_true c8
     have c8b1 : decide (0 < (rd_L1 l0_1 x8_1).length) = true := decide_eq_true (by omega)
     clear c8
     obtain ⟨t274, A9, H⟩ := bnd_ H
     by_cases c10 : t274 = true
     ·subst c10
      have H1 : (if 1 < ((rd_L1 l0_1 x8_1).length : Int) then ((impl_within.f (rd (rd_L1 l0_1 x8_1) 1) 0 (wrap64 (a0_0 - 1))).bind fun t276 => (if t276 = true then (impl_IsGraph.l0 k1 l0_1 (l0_1.length : Int) (wrap64 (x8_1 + 1)) a0_0 l0_1) else (some false))) else (none)) = some r := by rw [if_pos rfl] at H; exact H
      clear H
      have H := H1
      clear H1
      obtain ⟨c11, H⟩ := itn_ H
      have c11b0 := decide_eq_true c11
      have c11b1 : decide (1 < (rd_L1 l0_1 x8_1).length) = true := decide_eq_true (by omega)
      clear c11
      obtain ⟨t276, A12, H⟩ := bnd_ H
      by_cases c13 : t276 = true
      ·subst c13
       have H1 : (impl_IsGraph.l0 k1 l0_1 (l0_1.length : Int) (wrap64 (x8_1 + 1)) a0_0 l0_1) = some r := by rw [if_pos rfl] at H; exact H
       clear H
       have H := H1
       clear H1
       have H' := Aside0.mk H
       clear H
       have p272 : 0 ≤ (x8_1 : Int) := od_
       have q272 : x8_1 < (l0_1.length : Int) := od_
       obtain ⟨ad272, A272_0, c272_0, e272, hx272_0, hl272_0, hi272_0⟩ := at_L1 HR0_1.out x8_1 p272 q272
       cases e272
       (try replace hx272_0 := (HB.out.cell (World.block_lt_of_cell? w _ hx272_0)).trans hx272_0)
       have HR272_0 := Aside0.mk hi272_0
       have HC272_0 := Aside0.mk hl272_0
       clear hi272_0 hl272_0
       replace p272 := eq_true p272
       replace q272 := eq_true q272
       have p273 : 0 ≤ (0 : Int) := (by omega)
       have q273 : 0 < ((rd_L1 l0_1 x8_1).length : Int) := od_
       obtain ⟨ad273, e273, hx273_0⟩ := Kd.at_int HR272_0.out 0 p273 q273
       cases e273
       have qi273 : (0 < (rd_L1 l0_1 x8_1).length) = True := eq_true (by omega)
       (try rw [show ((0 : Int)).toNat = 0 from rfl] at hx273_0)
       (try rw [Addr.add_zero'] at hx273_0)
       (try replace hx273_0 := (HB.out.cell (World.block_lt_of_cell? w _ hx273_0)).trans hx273_0)
       replace p273 := eq_true p273
       replace q273 := eq_true q273
       have hcz14_0 : wr.cell? ⟨gb270, 0, none⟩ = some (.int .i64 a0_0) := (blk_cell BK270.out 0).trans rfl
       have hcz14_1 : wr.cell? ⟨gb270, 1, none⟩ = some (.slice (some ad272) l0_1.length c0_1) := (blk_cell BK270.out 1).trans rfl
       have hfz14_0 := blk_frozen BK270.out 0
       have hfz14_1 := blk_frozen BK270.out 1
       have p275 : 0 ≤ (1 : Int) := (by omega)
       have q275 : 1 < ((rd_L1 l0_1 x8_1).length : Int) := od_
       obtain ⟨ad275, e275, hx275_0⟩ := Kd.at_int HR272_0.out 1 p275 q275
       obtain rfl : ad273 = ad275 := (by injection e275)
       (try simp only [show (1 : Int).toNat = 1 from rfl, Nat.reduceMul, Nat.reduceEqDiff, Go.Addr.add, ↓reduceIte] at hx275_0)
       have qi275 : (1 < (rd_L1 l0_1 x8_1).length) = True := eq_true (by omega)
       (try rw [show ((1 : Int)).toNat = 1 from rfl] at hx275_0)
       (try replace hx275_0 := (HB.out.cell (World.block_lt_of_cell? w _ hx275_0)).trans hx275_0)
       replace p275 := eq_true p275
       replace q275 := eq_true q275
       go_wp2_with (first | (go_at_call 58; (with_reducible refine (impl_within.calls (rd (rd_L1 l0_1 x8_1) 0) 0 (wrap64 (a0_0 - 1)) true _ A9.out).mono ?_); rintro e w' ⟨rfl, ⟨nd, rfl⟩⟩; (try first | exact ⟨rfl, _, World.drewN_drewN _ _ _⟩ | exact ⟨rfl, _, Eq.trans (World.drewN_drewN _ _ _) (congrArg (World.drewN _) (Nat.add_assoc _ _ _))⟩)) | (go_at_call 58; (with_reducible refine (impl_within.calls (rd (rd_L1 l0_1 x8_1) 1) 0 (wrap64 (a0_0 - 1)) true _ A12.out).mono ?_); rintro e w' ⟨rfl, ⟨nd, rfl⟩⟩; (try first | exact ⟨rfl, _, World.drewN_drewN _ _ _⟩ | exact ⟨rfl, _, Eq.trans (World.drewN_drewN _ _ _) (congrArg (World.drewN _) (Nat.add_assoc _ _ _))⟩)))
       repeat (go_quiet (first | (go_at_call 58; (with_reducible refine (impl_within.calls (rd (rd_L1 l0_1 x8_1) 0) 0 (wrap64 (a0_0 - 1)) true _ A9.out).mono ?_); rintro e w' ⟨rfl, ⟨nd, rfl⟩⟩; (try first | exact ⟨rfl, _, World.drewN_drewN _ _ _⟩ | exact ⟨rfl, _, Eq.trans (World.drewN_drewN _ _ _) (congrArg (World.drewN _) (Nat.add_assoc _ _ _))⟩)) | (go_at_call 58; (with_reducible refine (impl_within.calls (rd (rd_L1 l0_1 x8_1) 1) 0 (wrap64 (a0_0 - 1)) true _ A12.out).mono ?_); rintro e w' ⟨rfl, ⟨nd, rfl⟩⟩; (try first | exact ⟨rfl, _, World.drewN_drewN _ _ _⟩ | exact ⟨rfl, _, Eq.trans (World.drewN_drewN _ _ _) (congrArg (World.drewN _) (Nat.add_assoc _ _ _))⟩))); try go_wp2_with (first | (go_at_call 58; (with_reducible refine (impl_within.calls (rd (rd_L1 l0_1 x8_1) 0) 0 (wrap64 (a0_0 - 1)) true _ A9.out).mono ?_); rintro e w' ⟨rfl, ⟨nd, rfl⟩⟩; (try first | exact ⟨rfl, _, World.drewN_drewN _ _ _⟩ | exact ⟨rfl, _, Eq.trans (World.drewN_drewN _ _ _) (congrArg (World.drewN _) (Nat.add_assoc _ _ _))⟩)) | (go_at_call 58; (with_reducible refine (impl_within.calls (rd (rd_L1 l0_1 x8_1) 1) 0 (wrap64 (a0_0 - 1)) true _ A12.out).mono ?_); rintro e w' ⟨rfl, ⟨nd, rfl⟩⟩; (try first | exact ⟨rfl, _, World.drewN_drewN _ _ _⟩ | exact ⟨rfl, _, Eq.trans (World.drewN_drewN _ _ _) (congrArg (World.drewN _) (Nat.add_assoc _ _ _))⟩))))
       go_roundg k1
       case measure => have := HK1.out; omega
       case rel => exact ⟨(wrap64 (x8_1 + 1)), es_, H', ⟨by have := HK1.out; omega⟩, ⟨blk_below BK270.out bgo_⟩, ⟨hbs_⟩⟩
      ·replace c13 := Bool.eq_false_iff.mpr c13
       subst c13
       have H1 : (some false) = some r := by rw [if_neg (show ¬ (false = true) by decide)] at H; exact H
       clear H
       have H := H1
       clear H1
       obtain rfl := Option.some.inj H
       have p272 : 0 ≤ (x8_1 : Int) := od_
       have q272 : x8_1 < (l0_1.length : Int) := od_
       obtain ⟨ad272, A272_0, c272_0, e272, hx272_0, hl272_0, hi272_0⟩ := at_L1 HR0_1.out x8_1 p272 q272
       cases e272
       (try replace hx272_0 := (HB.out.cell (World.block_lt_of_cell? w _ hx272_0)).trans hx272_0)
       have HR272_0 := Aside0.mk hi272_0
       have HC272_0 := Aside0.mk hl272_0
       clear hi272_0 hl272_0
       replace p272 := eq_true p272
       replace q272 := eq_true q272
       have p273 : 0 ≤ (0 : Int) := (by omega)
       have q273 : 0 < ((rd_L1 l0_1 x8_1).length : Int) := od_
       obtain ⟨ad273, e273, hx273_0⟩ := Kd.at_int HR272_0.out 0 p273 q273
       cases e273
       have qi273 : (0 < (rd_L1 l0_1 x8_1).length) = True := eq_true (by omega)
       (try rw [show ((0 : Int)).toNat = 0 from rfl] at hx273_0)
       (try rw [Addr.add_zero'] at hx273_0)
       (try replace hx273_0 := (HB.out.cell (World.block_lt_of_cell? w _ hx273_0)).trans hx273_0)
       replace p273 := eq_true p273
       replace q273 := eq_true q273
       have hcz15_0 : wr.cell? ⟨gb270, 0, none⟩ = some (.int .i64 a0_0) := (blk_cell BK270.out 0).trans rfl
       have hcz15_1 : wr.cell? ⟨gb270, 1, none⟩ = some (.slice (some ad272) l0_1.length c0_1) := (blk_cell BK270.out 1).trans rfl
       have hfz15_0 := blk_frozen BK270.out 0
       have hfz15_1 := blk_frozen BK270.out 1
       have p275 : 0 ≤ (1 : Int) := (by omega)
       have q275 : 1 < ((rd_L1 l0_1 x8_1).length : Int) := od_
       obtain ⟨ad275, e275, hx275_0⟩ := Kd.at_int HR272_0.out 1 p275 q275
       obtain rfl : ad273 = ad275 := (by injection e275)
       (try simp only [show (1 : Int).toNat = 1 from rfl, Nat.reduceMul, Nat.reduceEqDiff, Go.Addr.add, ↓reduceIte] at hx275_0)
       have qi275 : (1 < (rd_L1 l0_1 x8_1).length) = True := eq_true (by omega)
       (try rw [show ((1 : Int)).toNat = 1 from rfl] at hx275_0)
       (try replace hx275_0 := (HB.out.cell (World.block_lt_of_cell? w _ hx275_0)).trans hx275_0)
       replace p275 := eq_true p275
       replace q275 := eq_true q275
       go_wp2_with (first | (go_at_call 58; (with_reducible refine (impl_within.calls (rd (rd_L1 l0_1 x8_1) 0) 0 (wrap64 (a0_0 - 1)) true _ A9.out).mono ?_); rintro e w' ⟨rfl, ⟨nd, rfl⟩⟩; (try first | exact ⟨rfl, _, World.drewN_drewN _ _ _⟩ | exact ⟨rfl, _, Eq.trans (World.drewN_drewN _ _ _) (congrArg (World.drewN _) (Nat.add_assoc _ _ _))⟩)) | (go_at_call 58; (with_reducible refine (impl_within.calls (rd (rd_L1 l0_1 x8_1) 1) 0 (wrap64 (a0_0 - 1)) false _ A12.out).mono ?_); rintro e w' ⟨rfl, ⟨nd, rfl⟩⟩; (try first | exact ⟨rfl, _, World.drewN_drewN _ _ _⟩ | exact ⟨rfl, _, Eq.trans (World.drewN_drewN _ _ _) (congrArg (World.drewN _) (Nat.add_assoc _ _ _))⟩)))
       repeat (go_quiet (first | (go_at_call 58; (with_reducible refine (impl_within.calls (rd (rd_L1 l0_1 x8_1) 0) 0 (wrap64 (a0_0 - 1)) true _ A9.out).mono ?_); rintro e w' ⟨rfl, ⟨nd, rfl⟩⟩; (try first | exact ⟨rfl, _, World.drewN_drewN _ _ _⟩ | exact ⟨rfl, _, Eq.trans (World.drewN_drewN _ _ _) (congrArg (World.drewN _) (Nat.add_assoc _ _ _))⟩)) | (go_at_call 58; (with_reducible refine (impl_within.calls (rd (rd_L1 l0_1 x8_1) 1) 0 (wrap64 (a0_0 - 1)) false _ A12.out).mono ?_); rintro e w' ⟨rfl, ⟨nd, rfl⟩⟩; (try first | exact ⟨rfl, _, World.drewN_drewN _ _ _⟩ | exact ⟨rfl, _, Eq.trans (World.drewN_drewN _ _ _) (congrArg (World.drewN _) (Nat.add_assoc _ _ _))⟩))); try go_wp2_with (first | (go_at_call 58; (with_reducible refine (impl_within.calls (rd (rd_L1 l0_1 x8_1) 0) 0 (wrap64 (a0_0 - 1)) true _ A9.out).mono ?_); rintro e w' ⟨rfl, ⟨nd, rfl⟩⟩; (try first | exact ⟨rfl, _, World.drewN_drewN _ _ _⟩ | exact ⟨rfl, _, Eq.trans (World.drewN_drewN _ _ _) (congrArg (World.drewN _) (Nat.add_assoc _ _ _))⟩)) | (go_at_call 58; (with_reducible refine (impl_within.calls (rd (rd_L1 l0_1 x8_1) 1) 0 (wrap64 (a0_0 - 1)) false _ A12.out).mono ?_); rintro e w' ⟨rfl, ⟨nd, rfl⟩⟩; (try first | exact ⟨rfl, _, World.drewN_drewN _ _ _⟩ | exact ⟨rfl, _, Eq.trans (World.drewN_drewN _ _ _) (congrArg (World.drewN _) (Nat.add_assoc _ _ _))⟩))))
       go_ret
       exact ⟨er_, hbs_⟩
     ·replace c10 := Bool.eq_false_iff.mpr c10
      subst c10
      have H1 : (some false) = some r := by rw [if_neg (show ¬ (false = true) by decide)] at H; exact H
      clear H
      have H := H1
      clear H1
      obtain rfl := Option.some.inj H
      have p272 : 0 ≤ (x8_1 : Int) := od_
      have q272 : x8_1 < (l0_1.length : Int) := od_
      obtain ⟨ad272, A272_0, c272_0, e272, hx272_0, hl272_0, hi272_0⟩ := at_L1 HR0_1.out x8_1 p272 q272
      cases e272
      (try replace hx272_0 := (HB.out.cell (World.block_lt_of_cell? w _ hx272_0)).trans hx272_0)
      have HR272_0 := Aside0.mk hi272_0
      have HC272_0 := Aside0.mk hl272_0
      clear hi272_0 hl272_0
      replace p272 := eq_true p272
      replace q272 := eq_true q272
      have p273 : 0 ≤ (0 : Int) := (by omega)
      have q273 : 0 < ((rd_L1 l0_1 x8_1).length : Int) := od_
      obtain ⟨ad273, e273, hx273_0⟩ := Kd.at_int HR272_0.out 0 p273 q273
      cases e273
      have qi273 : (0 < (rd_L1 l0_1 x8_1).length) = True := eq_true (by omega)
      (try rw [show ((0 : Int)).toNat = 0 from rfl] at hx273_0)
      (try rw [Addr.add_zero'] at hx273_0)
      (try replace hx273_0 := (HB.out.cell (World.block_lt_of_cell? w _ hx273_0)).trans hx273_0)
      replace p273 := eq_true p273
      replace q273 := eq_true q273
      have hcz16_0 : wr.cell? ⟨gb270, 0, none⟩ = some (.int .i64 a0_0) := (blk_cell BK270.out 0).trans rfl
      have hcz16_1 : wr.cell? ⟨gb270, 1, none⟩ = some (.slice (some ad272) l0_1.length c0_1) := (blk_cell BK270.out 1).trans rfl
      have hfz16_0 := blk_frozen BK270.out 0
      have hfz16_1 := blk_frozen BK270.out 1
      go_wp2_with (first | (go_at_call 58; (with_reducible refine (impl_within.calls (rd (rd_L1 l0_1 x8_1) 0) 0 (wrap64 (a0_0 - 1)) false _ A9.out).mono ?_); rintro e w' ⟨rfl, ⟨nd, rfl⟩⟩; (try first | exact ⟨rfl, _, World.drewN_drewN _ _ _⟩ | exact ⟨rfl, _, Eq.trans (World.drewN_drewN _ _ _) (congrArg (World.drewN _) (Nat.add_assoc _ _ _))⟩)))
      repeat (go_quiet (first | (go_at_call 58; (with_reducible refine (impl_within.calls (rd (rd_L1 l0_1 x8_1) 0) 0 (wrap64 (a0_0 - 1)) false _ A9.out).mono ?_); rintro e w' ⟨rfl, ⟨nd, rfl⟩⟩; (try first | exact ⟨rfl, _, World.drewN_drewN _ _ _⟩ | exact ⟨rfl, _, Eq.trans (World.drewN_drewN _ _ _) (congrArg (World.drewN _) (Nat.add_assoc _ _ _))⟩))); try go_wp2_with (first | (go_at_call 58; (with_reducible refine (impl_within.calls (rd (rd_L1 l0_1 x8_1) 0) 0 (wrap64 (a0_0 - 1)) false _ A9.out).mono ?_); rintro e w' ⟨rfl, ⟨nd, rfl⟩⟩; (try first | exact ⟨rfl, _, World.drewN_drewN _ _ _⟩ | exact ⟨rfl, _, Eq.trans (World.drewN_drewN _ _ _) (congrArg (World.drewN _) (Nat.add_assoc _ _ _))⟩))))
      go_ret
      exact ⟨er_, hbs_⟩
    ·rw [if_neg c7] at H
     have c7b0 : (((rd_L1 l0_1 x8_1).length : Int) == 2) = false := beq_eq_false_iff_ne.mpr c7
     have c7b1 : (((rd_L1 l0_1 x8_1).length : Int) != 2) = true := bne_iff_ne.mpr c7
     obtain rfl := Option.some.inj H
     have p272 : 0 ≤ (x8_1 : Int) := od_
     have q272 : x8_1 < (l0_1.length : Int) := od_
     obtain ⟨ad272, A272_0, c272_0, e272, hx272_0, hl272_0, hi272_0⟩ := at_L1 HR0_1.out x8_1 p272 q272
     cases e272
     (try replace hx272_0 := (HB.out.cell (World.block_lt_of_cell? w _ hx272_0)).trans hx272_0)
     have HR272_0 := Aside0.mk hi272_0
     have HC272_0 := Aside0.mk hl272_0
     clear hi272_0 hl272_0
     replace p272 := eq_true p272
     replace q272 := eq_true q272
     go_wp2
     repeat (go_quiet (fail); try go_wp2)
     go_ret
     exact ⟨er_, hbs_⟩
   ·rw [if_neg c4] at H
    have c4b0 := decide_eq_false c4
    clear c4
    obtain ⟨t271, A17, H⟩ := bnd_ H
    by_cases c18 : t271 = true
    ·subst c18
     have H1 : (some (decide ((l0_1.length : Int) ≤ 10))) = some r := by rw [if_pos rfl] at H; exact H
     clear H
     have H := H1
     clear H1
     obtain rfl := Option.some.inj H
     have hcz19_0 : wr.cell? ⟨gb270, 0, none⟩ = some (.int .i64 a0_0) := (blk_cell BK270.out 0).trans rfl
     have hcz19_1 : wr.cell? ⟨gb270, 1, none⟩ = some (.slice A0_1 l0_1.length c0_1) := (blk_cell BK270.out 1).trans rfl
     have hfz19_0 := blk_frozen BK270.out 0
     have hfz19_1 := blk_frozen BK270.out 1
     go_wp2_with (first | (go_at_call 58; (with_reducible refine (impl_within.calls a0_0 1 8 true _ A17.out).mono ?_); rintro e w' ⟨rfl, ⟨nd, rfl⟩⟩; (try first | exact ⟨rfl, _, World.drewN_drewN _ _ _⟩ | exact ⟨rfl, _, Eq.trans (World.drewN_drewN _ _ _) (congrArg (World.drewN _) (Nat.add_assoc _ _ _))⟩)))
     repeat (go_quiet (first | (go_at_call 58; (with_reducible refine (impl_within.calls a0_0 1 8 true _ A17.out).mono ?_); rintro e w' ⟨rfl, ⟨nd, rfl⟩⟩; (try first | exact ⟨rfl, _, World.drewN_drewN _ _ _⟩ | exact ⟨rfl, _, Eq.trans (World.drewN_drewN _ _ _) (congrArg (World.drewN _) (Nat.add_assoc _ _ _))⟩))); try go_wp2_with (first | (go_at_call 58; (with_reducible refine (impl_within.calls a0_0 1 8 true _ A17.out).mono ?_); rintro e w' ⟨rfl, ⟨nd, rfl⟩⟩; (try first | exact ⟨rfl, _, World.drewN_drewN _ _ _⟩ | exact ⟨rfl, _, Eq.trans (World.drewN_drewN _ _ _) (congrArg (World.drewN _) (Nat.add_assoc _ _ _))⟩))))
     go_ret
     exact ⟨er_, hbs_⟩
    ·replace c18 := Bool.eq_false_iff.mpr c18
     subst c18
     have H1 : (some false) = some r := by rw [if_neg (show ¬ (false = true) by decide)] at H; exact H
     clear H
     have H := H1
     clear H1
     obtain rfl := Option.some.inj H
     have hcz20_0 : wr.cell? ⟨gb270, 0, none⟩ = some (.int .i64 a0_0) := (blk_cell BK270.out 0).trans rfl
     have hcz20_1 : wr.cell? ⟨gb270, 1, none⟩ = some (.slice A0_1 l0_1.length c0_1) := (blk_cell BK270.out 1).trans rfl
     have hfz20_0 := blk_frozen BK270.out 0
     have hfz20_1 := blk_frozen BK270.out 1
     go_wp2_with (first | (go_at_call 58; (with_reducible refine (impl_within.calls a0_0 1 8 false _ A17.out).mono ?_); rintro e w' ⟨rfl, ⟨nd, rfl⟩⟩; (try first | exact ⟨rfl, _, World.drewN_drewN _ _ _⟩ | exact ⟨rfl, _, Eq.trans (World.drewN_drewN _ _ _) (congrArg (World.drewN _) (Nat.add_assoc _ _ _))⟩)))
     repeat (go_quiet (first | (go_at_call 58; (with_reducible refine (impl_within.calls a0_0 1 8 false _ A17.out).mono ?_); rintro e w' ⟨rfl, ⟨nd, rfl⟩⟩; (try first | exact ⟨rfl, _, World.drewN_drewN _ _ _⟩ | exact ⟨rfl, _, Eq.trans (World.drewN_drewN _ _ _) (congrArg (World.drewN _) (Nat.add_assoc _ _ _))⟩))); try go_wp2_with (first | (go_at_call 58; (with_reducible refine (impl_within.calls a0_0 1 8 false _ A17.out).mono ?_); rintro e w' ⟨rfl, ⟨nd, rfl⟩⟩; (try first | exact ⟨rfl, _, World.drewN_drewN _ _ _⟩ | exact ⟨rfl, _, Eq.trans (World.drewN_drewN _ _ _) (congrArg (World.drewN _) (Nat.add_assoc _ _ _))⟩))))
     go_ret
     exact ⟨er_, hbs_⟩

-- NOT PRINTED: function 50 (impl_graphCode)

/-! ### impl_isLength: function 67 -/
def impl_isLength.f (a0 : Int) : Option (Bool) := (impl_within.f a0 1 12).bind fun t277 => (some t277)
set_option maxHeartbeats 8000000 in
set_option maxRecDepth 100000 in
theorem impl_isLength.calls (a0 : Int) (r : Bool) (w : World) (h : impl_isLength.f a0 = some r) :
  Calls Try.prog 67 #[.int .i64 a0] w fun e w' => e = .returned (.bool r) ∧ Drawn0 w w' := by
 have H : ((impl_within.f a0 1 12).bind fun t277 => (some t277)) = some r := h
 clear h
 obtain ⟨t277, A2, H⟩ := bnd_ H
 obtain rfl := Option.some.inj H
 go_enter Try.func67, Try.ntmps67
 go_wp2_with (first | ((with_reducible refine gate_callee (f := 58) rfl ?_); refine goesL_ (some 4) rfl rfl Try.func58 (by kernel_rfl) rfl #[.int .i64 a0, .int .i64 1, .int .i64 12] rfl arg_ ?_; (with_reducible refine (impl_within.calls a0 1 12 t277 _ A2.out).mono ?_); rintro e w' ⟨rfl, ⟨nd, rfl⟩⟩; refine ⟨_, rfl, ?_⟩))
 go_ret
 exact ⟨es_, by repeat (first | exact Drawn0.refl _ | apply Drawn0.step)⟩

-- NOT PRINTED: function 74 (impl_ClosedWalks_1)

/-! ### impl_square: function 95 -/
def impl_square.l0 : Nat → Int → List (List Int) → Int → Int → Option ((List (List Int)))
 | 0, _, _, _, _ => none
 | k + 1, x0, x3, x5, x6 => if x6 < x5 then (if 0 ≤ x0 then (if (x0 : Int).toNat ≤ 35184372088832 then (if x3.length < 5864062014805 then (impl_square.l0 k x0 (x3 ++ [(List.replicate (x0 : Int).toNat 0)]) x5 (wrap64 (x6 + 1))) else (none)) else (none)) else (none)) else (some x3)
def impl_square.f (k : Nat) (a0 : Int) : Option ((List (List Int))) := impl_square.l0 k a0 (([] : List (List Int))) a0 0
set_option maxHeartbeats 8000000 in
set_option maxRecDepth 100000 in
theorem impl_square.calls (k : Nat) (a0 : Int) (r : List (List Int)) (w : World) (h : impl_square.f k a0 = some r) :
  Calls Try.prog 95 #[.int .i64 a0] w fun e w' => ∃ v0_ : Value, e = .returned (v0_) ∧ Kd.S (Kd.slice 2 (Kd.int .i64)) 26 w' w.heap.size (fun _ => True) v0_ r ∧ Below w.heap.size w w' := by
 have HB := Aside0.mk (Below.refl w.heap.size w)
 have H : (impl_square.l0 k a0 (([] : List (List Int))) a0 0) = some r := h
 clear h
 obtain ⟨y278, Ny278, H⟩ : ∃ y278 : List (List Int), Aside0 (y278 = (([] : List (List Int)))) ∧ (impl_square.l0 k a0 y278 a0 0) = some r := ⟨_, ⟨rfl⟩, H⟩
 have H' := Aside0.mk H
 clear H
 go_enter Try.func95, Try.ntmps95
 go_wp2_with (first | ((with_reducible refine gate_dst (N := 4) rfl ?_); refine Kd.S_lit (Kd.slice 2 (Kd.int .i64)) _ 26 ?hg (N := 4) ?hd (xs := ([] : List (List Int))) (inner := []) (ok := fun _ => True) (okp := fun _ => True) ?hr ?hp (fun _ hk => hk) trivial (Below.refl _ _) (Nat.le_refl _) (by simp) ?_; (case hd => rfl); (case hg => rfl); (case hr => first | (go_simp; done) | (go_simp; rfl)); (case hp => exact (Reps.none _ _)); intro v279 w2 ho3 hb hg_ hnew_; clear hg_ hnew_; (first | rw [← Ny278.out] at ho3 | (simp only [Int.reduceToNat] at ho3; rw [← Ny278.out] at ho3)); have HO280 := Aside0.mk (Kd.S_lower ho3 (below_size hb_)); replace HB := Aside0.mk (below_step hb_ hb); clear hb ho3))
 go_loopg [3, 6] k (fun kq v3 v6 w' => ∃ (x3_1 : List (List Int)) (x6_1 : Int), v6 = .int .i64 x6_1 ∧ Aside0 (impl_square.l0 kq a0 x3_1 a0 x6_1 = some r) ∧ Aside0 (kq ≤ k) ∧ Aside0 (Kd.S (Kd.slice 2 (Kd.int .i64)) 26 w' w.heap.size (fun _ => True) v3 x3_1) ∧ Aside0 (Below w.heap.size w w'))
 case atStart => exact ⟨(y278), (0), es_, H', ⟨Nat.le_refl _⟩, ⟨Kd.S_below HO280.out bgo_⟩, ⟨hb_⟩⟩
 case round =>
  clear H'
  obtain ⟨x3_1, x6_1, rfl, HA, HK1, HO_3, HB⟩ := hrel
  cases gk with
  | zero => exact absurd HA.out (by simp [impl_square.l0])
  | succ k1 =>
   have H := HA.out
   clear HA
   simp only [impl_square.l0] at H
   by_cases c4 : x6_1 < a0
   ·rw [if_pos c4] at H
    have c4b0 := decide_eq_true c4
    clear c4
    obtain ⟨c5, H⟩ := itn_ H
    have c5b0 := eq_true c5
    have c5b1 := decide_eq_true c5
    clear c5
    obtain ⟨c6, H⟩ := itn_ H
    have c6b0 := eq_true c6
    have c6b1 := decide_eq_true c6
    clear c6
    obtain ⟨y281, Ny281, H⟩ : ∃ y281 : List Int, Aside0 (y281 = (List.replicate (a0 : Int).toNat 0)) ∧ (if x3_1.length < 5864062014805 then (impl_square.l0 k1 a0 (x3_1 ++ [y281]) a0 (wrap64 (x6_1 + 1))) else (none)) = some r := ⟨_, ⟨rfl⟩, H⟩
    obtain ⟨c7, H⟩ := itn_ H
    have LMc7 := Aside0.mk c7
    clear c7
    obtain ⟨y284, Ny284, H⟩ : ∃ y284 : List (List Int), Aside0 (y284 = (x3_1 ++ [y281])) ∧ (impl_square.l0 k1 a0 y284 a0 (wrap64 (x6_1 + 1))) = some r := ⟨_, ⟨rfl⟩, H⟩
    have H' := Aside0.mk H
    clear H
    go_wp2_with (first | ((with_reducible refine gate_dst (N := 10) rfl ?_); refine Kd.R_make (Kd.int .i64) _ 2 rfl (N := 10) rfl 26 _ _ rfl a0 rfl rfl Try.underlying26 (.int .i64 0) 8 info2 rfl (by decide) (by omega) 0 (ok := fun _ => True) (okp := fun _ => True) rfl (fun _ hk => hk) trivial (od_) (Nat.le_trans (Nat.mul_le_mul_right _ (od_ : a0.toNat ≤ 35184372088832)) (by omega)) (Below.refl _ _) (Nat.le_refl _) ?_; intro v282 w8 ho9 hb hg_ hnew_; clear hg_ hnew_; (first | rw [← Ny281.out] at ho9 | (simp only [Int.reduceToNat] at ho9; rw [← Ny281.out] at ho9)); replace HO_3 := Aside0.mk (Kd.S_elder' (Kd.S_below HO_3.out bgo_) (Kd.R_base ho9) hb); have HO283 := Aside0.mk (Kd.R_lower ho9 (below_size hb_)); replace HB := Aside0.mk (below_step hb_ hb); clear hb ho9; obtain ⟨Ao11, co11, eo11⟩ := Kd.R_slice HO283.out; subst eo11) | ((with_reducible refine gate_builtin (b := .append) (xs := #[.tmp 8, .tmp 11]) rfl ?_); at_builtin; refine Kd.S_append (Kd.slice 2 (Kd.int .i64)) (w0 := w) w.heap.size rfl (.tmp 8) (.tmp 11) 22 26 (.slice none 0 0) 24 rfl Try.underlying22 info26 rfl (by decide) (by omega) u3 x3_1 y281 [.slice Ao11 y281.length co11] (fun _ => True) (fun k_ => some k_ = (.slice Ao11 y281.length co11 : Value).ownBlock) rfl rfl ?aP (fun k_ hk_ => ((Kd.R_mono (ok' := fun k_ => ((fun _ => True)) k_ ∧ some k_ ≠ (u3 : Value).ownBlock) (Kd.R_apart' (HO283.out) (Kd.S_typed HO_3.out) (by decide)) (fun k_ hk => ⟨trivial, hk.2⟩))).1 k_ hk_.symm) ?aF ?aO ?aB ?aS ?aL ?_; (case aP => exact Kd.M_row (Kd.R_mono (Kd.R_tight rfl (Kd.R_mono (ok' := fun k_ => ((fun _ => True)) k_ ∧ some k_ ≠ (u3 : Value).ownBlock) (Kd.R_apart' (HO283.out) (Kd.S_typed HO_3.out) (by decide)) (fun k_ hk => ⟨trivial, hk.2⟩))) (fun _ h_ => h_))); (case aB => exact hb_); (case aF => exact (fun _ _ => trivial)); (case aO => exact (by (with_reducible repeat (first | apply Kd.S_alloc | apply Kd.S_drewN | apply Kd.S_drew)); exact Kd.S_mono HO_3.out (fun k_ hk => ⟨trivial, fun e_ => hk.2 e_⟩))); (case aS => exact (below_size hb_)); (case aL => have := LMc7.out; omega); intro v285 w10 ho hb hg hat; rw [← Ny284.out] at ho; replace HB := Aside0.mk (hb); have HO286 := Aside0.mk (ho); clear HO_3 HO283; clear ho hb hg hat))
    first | go_roundg k1 | (refine Handed.intro k1 ?measure ?_; rotate_left; go_step; (try simp only [add_plain]); (repeat apply Exists.intro); refine ⟨?rel, rfl⟩)
    case measure => have := HK1.out; omega
    case rel => exact ⟨(y284), (wrap64 (x6_1 + 1)), es_, H', ⟨by have := HK1.out; omega⟩, ⟨Kd.S_below HO286.out bgo_⟩, ⟨hb_⟩⟩
   ·rw [if_neg c4] at H
    have c4b0 := decide_eq_false c4
    clear c4
    obtain rfl := Option.some.inj H
    go_wp2
    go_ret
    exact ⟨_, er_, (Kd.S_below HO_3.out bgo_), hb_⟩

end Go.Proofs.Ytipigagbgpoecaa.G
