/- The printed functions that this law reaches, and their contracts: part 3. -/
-- printed by this repo's wip/printer out of the kit's print with its own changes
import Derived.Test.YtkadhadceongiaaC2
namespace Go.Proofs.Ytkadhadceongiaa.G
open Go.RowKit Go.Proofs.YtkadhadceongiaaW.PrintWords Go.Proofs.YtkadhadceongiaaW.PrintLast Go.Proofs.YtkadhadceongiaaW.PrintMore
attribute [local go_sem] max2_int min2_int max_two min_two max_three min_three max_four min_four   -- for this text's walks alone
set_option linter.unusedVariables false
set_option linter.unusedSimpArgs false

/-! ### spec_l01Berkowitz: function 179 -/
mutual
def spec_l01Berkowitz.l0 : Nat → List (List Int) → List Int → Int → Option (List Int)
 | 0, _, _, _ => none
 | k + 1, x0, x3, x4 => if x4 < (x0.length : Int) then (if 0 ≤ x4 then (if x4 < ((rd_L2 x0 x4).length : Int) then (spec_l01Berkowitz.l1 k x0 x3 x4 (([1, wrap64 (-(rd (rd_L2 x0 x4) x4))] : List Int)) (([] : List Int)) 0) else (none)) else (none)) else ((spec_l01Trim.f k x3).bind fun t605 => (some t605))
def spec_l01Berkowitz.l1 : Nat → List (List Int) → List Int → Int → List Int → List Int → Int → Option (List Int)
 | 0, _, _, _, _, _, _ => none
 | k + 1, x0, x3, x4, x5, x6, x7 => if x7 < x4 then (if 0 ≤ x7 then (if x7 < (x0.length : Int) then (if 0 ≤ x4 then (if x4 < ((rd_L2 x0 x7).length : Int) then (if x6.length < 17592186044416 then (spec_l01Berkowitz.l1 k x0 x3 x4 x5 (x6 ++ [rd (rd_L2 x0 x7) x4]) (wrap64 (x7 + 1))) else (none)) else (none)) else (none)) else (none)) else (none)) else (spec_l01Berkowitz.l2 k x0 x3 x4 x5 x6 0)
def spec_l01Berkowitz.l2 : Nat → List (List Int) → List Int → Int → List Int → List Int → Int → Option (List Int)
 | 0, _, _, _, _, _, _ => none
 | k + 1, x0, x3, x4, x5, x6, x8 => if x8 < x4 then (spec_l01Berkowitz.l3 k x0 x3 x4 x5 x6 x8 0 (([] : List Int)) 0) else (if 0 ≤ (wrap64 (x4 + 2)) then (if (wrap64 (x4 + 2) : Int).toNat ≤ 35184372088832 then (spec_l01Berkowitz.l5 k x0 x3 x4 x5 (List.replicate (wrap64 (x4 + 2) : Int).toNat 0) 0) else (none)) else (none))
def spec_l01Berkowitz.l3 : Nat → List (List Int) → List Int → Int → List Int → List Int → Int → Int → List Int → Int → Option (List Int)
 | 0, _, _, _, _, _, _, _, _, _ => none
 | k + 1, x0, x3, x4, x5, x6, x8, x9, x10, x11 => if x11 < x4 then (if 0 ≤ x4 then (if x4 < (x0.length : Int) then (if 0 ≤ x11 then (if x11 < ((rd_L2 x0 x4).length : Int) then (if x11 < (x6.length : Int) then (spec_l01Berkowitz.l4 k x0 x3 x4 x5 x6 x8 (wrap64 (x9 + (wrap64 ((rd (rd_L2 x0 x4) x11) * (rd x6 x11))))) x10 x11 0 0) else (none)) else (none)) else (none)) else (none)) else (none)) else (if x5.length < 17592186044416 then (spec_l01Berkowitz.l2 k x0 x3 x4 (x5 ++ [wrap64 (-x9)]) x10 (wrap64 (x8 + 1))) else (none))
def spec_l01Berkowitz.l4 : Nat → List (List Int) → List Int → Int → List Int → List Int → Int → Int → List Int → Int → Int → Int → Option (List Int)
 | 0, _, _, _, _, _, _, _, _, _, _, _ => none
 | k + 1, x0, x3, x4, x5, x6, x8, x9, x10, x11, x12, x13 => if x13 < x4 then (if 0 ≤ x11 then (if x11 < (x0.length : Int) then (if 0 ≤ x13 then (if x13 < ((rd_L2 x0 x11).length : Int) then (if x13 < (x6.length : Int) then (spec_l01Berkowitz.l4 k x0 x3 x4 x5 x6 x8 x9 x10 x11 (wrap64 (x12 + (wrap64 ((rd (rd_L2 x0 x11) x13) * (rd x6 x13))))) (wrap64 (x13 + 1))) else (none)) else (none)) else (none)) else (none)) else (none)) else (if x10.length < 17592186044416 then (spec_l01Berkowitz.l3 k x0 x3 x4 x5 x6 x8 x9 (x10 ++ [x12]) (wrap64 (x11 + 1))) else (none))
def spec_l01Berkowitz.l5 : Nat → List (List Int) → List Int → Int → List Int → List Int → Int → Option (List Int)
 | 0, _, _, _, _, _, _ => none
 | k + 1, x0, x3, x4, x5, x14, x15 => if x15 < (x14.length : Int) then (spec_l01Berkowitz.l6 k x0 x3 x4 x5 x14 x15 0) else (spec_l01Berkowitz.l0 k x0 x14 (wrap64 (x4 + 1)))
def spec_l01Berkowitz.l6 : Nat → List (List Int) → List Int → Int → List Int → List Int → Int → Int → Option (List Int)
 | 0, _, _, _, _, _, _, _ => none
 | k + 1, x0, x3, x4, x5, x14, x15, x16 => if x16 < (x3.length : Int) then (if x16 ≤ x15 then (if 0 ≤ x15 then (if x15 < (x14.length : Int) then (if 0 ≤ (wrap64 (x15 - x16)) then (if (wrap64 (x15 - x16)) < (x5.length : Int) then (if 0 ≤ x16 then (spec_l01Berkowitz.l6 k x0 x3 x4 x5 (x14.set (x15 : Int).toNat (wrap64 ((rd x14 x15) + (wrap64 ((rd x5 (wrap64 (x15 - x16))) * (rd x3 x16)))))) x15 (wrap64 (x16 + 1))) else (none)) else (none)) else (none)) else (none)) else (none)) else (spec_l01Berkowitz.l5 k x0 x3 x4 x5 x14 (wrap64 (x15 + 1)))) else (spec_l01Berkowitz.l5 k x0 x3 x4 x5 x14 (wrap64 (x15 + 1)))
end
def spec_l01Berkowitz.f (k : Nat) (l0 : List (List Int)) : Option (List Int) := spec_l01Berkowitz.l0 k l0 (([1] : List Int)) 0
def spec_l01Berkowitz.T17 : Bool × List (List Nat × List Nat) := (true, [([], []), ([], []), ([], []), ([1, 2], [1, 2]), ([3], [3]), ([], []), ([4, 5], [4, 5]), ([6], [6]), ([], []), ([], []), ([8, 9], [8, 9]), ([10], [10]), ([7, 11], [7, 11]), ([0, 12], [0, 12]), ([13, 0, 1, 2, 3, 4, 5, 6, 7, 8, 9, 10, 11, 12, 13], [0, 13])])
def spec_l01Berkowitz.B17 : List Nat := [0, 0, 0, 6, 14, 0, 62, 126, 0, 0, 768, 1792, 4094, 8191, 16383]
theorem spec_l01Berkowitz.tab17 : rtab .any (opsOf Try.f179 17) = spec_l01Berkowitz.T17 := by kernel_rfl
theorem spec_l01Berkowitz.bits17 : waitsOk spec_l01Berkowitz.T17.2 spec_l01Berkowitz.B17 = true := by kernel_rfl
def spec_l01Berkowitz.T22 : Bool × List (List Nat × List Nat) := (true, [([], []), ([], []), ([], []), ([1, 2], [1, 2]), ([3], [3]), ([], []), ([4, 5], [4, 5]), ([6], [6]), ([], []), ([], []), ([8, 9], [8, 9]), ([10], [10]), ([7, 11], [7, 11]), ([0, 12], [0, 12]), ([13, 0, 1, 2, 3, 4, 5, 6, 7, 8, 9, 10, 11, 12, 13], [0, 13])])
def spec_l01Berkowitz.B22 : List Nat := [0, 0, 0, 6, 14, 0, 62, 126, 0, 0, 768, 1792, 4094, 8191, 16383]
theorem spec_l01Berkowitz.tab22 : rtab .any (opsOf Try.f179 22) = spec_l01Berkowitz.T22 := by kernel_rfl
theorem spec_l01Berkowitz.bits22 : waitsOk spec_l01Berkowitz.T22.2 spec_l01Berkowitz.B22 = true := by kernel_rfl
def spec_l01Berkowitz.T33 : Bool × List (List Nat × List Nat) := (true, [([], []), ([], []), ([], []), ([], []), ([2, 3], [2, 3]), ([4], [4]), ([], []), ([], []), ([], []), ([7, 8], [7, 8]), ([6, 9], [6, 9]), ([10], [10]), ([], []), ([], []), ([12, 13], [12, 13]), ([14], [14]), ([11, 15], [11, 15]), ([5, 16], [5, 16]), ([0, 1, 0, 1, 2, 3, 4, 5, 6, 7, 8, 9, 10, 11, 12, 13, 14, 15, 16, 17], [0, 1]), ([18, 17, 0, 1, 2, 3, 4, 5, 6, 7, 8, 9, 10, 11, 12, 13, 14, 15, 16, 17], [17, 18])])
def spec_l01Berkowitz.B33 : List Nat := [0, 0, 0, 0, 12, 28, 0, 0, 0, 384, 960, 1984, 0, 0, 12288, 28672, 65472, 131068, 262143, 524287]
theorem spec_l01Berkowitz.tab33 : rtab .any (opsOf Try.f179 33) = spec_l01Berkowitz.T33 := by kernel_rfl
theorem spec_l01Berkowitz.bits33 : waitsOk spec_l01Berkowitz.T33.2 spec_l01Berkowitz.B33 = true := by kernel_rfl
set_option maxHeartbeats 8000000 in
set_option maxRecDepth 100000 in
theorem spec_l01Berkowitz.calls (k : Nat) (A0 : Option Addr) (c0 : Nat) (l0 : List (List Int)) (r : List Int) (w : World) (hr0 : Kd.C (Kd.slice 2 (Kd.int .i64)) w A0 l0.length l0) (hc0 : l0.length ≤ c0) (h : spec_l01Berkowitz.f k l0 = some r) :
  Calls Try.prog 179 #[.slice A0 l0.length c0] w fun e w' => ∃ v0_ : Value, e = .returned (v0_) ∧ Kd.R (Kd.int .i64) 2 w' w.heap.size (fun _ => True) v0_ r ∧ Below w.heap.size w w' := by
 have HR0 := Aside0.mk hr0
 have HC0 := Aside0.mk hc0
 clear hr0 hc0
 have HB := Aside0.mk (Below.refl w.heap.size w)
 have H : (spec_l01Berkowitz.l0 k l0 (([1] : List Int)) 0) = some r := h
 clear h
 obtain ⟨y602, Ny602, H⟩ : ∃ y602 : List Int, Aside0 (y602 = (([1] : List Int))) ∧ (spec_l01Berkowitz.l0 k l0 y602 0) = some r := ⟨_, ⟨rfl⟩, H⟩
 have H' := Aside0.mk H
 clear H
 go_enter Try.func179, Try.ntmps179
 go_wp2_with (first | ((with_reducible refine gate_dst (N := 17) rfl ?_); refine Kd.R_lit (Kd.int .i64) _ 2 ?hg (N := 17) ?hd (xs := ([1] : List Int)) (inner := [.int .i64 1]) (ok := fun _ => True) (okp := fun _ => True) ?hr ?hp (fun _ hk => hk) trivial (Below.refl _ _) (Nat.le_refl _) (by simp) ?_; (case hd => rfl); (case hg => rfl); (case hr => first | (go_simp; done) | (go_simp; rfl)); (case hp => exact (Reps.one (show Kd.M (Kd.int .i64) _ _ _ 1 [.int .i64 1] from rfl) (Reps.none _ _))); intro v603 w2 ho3 hb hg_ hnew_; clear hg_ hnew_; (first | rw [← Ny602.out] at ho3 | (simp only [Int.reduceToNat] at ho3; rw [← Ny602.out] at ho3)); have HO604 := Aside0.mk (Kd.R_lower ho3 (below_size hb_)); replace HB := Aside0.mk (below_step hb_ hb); clear hb ho3))
 go_loopg [3, 4] k (fun kq v3 v4 w' => ∃ (x3_1 : List Int) (x4_1 : Int), v4 = .int .i64 x4_1 ∧ Aside0 (spec_l01Berkowitz.l0 kq l0 x3_1 x4_1 = some r) ∧ Aside0 (kq ≤ k) ∧ Aside0 (Kd.R (Kd.int .i64) 2 w' w.heap.size (fun _ => True) v3 x3_1) ∧ Aside0 (Below w.heap.size w w'))
 case atStart => exact ⟨(y602), (0), es_, H', ⟨Nat.le_refl _⟩, ⟨Kd.R_below HO604.out bgo_⟩, ⟨hb_⟩⟩
 case round =>
  clear H'
  obtain ⟨x3_1, x4_1, rfl, HA, HK1, HO_3, HB⟩ := hrel
  cases gk with
  | zero => exact absurd HA.out (by simp [spec_l01Berkowitz.l0])
  | succ k1 =>
   have H := HA.out
   clear HA
   simp only [spec_l01Berkowitz.l0] at H
   by_cases c4 : x4_1 < (l0.length : Int)
   ·rw [if_pos c4] at H
    have c4b0 := decide_eq_true c4
    clear c4
    obtain ⟨c5, H⟩ := itn_ H
    have c5b0 := decide_eq_true c5
    clear c5
    obtain ⟨c6, H⟩ := itn_ H
    have c6b0 := decide_eq_true c6
    clear c6
    obtain ⟨y610, Ny610, H⟩ : ∃ y610 : List Int, Aside0 (y610 = (([1, wrap64 (-(rd (rd_L2 l0 x4_1) x4_1))] : List Int))) ∧ (spec_l01Berkowitz.l1 k1 l0 x3_1 x4_1 y610 (([] : List Int)) 0) = some r := ⟨_, ⟨rfl⟩, H⟩
    obtain ⟨y613, Ny613, H⟩ : ∃ y613 : List Int, Aside0 (y613 = (([] : List Int))) ∧ (spec_l01Berkowitz.l1 k1 l0 x3_1 x4_1 y610 y613 0) = some r := ⟨_, ⟨rfl⟩, H⟩
    have H' := Aside0.mk H
    clear H
    have p608 : 0 ≤ (x4_1 : Int) := od_
    have q608 : x4_1 < (l0.length : Int) := od_
    obtain ⟨ad608, A608_0, c608_0, e608, hx608_0, hl608_0, hi608_0⟩ := at_L2 HR0.out x4_1 p608 q608
    cases e608
    (try replace hx608_0 := (HB.out.cell (World.block_lt_of_cell? w _ hx608_0)).trans hx608_0)
    have HR608_0 := Aside0.mk hi608_0
    have HC608_0 := Aside0.mk hl608_0
    clear hi608_0 hl608_0
    replace p608 := eq_true p608
    replace q608 := eq_true q608
    have p609 : 0 ≤ (x4_1 : Int) := od_
    have q609 : x4_1 < ((rd_L2 l0 x4_1).length : Int) := od_
    obtain ⟨ad609, e609, hx609_0⟩ := Kd.at_int HR608_0.out x4_1 p609 q609
    cases e609
    (try replace hx609_0 := (HB.out.cell (World.block_lt_of_cell? w _ hx609_0)).trans hx609_0)
    replace p609 := eq_true p609
    replace q609 := eq_true q609
    go_wp2_with (first | ((with_reducible refine gate_dst (N := 32) rfl ?_); refine Kd.R_lit (Kd.int .i64) _ 2 ?hg (N := 32) ?hd (xs := ([1, wrap64 (-(rd (rd_L2 l0 x4_1) x4_1))] : List Int)) (inner := [.int .i64 1, .int .i64 (wrap64 (-(rd (rd_L2 l0 x4_1) x4_1)))]) (ok := fun _ => True) (okp := fun _ => True) ?hr ?hp (fun _ hk => hk) trivial (Below.refl _ _) (Nat.le_refl _) (by simp) ?_; (case hd => rfl); (case hg => rfl); (case hr => first | (go_simp; done) | (go_simp; rfl)); (case hp => exact (Reps.one (show Kd.M (Kd.int .i64) _ _ _ 1 [.int .i64 1] from rfl) (Reps.one (show Kd.M (Kd.int .i64) _ _ _ (wrap64 (-(rd (rd_L2 l0 x4_1) x4_1))) [.int .i64 (wrap64 (-(rd (rd_L2 l0 x4_1) x4_1)))] from rfl) (Reps.none _ _)))); intro v611 w7 ho8 hb hg_ hnew_; clear hg_ hnew_; (first | rw [← Ny610.out] at ho8 | (simp only [Int.reduceToNat] at ho8; rw [← Ny610.out] at ho8)); have HO612 := Aside0.mk (Kd.R_lower (Kd.R_new' ho8 (Kd.R_lt (Kd.R_below HO_3.out bgo_))) (below_size hb_)); replace HO_3 := Aside0.mk (Kd.R_elder' (Kd.R_below HO_3.out bgo_) (Kd.R_base ho8) hb); replace HB := Aside0.mk (below_step hb_ hb); clear hb ho8) | ((with_reducible refine gate_dst (N := 33) rfl ?_); refine Kd.R_lit (Kd.int .i64) _ 2 ?hg (N := 33) ?hd (xs := ([] : List Int)) (inner := []) (ok := fun _ => True) (okp := fun _ => True) ?hr ?hp (fun _ hk => hk) trivial (Below.refl _ _) (Nat.le_refl _) (by simp) ?_; (case hd => rfl); (case hg => rfl); (case hr => first | (go_simp; done) | (go_simp; rfl)); (case hp => exact (Reps.none _ _)); intro v614 w9 ho10 hb hg_ hnew_; clear hg_ hnew_; (first | rw [← Ny613.out] at ho10 | (simp only [Int.reduceToNat] at ho10; rw [← Ny613.out] at ho10)); have HO615 := Aside0.mk (Kd.R_lower (Kd.R_new' (Kd.R_new' ho10 (Kd.R_lt (Kd.R_below HO_3.out bgo_))) (Kd.R_lt (Kd.R_below HO612.out bgo_))) (below_size hb_)); replace HO_3 := Aside0.mk (Kd.R_elder' (Kd.R_below HO_3.out bgo_) (Kd.R_base ho10) hb); replace HO612 := Aside0.mk (Kd.R_elder' (Kd.R_below HO612.out bgo_) (Kd.R_base ho10) hb); replace HB := Aside0.mk (below_step hb_ hb); clear hb ho10))
    go_loopg [6, 7] k1 (fun kq v6 v7 w' => ∃ (x6_2 : List Int) (x7_2 : Int), v7 = .int .i64 x7_2 ∧ Aside0 (spec_l01Berkowitz.l1 kq l0 x3_1 x4_1 y610 x6_2 x7_2 = some r) ∧ Aside0 (kq ≤ k1) ∧ Aside0 (Kd.R (Kd.int .i64) 2 w' w.heap.size (fun k_ => some k_ ≠ (v611 : Value).ownBlock ∧ some k_ ≠ (v6 : Value).ownBlock) u3 x3_1) ∧ Aside0 (Kd.R (Kd.int .i64) 2 w' w.heap.size (fun k_ => some k_ ≠ (u3 : Value).ownBlock ∧ some k_ ≠ (v6 : Value).ownBlock) v611 y610) ∧ Aside0 (Kd.R (Kd.int .i64) 2 w' w.heap.size (fun k_ => some k_ ≠ (u3 : Value).ownBlock ∧ some k_ ≠ (v611 : Value).ownBlock) v6 x6_2) ∧ Aside0 (Below w.heap.size w w'))
    case atStart => exact ⟨(y613), (0), es_, H', ⟨Nat.le_refl _⟩, ⟨by (with_reducible repeat (first | apply Kd.R_alloc | apply Kd.R_drewN | apply Kd.R_drew)); exact Kd.R_mono HO_3.out (fun _ hk => ⟨hk.1.2, hk.2⟩)⟩, ⟨by (with_reducible repeat (first | apply Kd.R_alloc | apply Kd.R_drewN | apply Kd.R_drew)); exact Kd.R_mono HO612.out (fun _ hk => ⟨hk.1.2, hk.2⟩)⟩, ⟨by (with_reducible repeat (first | apply Kd.R_alloc | apply Kd.R_drewN | apply Kd.R_drew)); exact Kd.R_mono HO615.out (fun _ hk => ⟨hk.1.2, hk.2⟩)⟩, ⟨hb_⟩⟩
    case round =>
     clear H'
     obtain ⟨x6_2, x7_2, rfl, HA, HK2, HO_3, HO_5, HO_6, HB⟩ := hrel
     cases gk with
     | zero => exact absurd HA.out (by simp [spec_l01Berkowitz.l1])
     | succ k2 =>
      have H := HA.out
      clear HA
      simp only [spec_l01Berkowitz.l1] at H
      by_cases c11 : x7_2 < x4_1
      ·rw [if_pos c11] at H
       have c11b0 := decide_eq_true c11
       clear c11
       obtain ⟨c12, H⟩ := itn_ H
       have c12b0 := decide_eq_true c12
       clear c12
       obtain ⟨c13, H⟩ := itn_ H
       have c13b0 := decide_eq_true c13
       clear c13
       obtain ⟨c14, H⟩ := itn_ H
       have c14b0 := decide_eq_true c14
       clear c14
       obtain ⟨c15, H⟩ := itn_ H
       have c15b0 := decide_eq_true c15
       clear c15
       obtain ⟨c16, H⟩ := itn_ H
       have LMc16 := Aside0.mk c16
       clear c16
       obtain ⟨y618, Ny618, H⟩ : ∃ y618 : List Int, Aside0 (y618 = (x6_2 ++ [rd (rd_L2 l0 x7_2) x4_1])) ∧ (spec_l01Berkowitz.l1 k2 l0 x3_1 x4_1 y610 y618 (wrap64 (x7_2 + 1))) = some r := ⟨_, ⟨rfl⟩, H⟩
       have H' := Aside0.mk H
       clear H
       have p616 : 0 ≤ (x7_2 : Int) := od_
       have q616 : x7_2 < (l0.length : Int) := od_
       obtain ⟨ad616, A616_0, c616_0, e616, hx616_0, hl616_0, hi616_0⟩ := at_L2 HR0.out x7_2 p616 q616
       obtain rfl : ad608 = ad616 := (by injection e616)
       (try replace hx616_0 := (HB.out.cell (World.block_lt_of_cell? w _ hx616_0)).trans hx616_0)
       have HR616_0 := Aside0.mk hi616_0
       have HC616_0 := Aside0.mk hl616_0
       clear hi616_0 hl616_0
       replace p616 := eq_true p616
       replace q616 := eq_true q616
       have p617 : 0 ≤ (x4_1 : Int) := od_
       have q617 : x4_1 < ((rd_L2 l0 x7_2).length : Int) := od_
       obtain ⟨ad617, e617, hx617_0⟩ := Kd.at_int HR616_0.out x4_1 p617 q617
       cases e617
       (try replace hx617_0 := (HB.out.cell (World.block_lt_of_cell? w _ hx617_0)).trans hx617_0)
       replace p617 := eq_true p617
       replace q617 := eq_true q617
       go_wp2_with (first | ((with_reducible refine gate_builtin (b := .append) (xs := #[.tmp 39, .tmp 47]) rfl ?_); at_builtin; refine Kd.R_append (Kd.int .i64) (w0 := w) w.heap.size rfl (.tmp 39) (.tmp 47) 29 2 (.int .i64 0) 8 rfl Try.underlying29 info2 rfl (by decide) (by omega) u6 x6_2 (rd (rd_L2 l0 x7_2) x4_1) [.int .i64 (rd (rd_L2 l0 x7_2) x4_1)] (fun k_ => some k_ ≠ (u3 : Value).ownBlock ∧ some k_ ≠ (v611 : Value).ownBlock) (fun _ => False) rfl rfl ?aP (fun _ hk => hk.elim) ?aF ?aO ?aB ?aS ?aL ?_; (case aP => exact rfl); (case aB => exact hb_); (case aF => exact (fun k_ hk => ⟨Kd.fresh' (Kd.R_lt (Kd.R_below HO_3.out bgo_)) k_ hk, Kd.fresh' (Kd.R_lt (Kd.R_below HO_5.out bgo_)) k_ hk⟩)); (case aO => exact (Kd.R_below HO_6.out bgo_)); (case aS => exact (below_size hb_)); (case aL => have := LMc16.out; omega); intro v619 w17 ho hb hg hat; rw [← Ny618.out] at ho; replace HO_3 := Aside0.mk (Kd.R_after (ok := (fun k_ => some k_ ≠ (v611 : Value).ownBlock)) (Kd.R_below HO_3.out bgo_) hg hat); replace HO_5 := Aside0.mk (Kd.R_after (ok := (fun k_ => some k_ ≠ (u3 : Value).ownBlock)) (Kd.R_below HO_5.out bgo_) hg hat); replace HB := Aside0.mk (hb); have HO620 := Aside0.mk (ho); clear HO_6; clear ho hb hg hat))
       first | go_roundg k2 | (refine Handed.intro k2 ?measure ?_; rotate_left; go_step; (try simp only [add_plain]); (repeat apply Exists.intro); refine ⟨?rel, rfl⟩)
       case measure => have := HK1.out; have := HK2.out; omega
       case rel => exact ⟨(y618), (wrap64 (x7_2 + 1)), es_, H', ⟨by have := HK1.out; have := HK2.out; omega⟩, ⟨Kd.R_below HO_3.out bgo_⟩, ⟨Kd.R_below HO_5.out bgo_⟩, ⟨Kd.R_below HO620.out bgo_⟩, ⟨hb_⟩⟩
      ·rw [if_neg c11] at H
       have c11b0 := decide_eq_false c11
       clear c11
       have H' := Aside0.mk H
       clear H
       go_wp2
       go_loopg [5, 6, 8] k2 (fun kq v5 v6 v8 w' => ∃ (x5_3 : List Int) (x6_3 : List Int) (x8_3 : Int), v8 = .int .i64 x8_3 ∧ Aside0 (spec_l01Berkowitz.l2 kq l0 x3_1 x4_1 x5_3 x6_3 x8_3 = some r) ∧ Aside0 (kq ≤ k2) ∧ Aside0 (Kd.R (Kd.int .i64) 2 w' w.heap.size (fun k_ => some k_ ≠ (v5 : Value).ownBlock ∧ some k_ ≠ (v6 : Value).ownBlock) u3 x3_1) ∧ Aside0 (Kd.R (Kd.int .i64) 2 w' w.heap.size (fun k_ => some k_ ≠ (u3 : Value).ownBlock ∧ some k_ ≠ (v6 : Value).ownBlock) v5 x5_3) ∧ Aside0 (Kd.R (Kd.int .i64) 2 w' w.heap.size (fun k_ => some k_ ≠ (u3 : Value).ownBlock ∧ some k_ ≠ (v5 : Value).ownBlock) v6 x6_3) ∧ Aside0 (Below w.heap.size w w'))
       case atStart => exact ⟨(y610), (x6_2), (0), es_, H', ⟨Nat.le_refl _⟩, ⟨Kd.R_below HO_3.out bgo_⟩, ⟨Kd.R_below HO_5.out bgo_⟩, ⟨Kd.R_below HO_6.out bgo_⟩, ⟨hb_⟩⟩
       case round =>
        clear H'
        obtain ⟨x5_3, x6_3, x8_3, rfl, HA, HK3, HO_3, HO_5, HO_6, HB⟩ := hrel
        cases gk with
        | zero => exact absurd HA.out (by simp [spec_l01Berkowitz.l2])
        | succ k3 =>
         have H := HA.out
         clear HA
         simp only [spec_l01Berkowitz.l2] at H
         by_cases c18 : x8_3 < x4_1
         ·rw [if_pos c18] at H
          have c18b0 := decide_eq_true c18
          clear c18
          obtain ⟨y621, Ny621, H⟩ : ∃ y621 : List Int, Aside0 (y621 = (([] : List Int))) ∧ (spec_l01Berkowitz.l3 k3 l0 x3_1 x4_1 x5_3 x6_3 x8_3 0 y621 0) = some r := ⟨_, ⟨rfl⟩, H⟩
          have H' := Aside0.mk H
          clear H
          go_wp2_with (first | ((with_reducible refine gate_dst (N := 54) rfl ?_); refine Kd.R_lit (Kd.int .i64) _ 2 ?hg (N := 54) ?hd (xs := ([] : List Int)) (inner := []) (ok := fun _ => True) (okp := fun _ => True) ?hr ?hp (fun _ hk => hk) trivial (Below.refl _ _) (Nat.le_refl _) (by simp) ?_; (case hd => rfl); (case hg => rfl); (case hr => first | (go_simp; done) | (go_simp; rfl)); (case hp => exact (Reps.none _ _)); intro v622 w19 ho20 hb hg_ hnew_; clear hg_ hnew_; (first | rw [← Ny621.out] at ho20 | (simp only [Int.reduceToNat] at ho20; rw [← Ny621.out] at ho20)); have HO623 := Aside0.mk (Kd.R_lower (Kd.R_new' (Kd.R_new' (Kd.R_new' ho20 (Kd.R_lt (Kd.R_below HO_3.out bgo_))) (Kd.R_lt (Kd.R_below HO_5.out bgo_))) (Kd.R_lt (Kd.R_below HO_6.out bgo_))) (below_size hb_)); replace HO_3 := Aside0.mk (Kd.R_elder' (Kd.R_below HO_3.out bgo_) (Kd.R_base ho20) hb); replace HO_5 := Aside0.mk (Kd.R_elder' (Kd.R_below HO_5.out bgo_) (Kd.R_base ho20) hb); replace HO_6 := Aside0.mk (Kd.R_elder' (Kd.R_below HO_6.out bgo_) (Kd.R_base ho20) hb); replace HB := Aside0.mk (below_step hb_ hb); clear hb ho20))
          go_loopg [9, 10, 11] k3 (fun kq v9 v10 v11 w' => ∃ (x9_4 : Int) (x10_4 : List Int) (x11_4 : Int), v9 = .int .i64 x9_4 ∧ v11 = .int .i64 x11_4 ∧ Aside0 (spec_l01Berkowitz.l3 kq l0 x3_1 x4_1 x5_3 x6_3 x8_3 x9_4 x10_4 x11_4 = some r) ∧ Aside0 (kq ≤ k3) ∧ Aside0 (Kd.R (Kd.int .i64) 2 w' w.heap.size (fun k_ => some k_ ≠ (u5 : Value).ownBlock ∧ some k_ ≠ (u6 : Value).ownBlock ∧ some k_ ≠ (v10 : Value).ownBlock) u3 x3_1) ∧ Aside0 (Kd.R (Kd.int .i64) 2 w' w.heap.size (fun k_ => some k_ ≠ (u3 : Value).ownBlock ∧ some k_ ≠ (u6 : Value).ownBlock ∧ some k_ ≠ (v10 : Value).ownBlock) u5 x5_3) ∧ Aside0 (Kd.R (Kd.int .i64) 2 w' w.heap.size (fun k_ => some k_ ≠ (u3 : Value).ownBlock ∧ some k_ ≠ (u5 : Value).ownBlock ∧ some k_ ≠ (v10 : Value).ownBlock) u6 x6_3) ∧ Aside0 (Kd.R (Kd.int .i64) 2 w' w.heap.size (fun k_ => some k_ ≠ (u3 : Value).ownBlock ∧ some k_ ≠ (u5 : Value).ownBlock ∧ some k_ ≠ (u6 : Value).ownBlock) v10 x10_4) ∧ Aside0 (Below w.heap.size w w'))
          case atStart => exact ⟨(0), (y621), (0), es_, es_, H', ⟨Nat.le_refl _⟩, ⟨by (with_reducible repeat (first | apply Kd.R_alloc | apply Kd.R_drewN | apply Kd.R_drew)); exact Kd.R_mono HO_3.out (fun _ hk => ⟨hk.1.1, ⟨hk.1.2, hk.2⟩⟩)⟩, ⟨by (with_reducible repeat (first | apply Kd.R_alloc | apply Kd.R_drewN | apply Kd.R_drew)); exact Kd.R_mono HO_5.out (fun _ hk => ⟨hk.1.1, ⟨hk.1.2, hk.2⟩⟩)⟩, ⟨by (with_reducible repeat (first | apply Kd.R_alloc | apply Kd.R_drewN | apply Kd.R_drew)); exact Kd.R_mono HO_6.out (fun _ hk => ⟨hk.1.1, ⟨hk.1.2, hk.2⟩⟩)⟩, ⟨by (with_reducible repeat (first | apply Kd.R_alloc | apply Kd.R_drewN | apply Kd.R_drew)); exact Kd.R_mono HO623.out (fun _ hk => ⟨hk.1.1.2, ⟨hk.1.2, hk.2⟩⟩)⟩, ⟨hb_⟩⟩
          case round =>
           clear H'
           obtain ⟨x9_4, x10_4, x11_4, rfl, rfl, HA, HK4, HO_3, HO_5, HO_6, HO_10, HB⟩ := hrel
           cases gk with
           | zero => exact absurd HA.out (by simp [spec_l01Berkowitz.l3])
           | succ k4 =>
            have H := HA.out
            clear HA
            simp only [spec_l01Berkowitz.l3] at H
            by_cases c21 : x11_4 < x4_1
            ·rw [if_pos c21] at H
             have c21b0 := decide_eq_true c21
             clear c21
             obtain ⟨c22, H⟩ := itn_ H
             have c22b0 := decide_eq_true c22
             clear c22
             obtain ⟨c23, H⟩ := itn_ H
             have c23b0 := decide_eq_true c23
             clear c23
             obtain ⟨c24, H⟩ := itn_ H
             have c24b0 := decide_eq_true c24
             clear c24
             obtain ⟨c25, H⟩ := itn_ H
             have c25b0 := decide_eq_true c25
             clear c25
             obtain ⟨c26, H⟩ := itn_ H
             have c26b0 := decide_eq_true c26
             clear c26
             have H' := Aside0.mk H
             clear H
             try go_wp2
             have n0_ := Aside0.mk (Kd.R_drew HO_3.out)
             have n1_ := Aside0.mk (Kd.R_drew HO_5.out)
             have n2_ := Aside0.mk (Kd.R_drew HO_6.out)
             have n3_ := Aside0.mk (Kd.R_drew HO_10.out)
             have n4_ := Aside0.mk (below_drew1 HB.out)
             clear HO_3
             clear HO_5
             clear HO_6
             clear HO_10
             clear HB
             have HO_3 := n0_
             have HO_5 := n1_
             have HO_6 := n2_
             have HO_10 := n3_
             have HB := n4_
             clear n0_ n1_ n2_ n3_ n4_
             have p627 : 0 ≤ (x4_1 : Int) := od_
             have q627 : x4_1 < (l0.length : Int) := od_
             obtain ⟨ad627, A627_0, c627_0, e627, hx627_0, hl627_0, hi627_0⟩ := at_L2 HR0.out x4_1 p627 q627
             have hw627_0 := hx627_0
             obtain rfl : ad608 = ad627 := (by injection e627)
             (try replace hx627_0 := (HB.out.cell (World.block_lt_of_cell? w _ hx627_0)).trans hx627_0)
             have HR627_0 := Aside0.mk hi627_0
             have HC627_0 := Aside0.mk hl627_0
             clear hi627_0 hl627_0
             replace p627 := eq_true p627
             replace q627 := eq_true q627
             have p628 : 0 ≤ (x11_4 : Int) := od_
             have q628 : x11_4 < ((rd_L2 l0 x4_1).length : Int) := od_
             obtain ⟨ad628, e628, hx628_0⟩ := Kd.at_int HR627_0.out x11_4 p628 q628
             have hw628_0 := hx628_0
             cases e628
             (try replace hx628_0 := (HB.out.cell (World.block_lt_of_cell? w _ hx628_0)).trans hx628_0)
             replace p628 := eq_true p628
             replace q628 := eq_true q628
             obtain ⟨Ao28, co28, eo28⟩ := Kd.R_slice HO_6.out
             (first | subst eo28 | (injection eo28 with f1_ f2_ f3_; have f4_ := f1_.symm; have f5_ := f3_.symm; clear f1_ f2_ f3_; subst f4_; subst f5_))
             have p629 : 0 ≤ (x11_4 : Int) := od_
             have q629 : x11_4 < (x6_3.length : Int) := od_
             obtain ⟨ad629, e629, hx629_0⟩ := Kd.at_int (Kd.R_reads' HO_6.out).2.2 x11_4 p629 q629
             cases e629
             replace p629 := eq_true p629
             replace q629 := eq_true q629
             refine start_ (n := 15) (S := fun w' => w'.cell? (ad608.add (x4_1).toNat) = some (.slice (some ad628) (rd_L2 l0 x4_1).length c627_0) ∧ w'.cell? (ad628.add (x11_4).toNat) = some (.int .i64 (rd (rd_L2 l0 x4_1) x11_4)) ∧ w'.cell? (ad629.add (x11_4).toNat) = some (.int .i64 (rd x6_3 x11_4))) (ds := []) #[false, false, false, false, false, false, false, false, false, false, false, false, false, false, false] (by kernel_rfl) rfl rfl ⟨((HB.out.cell (World.block_lt_of_cell? _ _ hw627_0)).trans hw627_0), ((HB.out.cell (World.block_lt_of_cell? _ _ hw628_0)).trans hw628_0), hx629_0⟩ (fun hHeld => ?_); refine with_tabW spec_l01Berkowitz.tab17 spec_l01Berkowitz.bits17 (fun HT_ HW_ => ?_)
             generalize wr.drew = w27 at HO_3 HO_5 HO_6 HO_10 HB HR627_0 hx627_0 hx628_0 hx629_0 hHeld ⊢
             refine pk_ 0 15 60 1 ?_
             refine pk_ 1 15 61 3 ?_
             refine pk_ 2 15 62 7 ?_
             refine pk_ 3 15 63 15 ?_
             refine pk_ 5 15 65 47 ?_
             refine pk_ 8 15 68 303 ?_
             refine pk_ 9 15 69 815 ?_
             refine pk_ 10 15 70 1839 ?_
             refine tk_ 4 15 64 1855 hHeld ?_
             refine pk_ 6 15 66 1919 ?_
             refine tk_ 7 15 67 2047 hHeld ?_
             refine tk_ 11 15 71 4095 hHeld ?_
             refine pk_ 12 15 72 8191 ?_
             refine pk_ 13 15 73 16383 ?_
             refine pk_ 14 15 9 32767 ?_
             refine done_ (done_of HT_.out (by kernel_rfl)) ?_
             try go_wp2
             go_loopg [12, 13] k4 (fun kq v12 v13 w' => ∃ (x12_5 : Int) (x13_5 : Int), v12 = .int .i64 x12_5 ∧ v13 = .int .i64 x13_5 ∧ Aside0 (spec_l01Berkowitz.l4 kq l0 x3_1 x4_1 x5_3 x6_3 x8_3 (wrap64 (x9_4 + (wrap64 ((rd (rd_L2 l0 x4_1) x11_4) * (rd x6_3 x11_4))))) x10_4 x11_4 x12_5 x13_5 = some r) ∧ Aside0 (kq ≤ k4) ∧ Aside0 (Kd.R (Kd.int .i64) 2 w' w.heap.size (fun k_ => some k_ ≠ (u5 : Value).ownBlock ∧ some k_ ≠ ((.slice (some ad629) x6_3.length co28) : Value).ownBlock ∧ some k_ ≠ (u10 : Value).ownBlock) u3 x3_1) ∧ Aside0 (Kd.R (Kd.int .i64) 2 w' w.heap.size (fun k_ => some k_ ≠ (u3 : Value).ownBlock ∧ some k_ ≠ ((.slice (some ad629) x6_3.length co28) : Value).ownBlock ∧ some k_ ≠ (u10 : Value).ownBlock) u5 x5_3) ∧ Aside0 (Kd.R (Kd.int .i64) 2 w' w.heap.size (fun k_ => some k_ ≠ (u3 : Value).ownBlock ∧ some k_ ≠ (u5 : Value).ownBlock ∧ some k_ ≠ (u10 : Value).ownBlock) (.slice (some ad629) x6_3.length co28) x6_3) ∧ Aside0 (Kd.R (Kd.int .i64) 2 w' w.heap.size (fun k_ => some k_ ≠ (u3 : Value).ownBlock ∧ some k_ ≠ (u5 : Value).ownBlock ∧ some k_ ≠ ((.slice (some ad629) x6_3.length co28) : Value).ownBlock) u10 x10_4) ∧ Aside0 (Below w.heap.size w w'))
             case atStart => exact ⟨(0), (0), es_, es_, H', ⟨Nat.le_refl _⟩, ⟨Kd.R_below HO_3.out bgo_⟩, ⟨Kd.R_below HO_5.out bgo_⟩, ⟨Kd.R_below HO_6.out bgo_⟩, ⟨Kd.R_below HO_10.out bgo_⟩, ⟨hb_⟩⟩
             case round =>
              clear H'
              obtain ⟨x12_5, x13_5, rfl, rfl, HA, HK5, HO_3, HO_5, HO_6, HO_10, HB⟩ := hrel
              cases gk with
              | zero => exact absurd HA.out (by simp [spec_l01Berkowitz.l4])
              | succ k5 =>
               have H := HA.out
               clear HA
               simp only [spec_l01Berkowitz.l4] at H
               by_cases c29 : x13_5 < x4_1
               ·rw [if_pos c29] at H
                have c29b0 := decide_eq_true c29
                clear c29
                obtain ⟨c30, H⟩ := itn_ H
                have c30b0 := decide_eq_true c30
                clear c30
                obtain ⟨c31, H⟩ := itn_ H
                have c31b0 := decide_eq_true c31
                clear c31
                obtain ⟨c32, H⟩ := itn_ H
                have c32b0 := decide_eq_true c32
                clear c32
                obtain ⟨c33, H⟩ := itn_ H
                have c33b0 := decide_eq_true c33
                clear c33
                obtain ⟨c34, H⟩ := itn_ H
                have c34b0 := decide_eq_true c34
                clear c34
                have H' := Aside0.mk H
                clear H
                try go_wp2
                have n0_ := Aside0.mk (Kd.R_drew HO_3.out)
                have n1_ := Aside0.mk (Kd.R_drew HO_5.out)
                have n2_ := Aside0.mk (Kd.R_drew HO_6.out)
                have n3_ := Aside0.mk (Kd.R_drew HO_10.out)
                have n4_ := Aside0.mk (below_drew1 HB.out)
                clear HO_3
                clear HO_5
                clear HO_6
                clear HO_10
                clear HB
                have HO_3 := n0_
                have HO_5 := n1_
                have HO_6 := n2_
                have HO_10 := n3_
                have HB := n4_
                clear n0_ n1_ n2_ n3_ n4_
                have p630 : 0 ≤ (x11_4 : Int) := od_
                have q630 : x11_4 < (l0.length : Int) := od_
                obtain ⟨ad630, A630_0, c630_0, e630, hx630_0, hl630_0, hi630_0⟩ := at_L2 HR0.out x11_4 p630 q630
                have hw630_0 := hx630_0
                obtain rfl : ad608 = ad630 := (by injection e630)
                (try replace hx630_0 := (HB.out.cell (World.block_lt_of_cell? w _ hx630_0)).trans hx630_0)
                have HR630_0 := Aside0.mk hi630_0
                have HC630_0 := Aside0.mk hl630_0
                clear hi630_0 hl630_0
                replace p630 := eq_true p630
                replace q630 := eq_true q630
                have p631 : 0 ≤ (x13_5 : Int) := od_
                have q631 : x13_5 < ((rd_L2 l0 x11_4).length : Int) := od_
                obtain ⟨ad631, e631, hx631_0⟩ := Kd.at_int HR630_0.out x13_5 p631 q631
                have hw631_0 := hx631_0
                cases e631
                (try replace hx631_0 := (HB.out.cell (World.block_lt_of_cell? w _ hx631_0)).trans hx631_0)
                replace p631 := eq_true p631
                replace q631 := eq_true q631
                have p632 : 0 ≤ (x13_5 : Int) := od_
                have q632 : x13_5 < (x6_3.length : Int) := od_
                obtain ⟨ad632, e632, hx632_0⟩ := Kd.at_int (Kd.R_reads' HO_6.out).2.2 x13_5 p632 q632
                obtain rfl : ad629 = ad632 := (by injection e632)
                replace p632 := eq_true p632
                replace q632 := eq_true q632
                refine start_ (n := 15) (S := fun w' => w'.cell? (ad608.add (x11_4).toNat) = some (.slice (some ad631) (rd_L2 l0 x11_4).length c630_0) ∧ w'.cell? (ad631.add (x13_5).toNat) = some (.int .i64 (rd (rd_L2 l0 x11_4) x13_5)) ∧ w'.cell? (ad629.add (x13_5).toNat) = some (.int .i64 (rd x6_3 x13_5))) (ds := []) #[false, false, false, false, false, false, false, false, false, false, false, false, false, false, false] (by kernel_rfl) rfl rfl ⟨((HB.out.cell (World.block_lt_of_cell? _ _ hw630_0)).trans hw630_0), ((HB.out.cell (World.block_lt_of_cell? _ _ hw631_0)).trans hw631_0), hx632_0⟩ (fun hHeld => ?_); refine with_tabW spec_l01Berkowitz.tab22 spec_l01Berkowitz.bits22 (fun HT_ HW_ => ?_)
                generalize wr.drew = w35 at HO_3 HO_5 HO_6 HO_10 HB HR630_0 hx630_0 hx631_0 hx632_0 hHeld ⊢
                refine pk_ 0 15 79 1 ?_
                refine pk_ 1 15 80 3 ?_
                refine pk_ 2 15 81 7 ?_
                refine pk_ 3 15 82 15 ?_
                refine pk_ 5 15 84 47 ?_
                refine pk_ 8 15 87 303 ?_
                refine pk_ 9 15 88 815 ?_
                refine pk_ 10 15 89 1839 ?_
                refine tk_ 4 15 83 1855 hHeld ?_
                refine pk_ 6 15 85 1919 ?_
                refine tk_ 7 15 86 2047 hHeld ?_
                refine tk_ 11 15 90 4095 hHeld ?_
                refine pk_ 12 15 91 8191 ?_
                refine pk_ 13 15 92 16383 ?_
                refine pk_ 14 15 12 32767 ?_
                refine done_ (done_of HT_.out (by kernel_rfl)) ?_
                try go_wp2
                first | go_roundg k5 | (refine Handed.intro k5 ?measure ?_; rotate_left; go_step; (try simp only [add_plain]); (repeat apply Exists.intro); refine ⟨?rel, rfl⟩)
                case measure => have := HK1.out; have := HK2.out; have := HK3.out; have := HK4.out; have := HK5.out; omega
                case rel => exact ⟨(wrap64 (x12_5 + (wrap64 ((rd (rd_L2 l0 x11_4) x13_5) * (rd x6_3 x13_5))))), (wrap64 (x13_5 + 1)), es_, es_, H', ⟨by have := HK1.out; have := HK2.out; have := HK3.out; have := HK4.out; have := HK5.out; omega⟩, ⟨Kd.R_below HO_3.out bgo_⟩, ⟨Kd.R_below HO_5.out bgo_⟩, ⟨Kd.R_below HO_6.out bgo_⟩, ⟨Kd.R_below HO_10.out bgo_⟩, ⟨hb_⟩⟩
               ·rw [if_neg c29] at H
                have c29b0 := decide_eq_false c29
                clear c29
                obtain ⟨c36, H⟩ := itn_ H
                have LMc36 := Aside0.mk c36
                clear c36
                obtain ⟨y633, Ny633, H⟩ : ∃ y633 : List Int, Aside0 (y633 = (x10_4 ++ [x12_5])) ∧ (spec_l01Berkowitz.l3 k5 l0 x3_1 x4_1 x5_3 x6_3 x8_3 (wrap64 (x9_4 + (wrap64 ((rd (rd_L2 l0 x4_1) x11_4) * (rd x6_3 x11_4))))) y633 (wrap64 (x11_4 + 1))) = some r := ⟨_, ⟨rfl⟩, H⟩
                have H' := Aside0.mk H
                clear H
                go_wp2_with (first | ((with_reducible refine gate_builtin (b := .append) (xs := #[.tmp 93, .tmp 95]) rfl ?_); at_builtin; refine Kd.R_append (Kd.int .i64) (w0 := w) w.heap.size rfl (.tmp 93) (.tmp 95) 29 2 (.int .i64 0) 8 rfl Try.underlying29 info2 rfl (by decide) (by omega) u10 x10_4 x12_5 [.int .i64 x12_5] (fun k_ => some k_ ≠ (u3 : Value).ownBlock ∧ some k_ ≠ (u5 : Value).ownBlock ∧ some k_ ≠ (.slice (some ad629) x6_3.length co28 : Value).ownBlock) (fun _ => False) rfl rfl ?aP (fun _ hk => hk.elim) ?aF ?aO ?aB ?aS ?aL ?_; (case aP => exact rfl); (case aB => exact hb_); (case aF => exact (fun k_ hk => ⟨Kd.fresh' (Kd.R_lt (Kd.R_below HO_3.out bgo_)) k_ hk, Kd.fresh' (Kd.R_lt (Kd.R_below HO_5.out bgo_)) k_ hk, Kd.fresh' (Kd.R_lt (Kd.R_below HO_6.out bgo_)) k_ hk⟩)); (case aO => exact (Kd.R_below HO_10.out bgo_)); (case aS => exact (below_size hb_)); (case aL => have := LMc36.out; omega); intro v634 w37 ho hb hg hat; rw [← Ny633.out] at ho; replace HO_3 := Aside0.mk (Kd.R_after (ok := (fun k_ => some k_ ≠ (u5 : Value).ownBlock ∧ some k_ ≠ (.slice (some ad629) x6_3.length co28 : Value).ownBlock)) (by (with_reducible repeat (first | apply Kd.R_alloc | apply Kd.R_drewN | apply Kd.R_drew)); exact Kd.R_mono HO_3.out (fun _ hk => ⟨⟨hk.1, hk.2.1⟩, hk.2.2⟩)) hg hat); replace HO_5 := Aside0.mk (Kd.R_after (ok := (fun k_ => some k_ ≠ (u3 : Value).ownBlock ∧ some k_ ≠ (.slice (some ad629) x6_3.length co28 : Value).ownBlock)) (by (with_reducible repeat (first | apply Kd.R_alloc | apply Kd.R_drewN | apply Kd.R_drew)); exact Kd.R_mono HO_5.out (fun _ hk => ⟨⟨hk.1, hk.2.1⟩, hk.2.2⟩)) hg hat); replace HO_6 := Aside0.mk (Kd.R_after (ok := (fun k_ => some k_ ≠ (u3 : Value).ownBlock ∧ some k_ ≠ (u5 : Value).ownBlock)) (by (with_reducible repeat (first | apply Kd.R_alloc | apply Kd.R_drewN | apply Kd.R_drew)); exact Kd.R_mono HO_6.out (fun _ hk => ⟨⟨hk.1, hk.2.1⟩, hk.2.2⟩)) hg hat); replace HB := Aside0.mk (hb); have HO635 := Aside0.mk (ho); clear HO_10; clear ho hb hg hat))
                first | go_roundg k5 | (refine Handed.intro k5 ?measure ?_; rotate_left; go_step; (try simp only [add_plain]); (repeat apply Exists.intro); refine ⟨?rel, rfl⟩)
                case measure => have := HK1.out; have := HK2.out; have := HK3.out; have := HK4.out; have := HK5.out; omega
                case rel => exact ⟨((wrap64 (x9_4 + (wrap64 ((rd (rd_L2 l0 x4_1) x11_4) * (rd x6_3 x11_4)))))), (y633), (wrap64 (x11_4 + 1)), es_, es_, H', ⟨by have := HK1.out; have := HK2.out; have := HK3.out; have := HK4.out; have := HK5.out; omega⟩, ⟨by (with_reducible repeat (first | apply Kd.R_alloc | apply Kd.R_drewN | apply Kd.R_drew)); exact Kd.R_mono HO_3.out (fun _ hk => ⟨hk.1.1, ⟨hk.1.2, hk.2⟩⟩)⟩, ⟨by (with_reducible repeat (first | apply Kd.R_alloc | apply Kd.R_drewN | apply Kd.R_drew)); exact Kd.R_mono HO_5.out (fun _ hk => ⟨hk.1.1, ⟨hk.1.2, hk.2⟩⟩)⟩, ⟨by (with_reducible repeat (first | apply Kd.R_alloc | apply Kd.R_drewN | apply Kd.R_drew)); exact Kd.R_mono HO_6.out (fun _ hk => ⟨hk.1.1, ⟨hk.1.2, hk.2⟩⟩)⟩, ⟨Kd.R_below HO635.out bgo_⟩, ⟨hb_⟩⟩
            ·rw [if_neg c21] at H
             have c21b0 := decide_eq_false c21
             clear c21
             obtain ⟨c38, H⟩ := itn_ H
             have LMc38 := Aside0.mk c38
             clear c38
             obtain ⟨y624, Ny624, H⟩ : ∃ y624 : List Int, Aside0 (y624 = (x5_3 ++ [wrap64 (-x9_4)])) ∧ (spec_l01Berkowitz.l2 k4 l0 x3_1 x4_1 y624 x10_4 (wrap64 (x8_3 + 1))) = some r := ⟨_, ⟨rfl⟩, H⟩
             have H' := Aside0.mk H
             clear H
             go_wp2_with (first | ((with_reducible refine gate_builtin (b := .append) (xs := #[.tmp 97, .tmp 100]) rfl ?_); at_builtin; refine Kd.R_append (Kd.int .i64) (w0 := w) w.heap.size rfl (.tmp 97) (.tmp 100) 29 2 (.int .i64 0) 8 rfl Try.underlying29 info2 rfl (by decide) (by omega) u5 x5_3 (wrap64 (-x9_4)) [.int .i64 (wrap64 (-x9_4))] (fun k_ => some k_ ≠ (u3 : Value).ownBlock ∧ some k_ ≠ (u6 : Value).ownBlock ∧ some k_ ≠ (u10 : Value).ownBlock) (fun _ => False) rfl rfl ?aP (fun _ hk => hk.elim) ?aF ?aO ?aB ?aS ?aL ?_; (case aP => exact rfl); (case aB => exact hb_); (case aF => exact (fun k_ hk => ⟨Kd.fresh' (Kd.R_lt (Kd.R_below HO_3.out bgo_)) k_ hk, Kd.fresh' (Kd.R_lt (Kd.R_below HO_6.out bgo_)) k_ hk, Kd.fresh' (Kd.R_lt (Kd.R_below HO_10.out bgo_)) k_ hk⟩)); (case aO => exact (Kd.R_below HO_5.out bgo_)); (case aS => exact (below_size hb_)); (case aL => have := LMc38.out; omega); intro v625 w39 ho hb hg hat; rw [← Ny624.out] at ho; replace HO_3 := Aside0.mk (Kd.R_after (ok := (fun k_ => some k_ ≠ (u6 : Value).ownBlock ∧ some k_ ≠ (u10 : Value).ownBlock)) (by (with_reducible repeat (first | apply Kd.R_alloc | apply Kd.R_drewN | apply Kd.R_drew)); exact Kd.R_mono HO_3.out (fun _ hk => ⟨⟨hk.2.1, hk.2.2⟩, hk.1⟩)) hg hat); replace HO_6 := Aside0.mk (Kd.R_after (ok := (fun k_ => some k_ ≠ (u3 : Value).ownBlock ∧ some k_ ≠ (u10 : Value).ownBlock)) (by (with_reducible repeat (first | apply Kd.R_alloc | apply Kd.R_drewN | apply Kd.R_drew)); exact Kd.R_mono HO_6.out (fun _ hk => ⟨⟨hk.1, hk.2.2⟩, hk.2.1⟩)) hg hat); replace HO_10 := Aside0.mk (Kd.R_after (ok := (fun k_ => some k_ ≠ (u3 : Value).ownBlock ∧ some k_ ≠ (u6 : Value).ownBlock)) (by (with_reducible repeat (first | apply Kd.R_alloc | apply Kd.R_drewN | apply Kd.R_drew)); exact Kd.R_mono HO_10.out (fun _ hk => ⟨⟨hk.1, hk.2.2⟩, hk.2.1⟩)) hg hat); replace HB := Aside0.mk (hb); have HO626 := Aside0.mk (ho); clear HO_5; clear ho hb hg hat))
             first | go_roundg k4 | (refine Handed.intro k4 ?measure ?_; rotate_left; go_step; (try simp only [add_plain]); (repeat apply Exists.intro); refine ⟨?rel, rfl⟩)
             case measure => have := HK1.out; have := HK2.out; have := HK3.out; have := HK4.out; omega
             case rel => exact ⟨(y624), (x10_4), (wrap64 (x8_3 + 1)), es_, H', ⟨by have := HK1.out; have := HK2.out; have := HK3.out; have := HK4.out; omega⟩, ⟨by (with_reducible repeat (first | apply Kd.R_alloc | apply Kd.R_drewN | apply Kd.R_drew)); exact Kd.R_mono HO_3.out (fun _ hk => ⟨hk.2, hk.1.2⟩)⟩, ⟨by (with_reducible repeat (first | apply Kd.R_alloc | apply Kd.R_drewN | apply Kd.R_drew)); exact Kd.R_mono HO626.out (fun _ hk => ⟨hk.1, hk.2.2⟩)⟩, ⟨by (with_reducible repeat (first | apply Kd.R_alloc | apply Kd.R_drewN | apply Kd.R_drew)); exact Kd.R_mono HO_10.out (fun _ hk => ⟨hk.1.1, hk.2⟩)⟩, ⟨hb_⟩⟩
         ·rw [if_neg c18] at H
          have c18b0 := decide_eq_false c18
          clear c18
          obtain ⟨ji40, hji40⟩ : ∃ j_ : Int, (wrap64 (x4_1 + 2)) = j_ := ⟨_, rfl⟩
          (try rw [hji40])
          replace H : (if 0 ≤ (ji40) then (if (ji40 : Int).toNat ≤ 35184372088832 then (spec_l01Berkowitz.l5 k3 l0 x3_1 x4_1 x5_3 (List.replicate (ji40 : Int).toNat 0) 0) else (none)) else (none)) = some r := by first | (rw [hji40] at H; exact H) | (simp only [hji40] at H ⊢; exact H)
          have hji40w : (IntKind.i64.wrap (x4_1 + 2)) = ji40 := (i64_w _).trans hji40
          obtain ⟨c41, H⟩ := itn_ H
          have c41b0 := eq_true c41
          have c41b1 := decide_eq_true c41
          clear c41
          obtain ⟨c42, H⟩ := itn_ H
          have c42b0 := eq_true c42
          have c42b1 := decide_eq_true c42
          clear c42
          obtain ⟨y636, Ny636, H⟩ : ∃ y636 : List Int, Aside0 (y636 = (List.replicate (ji40 : Int).toNat 0)) ∧ (spec_l01Berkowitz.l5 k3 l0 x3_1 x4_1 x5_3 y636 0) = some r := ⟨_, ⟨rfl⟩, H⟩
          have H' := Aside0.mk H
          clear H
          go_wp2_with (first | ((with_reducible refine gate_dst (N := 105) rfl ?_); refine Kd.R_make (Kd.int .i64) _ 2 rfl (N := 105) rfl 29 _ _ rfl ji40 rfl rfl Try.underlying29 (.int .i64 0) 8 info2 rfl (by decide) (by omega) 0 (ok := fun _ => True) (okp := fun _ => True) rfl (fun _ hk => hk) trivial (od_) (Nat.le_trans (Nat.mul_le_mul_right _ (od_ : ji40.toNat ≤ 35184372088832)) (by omega)) (Below.refl _ _) (Nat.le_refl _) ?_; intro v637 w43 ho44 hb hg_ hnew_; clear hg_ hnew_; (first | rw [← Ny636.out] at ho44 | (simp only [Int.reduceToNat] at ho44; rw [← Ny636.out] at ho44)); have HO638 := Aside0.mk (Kd.R_lower (Kd.R_new' (Kd.R_new' (Kd.R_new' ho44 (Kd.R_lt (Kd.R_below HO_3.out bgo_))) (Kd.R_lt (Kd.R_below HO_5.out bgo_))) (Kd.R_lt (Kd.R_below HO_6.out bgo_))) (below_size hb_)); replace HO_3 := Aside0.mk (Kd.R_elder' (Kd.R_below HO_3.out bgo_) (Kd.R_base ho44) hb); replace HO_5 := Aside0.mk (Kd.R_elder' (Kd.R_below HO_5.out bgo_) (Kd.R_base ho44) hb); replace HO_6 := Aside0.mk (Kd.R_elder' (Kd.R_below HO_6.out bgo_) (Kd.R_base ho44) hb); replace HB := Aside0.mk (below_step hb_ hb); clear hb ho44))
          go_loopg [15] k3 (fun kq v15 w' => ∃ (x14_4 : List Int) (x15_4 : Int), v15 = .int .i64 x15_4 ∧ Aside0 (spec_l01Berkowitz.l5 kq l0 x3_1 x4_1 x5_3 x14_4 x15_4 = some r) ∧ Aside0 (kq ≤ k3) ∧ Aside0 (Kd.R (Kd.int .i64) 2 w' w.heap.size (fun k_ => some k_ ≠ (u5 : Value).ownBlock ∧ some k_ ≠ (v637 : Value).ownBlock) u3 x3_1) ∧ Aside0 (Kd.R (Kd.int .i64) 2 w' w.heap.size (fun k_ => some k_ ≠ (u3 : Value).ownBlock ∧ some k_ ≠ (v637 : Value).ownBlock) u5 x5_3) ∧ Aside0 (Kd.R (Kd.int .i64) 2 w' w.heap.size (fun k_ => some k_ ≠ (u3 : Value).ownBlock ∧ some k_ ≠ (u5 : Value).ownBlock) v637 x14_4) ∧ Aside0 (Below w.heap.size w w'))
          case atStart => exact ⟨(y636), (0), es_, H', ⟨Nat.le_refl _⟩, ⟨by (with_reducible repeat (first | apply Kd.R_alloc | apply Kd.R_drewN | apply Kd.R_drew)); exact Kd.R_mono HO_3.out (fun _ hk => ⟨hk.1.1, hk.2⟩)⟩, ⟨by (with_reducible repeat (first | apply Kd.R_alloc | apply Kd.R_drewN | apply Kd.R_drew)); exact Kd.R_mono HO_5.out (fun _ hk => ⟨hk.1.1, hk.2⟩)⟩, ⟨by (with_reducible repeat (first | apply Kd.R_alloc | apply Kd.R_drewN | apply Kd.R_drew)); exact Kd.R_mono HO638.out (fun _ hk => ⟨hk.1.1.2, hk.1.2⟩)⟩, ⟨hb_⟩⟩
          case round =>
           clear H'
           obtain ⟨x14_4, x15_4, rfl, HA, HK4, HO_3, HO_5, HO_14, HB⟩ := hrel
           cases gk with
           | zero => exact absurd HA.out (by simp [spec_l01Berkowitz.l5])
           | succ k4 =>
            have H := HA.out
            clear HA
            simp only [spec_l01Berkowitz.l5] at H
            by_cases c45 : x15_4 < (x14_4.length : Int)
            ·rw [if_pos c45] at H
             have c45b0 := decide_eq_true c45
             clear c45
             have H' := Aside0.mk H
             clear H
             obtain ⟨Ao46, co46, eo46⟩ := Kd.R_slice HO_14.out
             subst eo46
             go_wp2
             go_loopg [16] k4 (fun kq v16 w' => ∃ (x14_5 : List Int) (x16_5 : Int), v16 = .int .i64 x16_5 ∧ Aside0 (spec_l01Berkowitz.l6 kq l0 x3_1 x4_1 x5_3 x14_5 x15_4 x16_5 = some r) ∧ Aside0 (kq ≤ k4) ∧ Aside0 (Kd.R (Kd.int .i64) 2 w' w.heap.size (fun k_ => some k_ ≠ (u5 : Value).ownBlock ∧ some k_ ≠ ((.slice Ao46 x14_4.length co46) : Value).ownBlock) u3 x3_1) ∧ Aside0 (Kd.R (Kd.int .i64) 2 w' w.heap.size (fun k_ => some k_ ≠ (u3 : Value).ownBlock ∧ some k_ ≠ ((.slice Ao46 x14_4.length co46) : Value).ownBlock) u5 x5_3) ∧ Aside0 (Kd.R (Kd.int .i64) 2 w' w.heap.size (fun k_ => some k_ ≠ (u3 : Value).ownBlock ∧ some k_ ≠ (u5 : Value).ownBlock) (.slice Ao46 x14_4.length co46) x14_5) ∧ Aside0 (Below w.heap.size w w'))
             case atStart => exact ⟨(x14_4), (0), es_, H', ⟨Nat.le_refl _⟩, ⟨Kd.R_below HO_3.out bgo_⟩, ⟨Kd.R_below HO_5.out bgo_⟩, ⟨Kd.R_below HO_14.out bgo_⟩, ⟨hb_⟩⟩
             case round =>
              clear H'
              obtain ⟨x14_5, x16_5, rfl, HA, HK5, HO_3, HO_5, HO_14, HB⟩ := hrel
              have hl14_5 := (Kd.R_reads' HO_14.out).1
              rw [hl14_5] at HO_14
              (try simp only [hl14_5])
              (try simp only [hl14_5] at HO_3)
              (try simp only [hl14_5] at HO_5)
              cases gk with
              | zero => exact absurd HA.out (by simp [spec_l01Berkowitz.l6])
              | succ k5 =>
               have H := HA.out
               clear HA
               simp only [spec_l01Berkowitz.l6] at H
               by_cases c47 : x16_5 < (x3_1.length : Int)
               ·rw [if_pos c47] at H
                have c47b0 := decide_eq_true c47
                (try (have c47z0 := c47b0; simp only [hl14_5] at c47z0))
                clear c47
                by_cases c48 : x16_5 ≤ x15_4
                ·rw [if_pos c48] at H
                 have c48b0 := decide_eq_true c48
                 clear c48
                 obtain ⟨c49, H⟩ := itn_ H
                 have c49b0 := decide_eq_true c49
                 clear c49
                 obtain ⟨c50, H⟩ := itn_ H
                 have c50b0 := decide_eq_true c50
                 (try (have c50z0 := c50b0; simp only [hl14_5] at c50z0))
                 clear c50
                 obtain ⟨ji51, hji51⟩ : ∃ j_ : Int, (wrap64 (x15_4 - x16_5)) = j_ := ⟨_, rfl⟩
                 (try rw [hji51])
                 replace H : (if 0 ≤ (ji51) then (if (ji51) < (x5_3.length : Int) then (if 0 ≤ x16_5 then (spec_l01Berkowitz.l6 k5 l0 x3_1 x4_1 x5_3 (x14_5.set (x15_4 : Int).toNat (wrap64 ((rd x14_5 x15_4) + (wrap64 ((rd x5_3 (ji51)) * (rd x3_1 x16_5)))))) x15_4 (wrap64 (x16_5 + 1))) else (none)) else (none)) else (none)) = some r := by first | (rw [hji51] at H; exact H) | (simp only [hji51] at H ⊢; exact H)
                 have hji51w : (IntKind.i64.wrap (x15_4 - x16_5)) = ji51 := (i64_w _).trans hji51
                 obtain ⟨c52, H⟩ := itn_ H
                 have c52b0 := decide_eq_true c52
                 clear c52
                 obtain ⟨c53, H⟩ := itn_ H
                 have c53b0 := decide_eq_true c53
                 (try (have c53z0 := c53b0; simp only [hl14_5] at c53z0))
                 clear c53
                 obtain ⟨c54, H⟩ := itn_ H
                 have c54b0 := decide_eq_true c54
                 clear c54
                 obtain ⟨y642, Ny642, H⟩ : ∃ y642 : List Int, Aside0 (y642 = (x14_5.set (x15_4 : Int).toNat (wrap64 ((rd x14_5 x15_4) + (wrap64 ((rd x5_3 (ji51)) * (rd x3_1 x16_5))))))) ∧ (spec_l01Berkowitz.l6 k5 l0 x3_1 x4_1 x5_3 y642 x15_4 (wrap64 (x16_5 + 1))) = some r := ⟨_, ⟨rfl⟩, H⟩
                 have H' := Aside0.mk H
                 clear H
                 obtain ⟨Ao56, co56, eo56⟩ := Kd.R_slice HO_3.out
                 subst eo56
                 try go_wp2
                 have n0_ := Aside0.mk (Kd.R_drew HO_3.out)
                 have n1_ := Aside0.mk (Kd.R_drew HO_5.out)
                 have n2_ := Aside0.mk (Kd.R_drew HO_14.out)
                 have n3_ := Aside0.mk (below_drew1 HB.out)
                 clear HO_3
                 clear HO_5
                 clear HO_14
                 clear HB
                 have HO_3 := n0_
                 have HO_5 := n1_
                 have HO_14 := n2_
                 have HB := n3_
                 clear n0_ n1_ n2_ n3_
                 have p639 : 0 ≤ (x15_4 : Int) := od_
                 have q639 : x15_4 < (x14_5.length : Int) := od_
                 obtain ⟨ad639, e639, hx639_0⟩ := Kd.at_int (Kd.R_reads' HO_14.out).2.2 x15_4 p639 q639
                 cases e639
                 replace p639 := eq_true p639
                 replace q639 := eq_true q639
                 obtain ⟨Ao58, co58, eo58⟩ := Kd.R_slice HO_5.out
                 (first | subst eo58 | (injection eo58 with f1_ f2_ f3_; have f4_ := f1_.symm; have f5_ := f3_.symm; clear f1_ f2_ f3_; subst f4_; subst f5_))
                 have p640 : 0 ≤ ((ji51) : Int) := od_
                 have q640 : (ji51) < (x5_3.length : Int) := od_
                 obtain ⟨ad640, e640, hx640_0⟩ := Kd.at_int (Kd.R_reads' HO_5.out).2.2 (ji51) p640 q640
                 cases e640
                 replace p640 := eq_true p640
                 replace q640 := eq_true q640
                 have p641 : 0 ≤ (x16_5 : Int) := od_
                 have q641 : x16_5 < (x3_1.length : Int) := od_
                 obtain ⟨ad641, e641, hx641_0⟩ := Kd.at_int (Kd.R_reads' HO_3.out).2.2 x16_5 p641 q641
                 cases e641
                 replace p641 := eq_true p641
                 replace q641 := eq_true q641
                 have p55 : 0 ≤ (x15_4 : Int) := od_
                 have q55 : (x15_4 : Int) < ((x14_5.length : Int) : Int) := od_
                 obtain ⟨go55, co55, eo55, gb55, gl55, cl55, HG55⟩ := Kd.R_form HO_14.out (by omega)
                 (first | cases eo55 | (injection eo55 with ea_ en_ ec_; (first | subst ea_ | (injection ea_ with ea_; subst ea_)); subst ec_; clear en_))
                 have GB55 := Aside0.mk gb55
                 have GG55 := Aside0.mk HG55
                 clear gb55 gl55 HG55
                 (first | simp only [add_plain] at hx639_0 | skip)
                 obtain ⟨hx55_0, hf55_0⟩ := Kd.R_celln 0 HO_14.out (x15_4 : Int) p55 q55
                 replace p55 := eq_true p55
                 replace q55 := eq_true q55
                 have HP59 := Kd.R_putn HO_14.out (x15_4 : Int) (wrap64 ((rd x14_5 x15_4) + (wrap64 ((rd x5_3 (ji51)) * (rd x3_1 x16_5)))))
                 rw [← Ny642.out] at HP59
                 have HQ59 := Aside0.mk HP59
                 clear HP59
                 refine start_ (n := 20) (S := fun w' => w'.cell? ⟨go55, (x15_4).toNat, none⟩ = some (.int .i64 (rd x14_5 x15_4)) ∧ w'.cell? (ad640.add ((ji51)).toNat) = some (.int .i64 (rd x5_3 (ji51))) ∧ w'.cell? (ad641.add (x16_5).toNat) = some (.int .i64 (rd x3_1 x16_5))) (ds := [19]) #[false, false, false, false, false, false, false, false, false, false, false, false, false, false, false, false, false, false, false, false] (by kernel_rfl) rfl rfl ⟨hx639_0, hx640_0, hx641_0⟩ (fun hHeld => ?_); refine with_tabW spec_l01Berkowitz.tab33 spec_l01Berkowitz.bits33 (fun HT_ HW_ => ?_)
                 generalize wr.drew = w57 at HO_3 HO_5 HO_14 HB GG55 HQ59 hf55_0 hx55_0 hx639_0 hx640_0 hx641_0 hHeld ⊢
                 refine pk_ 0 20 123 1 ?_
                 refine pk_ 1 20 124 3 ?_
                 refine pk_ 2 20 125 7 ?_
                 refine pk_ 3 20 126 15 ?_
                 refine pk_ 4 20 127 31 ?_
                 refine pk_ 6 20 129 95 ?_
                 refine pk_ 7 20 130 223 ?_
                 refine pk_ 8 20 131 479 ?_
                 refine pk_ 9 20 132 991 ?_
                 refine pk_ 10 20 133 2015 ?_
                 refine pk_ 12 20 135 6111 ?_
                 refine pk_ 13 20 136 14303 ?_
                 refine pk_ 14 20 137 30687 ?_
                 refine tk_ 5 20 128 30719 hHeld ?_
                 refine tk_ 11 20 134 32767 hHeld ?_
                 refine tk_ 15 20 138 65535 hHeld ?_
                 refine pk_ 16 20 139 131071 ?_
                 refine pk_ 17 20 140 262143 ?_
                 refine pk_ 18 20 141 524287 ?_
                 refine last_ (i := 19) (N := none) #[true, true, true, true, true, true, true, true, true, true, true, true, true, true, true, true, true, true, true, true] rfl rfl (one_of HT_.out (by kernel_rfl)) (by decide) (fun K hK => ?_)
                 refine skip_ (w1 := ?_) (by rfl) rfl ?_ ?_
                 rotate_left
                 ·go_simp
                  rfl
                 refine hK.out _ _ ?_
                 clear hK K
                 refine done_ (done_of HT_.out (by kernel_rfl)) ?_
                 try go_wp2
                 (try simp only [← hl14_5])
                 first | (first | go_roundg k5 | (refine Handed.intro k5 ?measure ?_; rotate_left; go_step; (try simp only [add_plain]); (repeat apply Exists.intro); refine ⟨?rel, rfl⟩)) | ((try subst hji51); (try subst hji40); (first | go_roundg k5 | (refine Handed.intro k5 ?measure ?_; rotate_left; go_step; (try simp only [add_plain]); (repeat apply Exists.intro); refine ⟨?rel, rfl⟩)))
                 case measure => have := HK1.out; have := HK2.out; have := HK3.out; have := HK4.out; have := HK5.out; omega
                 case rel => exact ⟨(y642), (wrap64 (x16_5 + 1)), es_, H', ⟨by have := HK1.out; have := HK2.out; have := HK3.out; have := HK4.out; have := HK5.out; omega⟩, ⟨by (try simp only [hl14_5]); (with_reducible repeat (first | apply Kd.R_alloc | apply Kd.R_drewN | apply Kd.R_drew)); exact Kd.R_mono (Kd.R_far (p := ⟨go55, (x15_4 : Int).toNat, none⟩) (Kd.R_mono HO_3.out (fun k_ hk => (⟨hk, fun e_ => hk.2 (by rw [e_]; rfl)⟩ : _ ∧ k_ ≠ go55))) (fun _ hk => hk.2) (.int .i64 (wrap64 ((rd x14_5 x15_4) + (wrap64 ((rd x5_3 (ji51)) * (rd x3_1 x16_5))))))) (fun _ hk => ⟨hk.1.1, hk.1.2⟩)⟩, ⟨by (try simp only [hl14_5]); (with_reducible repeat (first | apply Kd.R_alloc | apply Kd.R_drewN | apply Kd.R_drew)); exact Kd.R_mono (Kd.R_far (p := ⟨go55, (x15_4 : Int).toNat, none⟩) (Kd.R_mono HO_5.out (fun k_ hk => (⟨hk, fun e_ => hk.2 (by rw [e_]; rfl)⟩ : _ ∧ k_ ≠ go55))) (fun _ hk => hk.2) (.int .i64 (wrap64 ((rd x14_5 x15_4) + (wrap64 ((rd x5_3 (ji51)) * (rd x3_1 x16_5))))))) (fun _ hk => ⟨hk.1.1, hk.1.2⟩)⟩, ⟨by (try simp only [hl14_5]); (with_reducible repeat (first | apply Kd.R_alloc | apply Kd.R_drewN | apply Kd.R_drew)); exact HQ59.out⟩, ⟨hbs_⟩⟩
                ·rw [if_neg c48] at H
                 have c48b0 := decide_eq_false c48
                 clear c48
                 have H' := Aside0.mk H
                 clear H
                 obtain ⟨Ao60, co60, eo60⟩ := Kd.R_slice HO_3.out
                 subst eo60
                 go_wp2
                 (try simp only [← hl14_5])
                 first | (first | go_roundg k5 | (refine Handed.intro k5 ?measure ?_; rotate_left; go_step; (try simp only [add_plain]); (repeat apply Exists.intro); refine ⟨?rel, rfl⟩)) | ((try subst hji40); (first | go_roundg k5 | (refine Handed.intro k5 ?measure ?_; rotate_left; go_step; (try simp only [add_plain]); (repeat apply Exists.intro); refine ⟨?rel, rfl⟩)))
                 case measure => have := HK1.out; have := HK2.out; have := HK3.out; have := HK4.out; have := HK5.out; omega
                 case rel => exact ⟨(x14_5), (wrap64 (x15_4 + 1)), es_, H', ⟨by have := HK1.out; have := HK2.out; have := HK3.out; have := HK4.out; have := HK5.out; omega⟩, ⟨by (try simp only [hl14_5]); (with_reducible repeat (first | apply Kd.R_alloc | apply Kd.R_drewN | apply Kd.R_drew)); exact HO_3.out⟩, ⟨by (try simp only [hl14_5]); (with_reducible repeat (first | apply Kd.R_alloc | apply Kd.R_drewN | apply Kd.R_drew)); exact HO_5.out⟩, ⟨by (try simp only [hl14_5]); (with_reducible repeat (first | apply Kd.R_alloc | apply Kd.R_drewN | apply Kd.R_drew)); exact HO_14.out⟩, ⟨hb_⟩⟩
               ·rw [if_neg c47] at H
                have c47b0 := decide_eq_false c47
                (try (have c47z0 := c47b0; simp only [hl14_5] at c47z0))
                clear c47
                have H' := Aside0.mk H
                clear H
                obtain ⟨Ao61, co61, eo61⟩ := Kd.R_slice HO_3.out
                subst eo61
                go_wp2
                (try simp only [← hl14_5])
                first | (first | go_roundg k5 | (refine Handed.intro k5 ?measure ?_; rotate_left; go_step; (try simp only [add_plain]); (repeat apply Exists.intro); refine ⟨?rel, rfl⟩)) | ((try subst hji40); (first | go_roundg k5 | (refine Handed.intro k5 ?measure ?_; rotate_left; go_step; (try simp only [add_plain]); (repeat apply Exists.intro); refine ⟨?rel, rfl⟩)))
                case measure => have := HK1.out; have := HK2.out; have := HK3.out; have := HK4.out; have := HK5.out; omega
                case rel => exact ⟨(x14_5), (wrap64 (x15_4 + 1)), es_, H', ⟨by have := HK1.out; have := HK2.out; have := HK3.out; have := HK4.out; have := HK5.out; omega⟩, ⟨by (try simp only [hl14_5]); (with_reducible repeat (first | apply Kd.R_alloc | apply Kd.R_drewN | apply Kd.R_drew)); exact HO_3.out⟩, ⟨by (try simp only [hl14_5]); (with_reducible repeat (first | apply Kd.R_alloc | apply Kd.R_drewN | apply Kd.R_drew)); exact HO_5.out⟩, ⟨by (try simp only [hl14_5]); (with_reducible repeat (first | apply Kd.R_alloc | apply Kd.R_drewN | apply Kd.R_drew)); exact HO_14.out⟩, ⟨hb_⟩⟩
            ·rw [if_neg c45] at H
             have c45b0 := decide_eq_false c45
             clear c45
             have H' := Aside0.mk H
             clear H
             obtain ⟨Ao62, co62, eo62⟩ := Kd.R_slice HO_14.out
             subst eo62
             go_wp2
             first | (first | go_roundg k4 | (refine Handed.intro k4 ?measure ?_; rotate_left; go_step; (try simp only [add_plain]); (repeat apply Exists.intro); refine ⟨?rel, rfl⟩)) | ((try subst hji40); (first | go_roundg k4 | (refine Handed.intro k4 ?measure ?_; rotate_left; go_step; (try simp only [add_plain]); (repeat apply Exists.intro); refine ⟨?rel, rfl⟩)))
             case measure => have := HK1.out; have := HK2.out; have := HK3.out; have := HK4.out; omega
             case rel => exact ⟨(x14_4), (wrap64 (x4_1 + 1)), es_, H', ⟨by have := HK1.out; have := HK2.out; have := HK3.out; have := HK4.out; omega⟩, ⟨by (with_reducible repeat (first | apply Kd.R_alloc | apply Kd.R_drewN | apply Kd.R_drew)); exact Kd.R_mono HO_14.out (fun _ hk => trivial)⟩, ⟨hb_⟩⟩
   ·rw [if_neg c4] at H
    have c4b0 := decide_eq_false c4
    clear c4
    obtain ⟨t605, A63, H⟩ := bnd_ H
    obtain rfl := Option.some.inj H
    obtain ⟨Ao64, co64, eo64⟩ := Kd.R_slice HO_3.out
    subst eo64
    go_wp2_with (first | ((with_reducible refine gate_callee (f := 175) rfl ?_); refine goesL_ (some 144) rfl rfl Try.func175 (by kernel_rfl) rfl #[.slice Ao64 x3_1.length co64] rfl arg_ ?_; (with_reducible refine (spec_l01Trim.calls k1 _ _ x3_1 t605 _ ?side1 ?side2 A63.out).mono ?_); (case side1 => exact Kd.C_below (Kd.R_reads' HO_3.out).2.2 bgo_); (case side2 => exact (Kd.R_reads' HO_3.out).2.1); rintro e w65 ⟨v606, rfl, ho0, hb⟩; refine ⟨_, rfl, ?_⟩; have HO607 := Aside0.mk (Kd.R_lower (Kd.R_new' ho0 (Kd.R_lt (Kd.R_below HO_3.out bgo_))) (below_size hb_)); replace HO_3 := Aside0.mk (Kd.R_elder' (Kd.R_below HO_3.out bgo_) (Kd.R_base ho0) hb); replace HB := Aside0.mk (below_step hb_ hb); (try clear hb); (try clear hb2); (try clear hk); (try clear hi); (try clear ho0)))
    go_ret
    exact ⟨_, er_, by (with_reducible repeat (first | apply Kd.R_alloc | apply Kd.R_drewN | apply Kd.R_drew)); exact Kd.R_mono HO607.out (fun _ hk => trivial), hb_⟩

/-! ### spec_DeterminantWhole: function 68 -/
mutual
def spec_DeterminantWhole.l0 : Nat → List (List Int) → Int → Option (List Int × Int)
 | 0, _, _ => none
 | k + 1, x0, x4 => if x4 < (x0.length : Int) then (if 0 ≤ x4 then (if ((rd_L2 x0 x4).length : Int) = (x0.length : Int) then (spec_DeterminantWhole.l1 k x0 x4 0) else (some (([] : List Int), 2))) else (none)) else ((spec_l01Berkowitz.f k x0).bind fun t643 => (some (t643, 0)))
def spec_DeterminantWhole.l1 : Nat → List (List Int) → Int → Int → Option (List Int × Int)
 | 0, _, _, _ => none
 | k + 1, x0, x4, x5 => if x5 < (x0.length : Int) then (if 0 ≤ x4 then (if x4 < (x0.length : Int) then (if 0 ≤ x5 then (if x5 < ((rd_L2 x0 x4).length : Int) then ((spec_l01In.f (rd (rd_L2 x0 x4) x5) (-20) 20).bind fun t649 => (if t649 = true then (spec_DeterminantWhole.l1 k x0 x4 (wrap64 (x5 + 1))) else (some (([] : List Int), 2)))) else (none)) else (none)) else (none)) else (none)) else (spec_DeterminantWhole.l0 k x0 (wrap64 (x4 + 1)))
end
def spec_DeterminantWhole.f (k : Nat) (l0 : List (List Int)) : Option (List Int × Int) := if (l0.length : Int) > 8 then (some (([] : List Int), 2)) else (spec_DeterminantWhole.l0 k l0 0)
set_option maxHeartbeats 8000000 in
set_option maxRecDepth 100000 in
theorem spec_DeterminantWhole.calls (k : Nat) (A0 : Option Addr) (c0 : Nat) (l0 : List (List Int)) (r1 : List Int) (r2 : Int) (w : World) (hr0 : Kd.C (Kd.slice 2 (Kd.int .i64)) w A0 l0.length l0) (hc0 : l0.length ≤ c0) (h : spec_DeterminantWhole.f k l0 = some (r1, r2)) :
  Calls Try.prog 68 #[.slice A0 l0.length c0] w fun e w' => ∃ v0_ : Value, e = .returned (.tuple #[v0_, .int .i64 r2]) ∧ Kd.R (Kd.int .i64) 2 w' w.heap.size (fun _ => True) v0_ r1 ∧ Below w.heap.size w w' := by
 have HR0 := Aside0.mk hr0
 have HC0 := Aside0.mk hc0
 clear hr0 hc0
 have HB := Aside0.mk (Below.refl w.heap.size w)
 have H : (if (l0.length : Int) > 8 then (some (([] : List Int), 2)) else (spec_DeterminantWhole.l0 k l0 0)) = some (r1, r2) := h
 clear h
 by_cases c2 : (l0.length : Int) > 8
 ·rw [if_pos c2] at H
  have c2b0 := decide_eq_true c2
  have c2b1 : decide (8 < l0.length) = true := decide_eq_true (by omega)
  clear c2
  simp only [Option.some.injEq, Prod.mk.injEq] at H
  obtain ⟨rfl, rfl⟩ := H
  go_enter Try.func68, Try.ntmps68
  go_wp2
  go_ret2
  exact ⟨_, er_, by first | exact Kd.R_nil _ _ _ _ _ | exact Kd.N_nil _ _ _ _ _ | exact Kd.V_nil _ _ _ _ _ | exact Kd.Q_nil _ _ _ _ _ | exact Kd.S_nil _ _ _ _ _, hb_⟩
 ·rw [if_neg c2] at H
  have c2b0 := decide_eq_false c2
  have c2b1 : decide (8 < l0.length) = false := decide_eq_false (by omega)
  clear c2
  have H' := Aside0.mk H
  clear H
  go_enter Try.func68, Try.ntmps68
  go_wp2
  go_loopg [4] k (fun kq v4 w' => ∃ (x4_1 : Int), v4 = .int .i64 x4_1 ∧ Aside0 (spec_DeterminantWhole.l0 kq l0 x4_1 = some (r1, r2)) ∧ Aside0 (kq ≤ k) ∧ Aside0 (Below w.heap.size w w'))
  case atStart => exact ⟨(0), es_, H', ⟨Nat.le_refl _⟩, ⟨hb_⟩⟩
  case round =>
   clear H'
   obtain ⟨x4_1, rfl, HA, HK1, HB⟩ := hrel
   cases gk with
   | zero => exact absurd HA.out (by simp [spec_DeterminantWhole.l0])
   | succ k1 =>
    have H := HA.out
    clear HA
    simp only [spec_DeterminantWhole.l0] at H
    by_cases c3 : x4_1 < (l0.length : Int)
    ·rw [if_pos c3] at H
     have c3b0 := decide_eq_true c3
     clear c3
     obtain ⟨c4, H⟩ := itn_ H
     have c4b0 := decide_eq_true c4
     clear c4
     by_cases c5 : ((rd_L2 l0 x4_1).length : Int) = (l0.length : Int)
     ·rw [if_pos c5] at H
      have c5b0 : (((rd_L2 l0 x4_1).length : Int) == (l0.length : Int)) = true := beq_iff_eq.mpr c5
      have c5b1 : (((rd_L2 l0 x4_1).length : Int) != (l0.length : Int)) = false := bne_eq_false_iff_eq.mpr c5
      have c5b2 : ((rd_L2 l0 x4_1).length == l0.length) = true := by first | simpa using c5 | (simp at c5 ⊢; omega)
      clear c5
      have H' := Aside0.mk H
      clear H
      have p646 : 0 ≤ (x4_1 : Int) := od_
      have q646 : x4_1 < (l0.length : Int) := od_
      obtain ⟨ad646, A646_0, c646_0, e646, hx646_0, hl646_0, hi646_0⟩ := at_L2 HR0.out x4_1 p646 q646
      cases e646
      (try replace hx646_0 := (HB.out.cell (World.block_lt_of_cell? w _ hx646_0)).trans hx646_0)
      have HR646_0 := Aside0.mk hi646_0
      have HC646_0 := Aside0.mk hl646_0
      clear hi646_0 hl646_0
      replace p646 := eq_true p646
      replace q646 := eq_true q646
      go_wp2
      go_loopg [5] k1 (fun kq v5 w' => ∃ (x5_2 : Int), v5 = .int .i64 x5_2 ∧ Aside0 (spec_DeterminantWhole.l1 kq l0 x4_1 x5_2 = some (r1, r2)) ∧ Aside0 (kq ≤ k1) ∧ Aside0 (Below w.heap.size w w'))
      case atStart => exact ⟨(0), es_, H', ⟨Nat.le_refl _⟩, ⟨hb_⟩⟩
      case round =>
       clear H'
       obtain ⟨x5_2, rfl, HA, HK2, HB⟩ := hrel
       cases gk with
       | zero => exact absurd HA.out (by simp [spec_DeterminantWhole.l1])
       | succ k2 =>
        have H := HA.out
        clear HA
        simp only [spec_DeterminantWhole.l1] at H
        by_cases c6 : x5_2 < (l0.length : Int)
        ·rw [if_pos c6] at H
         have c6b0 := decide_eq_true c6
         clear c6
         obtain ⟨c7, H⟩ := itn_ H
         have c7b0 := decide_eq_true c7
         clear c7
         obtain ⟨c8, H⟩ := itn_ H
         have c8b0 := decide_eq_true c8
         clear c8
         obtain ⟨c9, H⟩ := itn_ H
         have c9b0 := decide_eq_true c9
         clear c9
         obtain ⟨c10, H⟩ := itn_ H
         have c10b0 := decide_eq_true c10
         clear c10
         obtain ⟨t649, A11, H⟩ := bnd_ H
         by_cases c12 : t649 = true
         ·subst c12
          have H1 : (spec_DeterminantWhole.l1 k2 l0 x4_1 (wrap64 (x5_2 + 1))) = some (r1, r2) := by rw [if_pos rfl] at H; exact H
          clear H
          have H := H1
          clear H1
          have H' := Aside0.mk H
          clear H
          have p647 : 0 ≤ (x4_1 : Int) := od_
          have q647 : x4_1 < (l0.length : Int) := od_
          obtain ⟨ad647, A647_0, c647_0, e647, hx647_0, hl647_0, hi647_0⟩ := at_L2 HR0.out x4_1 p647 q647
          obtain rfl : ad646 = ad647 := (by injection e647)
          (try replace hx647_0 := (HB.out.cell (World.block_lt_of_cell? w _ hx647_0)).trans hx647_0)
          have HR647_0 := Aside0.mk hi647_0
          have HC647_0 := Aside0.mk hl647_0
          clear hi647_0 hl647_0
          replace p647 := eq_true p647
          replace q647 := eq_true q647
          have p648 : 0 ≤ (x5_2 : Int) := od_
          have q648 : x5_2 < ((rd_L2 l0 x4_1).length : Int) := od_
          obtain ⟨ad648, e648, hx648_0⟩ := Kd.at_int HR647_0.out x5_2 p648 q648
          cases e648
          (try replace hx648_0 := (HB.out.cell (World.block_lt_of_cell? w _ hx648_0)).trans hx648_0)
          replace p648 := eq_true p648
          replace q648 := eq_true q648
          go_wp2_with (first | ((with_reducible refine gate_callee (f := 150) rfl ?_); refine goesL_ (some 36) rfl rfl Try.func150 (by kernel_rfl) rfl #[.int .i64 (rd (rd_L2 l0 x4_1) x5_2), .int .i64 (-20), .int .i64 20] rfl arg_ ?_; (with_reducible refine (spec_l01In.calls (rd (rd_L2 l0 x4_1) x5_2) (-20) 20 true _ A11.out).mono ?_); rintro e w' ⟨rfl, ⟨nd, rfl⟩⟩; refine ⟨_, rfl, ?_⟩))
          go_roundg k2
          case measure => have := HK1.out; have := HK2.out; omega
          case rel => exact ⟨(wrap64 (x5_2 + 1)), es_, H', ⟨by have := HK1.out; have := HK2.out; omega⟩, ⟨hb_⟩⟩
         ·replace c12 := Bool.eq_false_iff.mpr c12
          subst c12
          have H1 : (some (([] : List Int), 2)) = some (r1, r2) := by rw [if_neg (show ¬ (false = true) by decide)] at H; exact H
          clear H
          have H := H1
          clear H1
          simp only [Option.some.injEq, Prod.mk.injEq] at H
          obtain ⟨rfl, rfl⟩ := H
          have p647 : 0 ≤ (x4_1 : Int) := od_
          have q647 : x4_1 < (l0.length : Int) := od_
          obtain ⟨ad647, A647_0, c647_0, e647, hx647_0, hl647_0, hi647_0⟩ := at_L2 HR0.out x4_1 p647 q647
          obtain rfl : ad646 = ad647 := (by injection e647)
          (try replace hx647_0 := (HB.out.cell (World.block_lt_of_cell? w _ hx647_0)).trans hx647_0)
          have HR647_0 := Aside0.mk hi647_0
          have HC647_0 := Aside0.mk hl647_0
          clear hi647_0 hl647_0
          replace p647 := eq_true p647
          replace q647 := eq_true q647
          have p648 : 0 ≤ (x5_2 : Int) := od_
          have q648 : x5_2 < ((rd_L2 l0 x4_1).length : Int) := od_
          obtain ⟨ad648, e648, hx648_0⟩ := Kd.at_int HR647_0.out x5_2 p648 q648
          cases e648
          (try replace hx648_0 := (HB.out.cell (World.block_lt_of_cell? w _ hx648_0)).trans hx648_0)
          replace p648 := eq_true p648
          replace q648 := eq_true q648
          go_wp2_with (first | ((with_reducible refine gate_callee (f := 150) rfl ?_); refine goesL_ (some 36) rfl rfl Try.func150 (by kernel_rfl) rfl #[.int .i64 (rd (rd_L2 l0 x4_1) x5_2), .int .i64 (-20), .int .i64 20] rfl arg_ ?_; (with_reducible refine (spec_l01In.calls (rd (rd_L2 l0 x4_1) x5_2) (-20) 20 false _ A11.out).mono ?_); rintro e w' ⟨rfl, ⟨nd, rfl⟩⟩; refine ⟨_, rfl, ?_⟩))
          go_ret2
          exact ⟨_, er_, by first | exact Kd.R_nil _ _ _ _ _ | exact Kd.N_nil _ _ _ _ _ | exact Kd.V_nil _ _ _ _ _ | exact Kd.Q_nil _ _ _ _ _ | exact Kd.S_nil _ _ _ _ _, hb_⟩
        ·rw [if_neg c6] at H
         have c6b0 := decide_eq_false c6
         clear c6
         have H' := Aside0.mk H
         clear H
         go_wp2
         go_roundg k2
         case measure => have := HK1.out; have := HK2.out; omega
         case rel => exact ⟨(wrap64 (x4_1 + 1)), es_, H', ⟨by have := HK1.out; have := HK2.out; omega⟩, ⟨hb_⟩⟩
     ·rw [if_neg c5] at H
      have c5b0 : (((rd_L2 l0 x4_1).length : Int) == (l0.length : Int)) = false := beq_eq_false_iff_ne.mpr c5
      have c5b1 : (((rd_L2 l0 x4_1).length : Int) != (l0.length : Int)) = true := bne_iff_ne.mpr c5
      have c5b2 : ((rd_L2 l0 x4_1).length == l0.length) = false := by first | simpa using c5 | (simp at c5 ⊢; omega)
      simp only [Option.some.injEq, Prod.mk.injEq] at H
      obtain ⟨rfl, rfl⟩ := H
      have p646 : 0 ≤ (x4_1 : Int) := od_
      have q646 : x4_1 < (l0.length : Int) := od_
      obtain ⟨ad646, A646_0, c646_0, e646, hx646_0, hl646_0, hi646_0⟩ := at_L2 HR0.out x4_1 p646 q646
      cases e646
      (try replace hx646_0 := (HB.out.cell (World.block_lt_of_cell? w _ hx646_0)).trans hx646_0)
      have HR646_0 := Aside0.mk hi646_0
      have HC646_0 := Aside0.mk hl646_0
      clear hi646_0 hl646_0
      replace p646 := eq_true p646
      replace q646 := eq_true q646
      go_wp2
      go_ret2
      exact ⟨_, er_, by first | exact Kd.R_nil _ _ _ _ _ | exact Kd.N_nil _ _ _ _ _ | exact Kd.V_nil _ _ _ _ _ | exact Kd.Q_nil _ _ _ _ _ | exact Kd.S_nil _ _ _ _ _, hb_⟩
    ·rw [if_neg c3] at H
     have c3b0 := decide_eq_false c3
     clear c3
     obtain ⟨t643, A13, H⟩ := bnd_ H
     simp only [Option.some.injEq, Prod.mk.injEq] at H
     obtain ⟨rfl, rfl⟩ := H
     go_wp2_with (first | ((with_reducible refine gate_callee (f := 179) rfl ?_); refine goesL_ (some 39) rfl rfl Try.func179 (by kernel_rfl) rfl #[.slice A0 l0.length c0] rfl arg_ ?_; (with_reducible refine (spec_l01Berkowitz.calls k1 _ _ l0 t643 _ ?side1 ?side2 A13.out).mono ?_); (case side1 => exact Kd.C_below (Kd.C_below HR0.out HB.out) bgo_); (case side2 => exact HC0.out); rintro e w14 ⟨v644, rfl, ho0, hb⟩; refine ⟨_, rfl, ?_⟩; have HO645 := Aside0.mk (Kd.R_lower ho0 (below_size hb_)); replace HB := Aside0.mk (below_step hb_ hb); (try clear hb); (try clear hb2); (try clear hk); (try clear hi); (try clear ho0)))
     go_ret2
     exact ⟨_, er_, (Kd.R_below HO645.out bgo_), hb_⟩

/-! ### spec_DrawAddWhole: function 69 -/
def spec_DrawAddWhole.f (k : Nat) (l0 : List Int) : Option (List Int × List Int × Int) := (spec_l01From.f k l0).bind fun bt650 => ((spec_l01DrawPoly.f k bt650.1 bt650.2.1 bt650.2.2 8).bind fun bt654 => ((spec_l01Rough.f k bt650.1 bt654.2.1 bt654.2.2 bt654.1).bind fun bt659 => ((spec_l01DrawPoly.f k bt650.1 bt659.2.1 bt659.2.2 8).bind fun bt664 => ((spec_l01Rough.f k bt650.1 bt664.2.1 bt664.2.2 bt664.1).bind fun bt669 => ((spec_l01Pick.f bt650.1 bt669.2.1 bt669.2.2 (([0, 1, (-1), 2, (-7), 1000, 1001] : List Int))).bind fun bt677 => (some (bt659.1, bt669.1, bt677.1)))))))
set_option maxHeartbeats 8000000 in
set_option maxRecDepth 100000 in
theorem spec_DrawAddWhole.calls (k : Nat) (A0 : Option Addr) (c0 : Nat) (l0 : List Int) (r1 : List Int) (r2 : List Int) (r3 : Int) (w : World) (hr0 : Kd.C (Kd.int .u8) w A0 l0.length l0) (hc0 : l0.length ≤ c0) (h : spec_DrawAddWhole.f k l0 = some (r1, r2, r3)) :
  Calls Try.prog 69 #[.slice A0 l0.length c0] w fun e w' => ∃ v0_ v1_ : Value, e = .returned (.tuple #[v0_, v1_, .int .i64 r3]) ∧ Kd.R (Kd.int .i64) 2 w' w.heap.size (fun k_ => some k_ ≠ (v1_ : Value).ownBlock) v0_ r1 ∧ Kd.R (Kd.int .i64) 2 w' w.heap.size (fun k_ => some k_ ≠ (v0_ : Value).ownBlock) v1_ r2 ∧ Below w.heap.size w w' := by
 have HR0 := Aside0.mk hr0
 have HC0 := Aside0.mk hc0
 clear hr0 hc0
 have HB := Aside0.mk (Below.refl w.heap.size w)
 have H : ((spec_l01From.f k l0).bind fun bt650 => ((spec_l01DrawPoly.f k bt650.1 bt650.2.1 bt650.2.2 8).bind fun bt654 => ((spec_l01Rough.f k bt650.1 bt654.2.1 bt654.2.2 bt654.1).bind fun bt659 => ((spec_l01DrawPoly.f k bt650.1 bt659.2.1 bt659.2.2 8).bind fun bt664 => ((spec_l01Rough.f k bt650.1 bt664.2.1 bt664.2.2 bt664.1).bind fun bt669 => ((spec_l01Pick.f bt650.1 bt669.2.1 bt669.2.2 (([0, 1, (-1), 2, (-7), 1000, 1001] : List Int))).bind fun bt677 => (some (bt659.1, bt669.1, bt677.1)))))))) = some (r1, r2, r3) := h
 clear h
 obtain ⟨⟨t650, t651, t652⟩, A2, H⟩ := bnd_ H
 dsimp only at H
 obtain ⟨⟨t654, t657, t658⟩, A3, H⟩ := bnd_ H
 dsimp only at H
 obtain ⟨⟨t659, t662, t663⟩, A4, H⟩ := bnd_ H
 dsimp only at H
 obtain ⟨⟨t664, t667, t668⟩, A5, H⟩ := bnd_ H
 dsimp only at H
 obtain ⟨⟨t669, t672, t673⟩, A6, H⟩ := bnd_ H
 dsimp only at H
 obtain ⟨y674, Ny674, H⟩ : ∃ y674 : List Int, Aside0 (y674 = (([0, 1, (-1), 2, (-7), 1000, 1001] : List Int))) ∧ ((spec_l01Pick.f t650 t672 t673 y674).bind fun bt677 => (some (t659, t669, bt677.1))) = some (r1, r2, r3) := ⟨_, ⟨rfl⟩, H⟩
 obtain ⟨⟨t677, t678, t679⟩, A7, H⟩ := bnd_ H
 dsimp only at H
 simp only [Option.some.injEq, Prod.mk.injEq] at H
 obtain ⟨rfl, rfl, rfl⟩ := H
 go_enter Try.func69, Try.ntmps69
 go_wp2_with (first | ((with_reducible refine gate_callee (f := 102) rfl ?_); refine goesL_ (some 9) rfl rfl Try.func102 (by kernel_rfl) rfl #[.slice A0 l0.length c0] rfl arg_ ?_; (with_reducible refine (spec_l01From.calls k _ _ l0 t650 t651 t652 w _ ?side1 ?side2 ?side3 A2.out).mono ?_); (case side1 => exact hb_); (case side2 => exact HR0.out); (case side3 => exact HC0.out); rintro e w8 ⟨g653, rfl, hi, hb, hb2⟩; refine ⟨_, rfl, ?_⟩; replace HB := Aside0.mk (hb); have HI653 := Aside0.mk (hi); (try clear hb); (try clear hb2); (try clear hk); (try clear hi)) | ((with_reducible refine gate_callee (f := 162) rfl ?_); refine goesL_ (some 12) rfl rfl Try.func162 (by kernel_rfl) rfl #[.pointer (some ⟨g653, 0, none⟩), .int .i64 8] rfl arg_ ?_; (with_reducible refine (spec_l01DrawPoly.calls k g653 t650 t651 t652 8 t654 t657 t658 w _ ?side1 ?side2 A3.out).mono ?_); (case side1 => exact IsS131.go_); (case side2 => exact IsS131.hb_); rintro e w9 ⟨v655, rfl, ho0, hi, hb, hk⟩; refine ⟨_, rfl, ?_⟩; have HO656 := Aside0.mk (Kd.R_lower ho0 (below_size IsS131.hb_)); replace HB := Aside0.mk (hb); replace HI653 := Aside0.mk (hi); (try clear hb); (try clear hb2); (try clear hk); (try clear hi); (try clear ho0); obtain ⟨Ao10, co10, eo10⟩ := Kd.R_slice HO656.out; subst eo10) | ((with_reducible refine gate_callee (f := 161) rfl ?_); refine goesL_ (some 13) rfl rfl Try.func161 (by kernel_rfl) rfl #[.pointer (some ⟨g653, 0, none⟩), .slice Ao10 t654.length co10] rfl arg_ ?_; (with_reducible refine (spec_l01Rough.calls k g653 t650 t657 t658 (fun k_ => some k_ = (.slice Ao10 t654.length co10 : Value).ownBlock) (.slice Ao10 t654.length co10) t654 t659 t662 t663 w _ ?side1 ?side2 ?side3 A4.out).mono ?_); (case side1 => exact IsS131.go_); (case side2 => exact IsS131.hb_); (case side3 => exact Kd.R_tight rfl HO656.out); rintro e w11 ⟨v660, rfl, ho0, hi, hb, hkp⟩; refine ⟨_, rfl, ?_⟩; replace HI653 := Aside0.mk (hi); have HO661 := Aside0.mk (Kd.R_mono (ok' := fun k_ => True) ho0 (fun k_ hk_ => trivial)); replace HB := Aside0.mk (hb); clear HO656; (try clear hb); (try clear hkp); (try clear ho0)) | ((with_reducible refine gate_callee (f := 162) rfl ?_); refine goesL_ (some 16) rfl rfl Try.func162 (by kernel_rfl) rfl #[.pointer (some ⟨g653, 0, none⟩), .int .i64 8] rfl arg_ ?_; (with_reducible refine (spec_l01DrawPoly.calls k g653 t650 t662 t663 8 t664 t667 t668 w _ ?side1 ?side2 A5.out).mono ?_); (case side1 => exact IsS131.go_); (case side2 => exact IsS131.hb_); rintro e w12 ⟨v665, rfl, ho0, hi, hb, hk⟩; refine ⟨_, rfl, ?_⟩; have HO666 := Aside0.mk (Kd.R_lower (Kd.R_new' ho0 (Kd.R_lt (Kd.R_below HO661.out bgo_))) (below_size IsS131.hb_)); replace HO661 := Aside0.mk (Kd.R_mono (Kd.R_told (Kd.R_oldK (IsS131.apart (show IsS131 w _ g653 t650 t662 t663 from IsS131.go_) (Kd.R_below HO661.out bgo_) (by decide)) hk) (Kd.R_base ho0)) (fun _ h_ => h_.1)); replace HB := Aside0.mk (hb); replace HI653 := Aside0.mk (hi); (try clear hb); (try clear hb2); (try clear hk); (try clear hi); (try clear ho0); obtain ⟨Ao13, co13, eo13⟩ := Kd.R_slice HO666.out; subst eo13) | ((with_reducible refine gate_callee (f := 161) rfl ?_); refine goesL_ (some 17) rfl rfl Try.func161 (by kernel_rfl) rfl #[.pointer (some ⟨g653, 0, none⟩), .slice Ao13 t664.length co13] rfl arg_ ?_; (with_reducible refine (spec_l01Rough.calls k g653 t650 t667 t668 (fun k_ => some k_ = (.slice Ao13 t664.length co13 : Value).ownBlock) (.slice Ao13 t664.length co13) t664 t669 t672 t673 w _ ?side1 ?side2 ?side3 A6.out).mono ?_); (case side1 => exact IsS131.go_); (case side2 => exact IsS131.hb_); (case side3 => exact Kd.R_tight rfl HO666.out); rintro e w14 ⟨v670, rfl, ho0, hi, hb, hkp⟩; refine ⟨_, rfl, ?_⟩; have HO671 := Aside0.mk (Kd.R_mono (ok' := fun k_ => some k_ ≠ (v660 : Value).ownBlock) ho0 (fun k_ hk_ => Or.elim hk_ (fun hs_ => fun e_ => ((((IsS131.apart HI653.out HO661.out (by decide))).1 k_ e_.symm).1.2) hs_) (fun hn_ => (Kd.fresh' (Kd.R_lt (Kd.R_below HO661.out bgo_)) k_ hn_)))); replace HO661 := Aside0.mk (Kd.R_mono (ok' := fun k_ => some k_ ≠ (v670 : Value).ownBlock) (Kd.R_keptB ((IsS131.apart HI653.out HO661.out (by decide))) hkp (fun k_ hk_ hs_ => Or.elim hs_ (fun hs_ => (hk_.1.2) hs_) (fun e_ => (hk_.2) e_))) (fun k_ hk_ => fun e_ => Or.elim (ho0.1 k_ e_.symm) (fun hs_ => hk_.2.1 (by first | exact hs_ | exact .inl hs_)) (fun hn_ => Nat.not_le.2 hk_.2.2 hn_))); replace HI653 := Aside0.mk (hi); replace HB := Aside0.mk (hb); clear HO666; (try clear hb); (try clear hkp); (try clear ho0)) | ((with_reducible refine gate_dst (N := 21) rfl ?_); refine Kd.R_lit (Kd.int .i64) _ 2 ?hg (N := 21) ?hd (xs := ([0, 1, (-1), 2, (-7), 1000, 1001] : List Int)) (inner := [.int .i64 0, .int .i64 1, .int .i64 (-1), .int .i64 2, .int .i64 (-7), .int .i64 1000, .int .i64 1001]) (ok := fun _ => True) (okp := fun _ => True) ?hr ?hp (fun _ hk => hk) trivial (Below.refl _ _) (Nat.le_refl _) (by simp) ?_; (case hd => rfl); (case hg => rfl); (case hr => first | (go_simp; done) | (go_simp; rfl)); (case hp => exact (Reps.one (show Kd.M (Kd.int .i64) _ _ _ 0 [.int .i64 0] from rfl) (Reps.one (show Kd.M (Kd.int .i64) _ _ _ 1 [.int .i64 1] from rfl) (Reps.one (show Kd.M (Kd.int .i64) _ _ _ (-1) [.int .i64 (-1)] from rfl) (Reps.one (show Kd.M (Kd.int .i64) _ _ _ 2 [.int .i64 2] from rfl) (Reps.one (show Kd.M (Kd.int .i64) _ _ _ (-7) [.int .i64 (-7)] from rfl) (Reps.one (show Kd.M (Kd.int .i64) _ _ _ 1000 [.int .i64 1000] from rfl) (Reps.one (show Kd.M (Kd.int .i64) _ _ _ 1001 [.int .i64 1001] from rfl) (Reps.none _ _))))))))); intro v675 w15 ho16 hb hg_ hnew_; clear hg_ hnew_; (first | rw [← Ny674.out] at ho16 | (simp only [Int.reduceToNat] at ho16; rw [← Ny674.out] at ho16)); have HO676 := Aside0.mk (Kd.R_lower (Kd.R_new' (Kd.R_new' ho16 (Kd.R_lt (Kd.R_below HO661.out bgo_))) (Kd.R_lt (Kd.R_below HO671.out bgo_))) (below_size IsS131.hb_)); replace HO661 := Aside0.mk (Kd.R_elder' (Kd.R_below HO661.out bgo_) (Kd.R_base ho16) hb); replace HO671 := Aside0.mk (Kd.R_elder' (Kd.R_below HO671.out bgo_) (Kd.R_base ho16) hb); replace HB := Aside0.mk (below_step IsS131.hb_ hb); replace HI653 := Aside0.mk (IsS131.below IsS131.go_ hb); clear hb ho16; obtain ⟨Ao17, co17, eo17⟩ := Kd.R_slice HO676.out; subst eo17) | ((with_reducible refine gate_callee (f := 144) rfl ?_); refine goesL_ (some 22) rfl rfl Try.func144 (by kernel_rfl) rfl #[.pointer (some ⟨g653, 0, none⟩), .slice Ao17 y674.length co17] rfl arg_ ?_; (with_reducible refine (spec_l01Pick.calls g653 t650 t672 t673 _ _ y674 t677 t678 t679 w _ ?side1 ?side2 ?side3 ?side4 ?side5 A7.out).mono ?_); (case side1 => exact IsS131.go_); (case side2 => exact IsS131.hb_); (case side3 => exact Kd.C_below (Kd.R_reads' HO676.out).2.2 bgo_); (case side4 => exact (Kd.R_reads' HO676.out).2.1); (case side5 => exact far_slice (IsS131.own_ne HI653.out HO676.out (by decide))); rintro e w18 ⟨rfl, hi, hb, hk⟩; refine ⟨_, rfl, ?_⟩; replace HO661 := Aside0.mk (Kd.R_mono (Kd.R_keep (IsS131.apart (show IsS131 w _ g653 t650 t672 t673 from IsS131.go_) (Kd.R_below HO661.out bgo_) (by decide)) hk (fun _ h => h.2)) (fun _ h => h.1)); replace HO671 := Aside0.mk (Kd.R_mono (Kd.R_keep (IsS131.apart (show IsS131 w _ g653 t650 t672 t673 from IsS131.go_) (Kd.R_below HO671.out bgo_) (by decide)) hk (fun _ h => h.2)) (fun _ h => h.1)); replace HO676 := Aside0.mk (Kd.R_mono (Kd.R_keep (IsS131.apart (show IsS131 w _ g653 t650 t672 t673 from IsS131.go_) (Kd.R_below HO676.out bgo_) (by decide)) hk (fun _ h => h.2)) (fun _ h => h.1)); replace HB := Aside0.mk (hb); replace HI653 := Aside0.mk (hi); (try clear hb); (try clear hb2); (try clear hk); (try clear hi)))
 go_ret3
 exact ⟨_, _, er_, by (with_reducible repeat (first | apply Kd.R_alloc | apply Kd.R_drewN | apply Kd.R_drew)); exact Kd.R_mono HO661.out (fun _ hk => hk.1), by (with_reducible repeat (first | apply Kd.R_alloc | apply Kd.R_drewN | apply Kd.R_drew)); exact Kd.R_mono HO671.out (fun _ hk => hk.1), IsS131.hb_⟩

/-! ### impl_AddWhole: function 70 -/
def impl_AddWhole.l0 : Nat → List Int → List Int → Int → List Int → Int → Int → Option (List Int × Int)
 | 0, _, _, _, _, _, _ => none
 | k + 1, x0, x1, x2, x8, x27, x28 => if x28 < x27 then ((impl_at.f x0 x28).bind fun t691 => ((impl_at.f x1 x28).bind fun t692 => ((impl_plusTimes.f k t691 x2 t692).bind fun bt693 => (if bt693.2 = true then (if x8.length < 17592186044416 then (impl_AddWhole.l0 k x0 x1 x2 (x8 ++ [bt693.1]) x27 (wrap64 (x28 + 1))) else (none)) else (some (([] : List Int), 3)))))) else ((impl_trimmed.f k x8).bind fun t688 => (some (t688, 0)))
def impl_AddWhole.f (k : Nat) (l0 : List Int) (l1 : List Int) (a2 : Int) : Option (List Int × Int) := (impl_areWhole.f k (([l0, l1] : List (List Int)))).bind fun t683 => (if t683 = true then ((impl_within.f a2 (-1000) 1000).bind fun t684 => (if t684 = true then (impl_AddWhole.l0 k l0 l1 a2 (([] : List Int)) (mx (l0.length : Int) (l1.length : Int)) 0) else (some (([] : List Int), 2)))) else (some (([] : List Int), 1)))
set_option maxHeartbeats 8000000 in
set_option maxRecDepth 100000 in
theorem impl_AddWhole.calls (k : Nat) (P0_ : Nat → Prop) (A0 : Option Addr) (c0 : Nat) (l0 : List Int) (P1_ : Nat → Prop) (A1 : Option Addr) (c1 : Nat) (l1 : List Int) (a2 : Int) (r1 : List Int) (r2 : Int) (w : World) (hs0 : Kd.V (Kd.int .i64) 2 w w.heap.size (fun k_ => P0_ k_) (.slice A0 l0.length c0) l0) (hs1 : Kd.V (Kd.int .i64) 2 w w.heap.size (fun k_ => P1_ k_) (.slice A1 l1.length c1) l1) (h : impl_AddWhole.f k l0 l1 a2 = some (r1, r2)) :
  Calls Try.prog 70 #[.slice A0 l0.length c0, .slice A1 l1.length c1, .int .i64 a2] w fun e w' => ∃ v0_ : Value, e = .returned (.tuple #[v0_, .int .i64 r2]) ∧ Kd.R (Kd.int .i64) 2 w' w.heap.size (fun k_ => (w.heap.size ≤ k_)) v0_ r1 ∧ Below w.heap.size w w' := by
 have HO0 := Aside0.mk (show Kd.V (Kd.int .i64) 2 w w.heap.size (fun k_ => ((P0_ k_ ∨ P1_ k_) ∨ w.heap.size ≤ k_)) (.slice A0 l0.length c0) l0 from Kd.V_mono hs0 (fun k_ hk => .inl (.inl hk)))
 have HO1 := Aside0.mk (show Kd.V (Kd.int .i64) 2 w w.heap.size (fun k_ => ((P0_ k_ ∨ P1_ k_) ∨ w.heap.size ≤ k_)) (.slice A1 l1.length c1) l1 from Kd.V_mono hs1 (fun k_ hk => .inl (.inr hk)))
 have HB := Aside0.mk (Below.refl w.heap.size w)
 have H : ((impl_areWhole.f k (([l0, l1] : List (List Int)))).bind fun t683 => (if t683 = true then ((impl_within.f a2 (-1000) 1000).bind fun t684 => (if t684 = true then (impl_AddWhole.l0 k l0 l1 a2 (([] : List Int)) (mx (l0.length : Int) (l1.length : Int)) 0) else (some (([] : List Int), 2)))) else (some (([] : List Int), 1)))) = some (r1, r2) := h
 clear h
 obtain ⟨y680, Ny680, H⟩ : ∃ y680 : List (List Int), Aside0 (y680 = (([l0, l1] : List (List Int)))) ∧ ((impl_areWhole.f k y680).bind fun t683 => (if t683 = true then ((impl_within.f a2 (-1000) 1000).bind fun t684 => (if t684 = true then (impl_AddWhole.l0 k l0 l1 a2 (([] : List Int)) (mx (l0.length : Int) (l1.length : Int)) 0) else (some (([] : List Int), 2)))) else (some (([] : List Int), 1)))) = some (r1, r2) := ⟨_, ⟨rfl⟩, H⟩
 obtain ⟨t683, A4, H⟩ := bnd_ H
 by_cases c5 : t683 = true
 ·subst c5
  have H1 : ((impl_within.f a2 (-1000) 1000).bind fun t684 => (if t684 = true then (impl_AddWhole.l0 k l0 l1 a2 (([] : List Int)) (mx (l0.length : Int) (l1.length : Int)) 0) else (some (([] : List Int), 2)))) = some (r1, r2) := by rw [if_pos rfl] at H; exact H
  clear H
  have H := H1
  clear H1
  obtain ⟨t684, A6, H⟩ := bnd_ H
  by_cases c7 : t684 = true
  ·subst c7
   have H1 : (impl_AddWhole.l0 k l0 l1 a2 (([] : List Int)) (mx (l0.length : Int) (l1.length : Int)) 0) = some (r1, r2) := by rw [if_pos rfl] at H; exact H
   clear H
   have H := H1
   clear H1
   obtain ⟨y685, Ny685, H⟩ : ∃ y685 : List Int, Aside0 (y685 = (([] : List Int))) ∧ (impl_AddWhole.l0 k l0 l1 a2 y685 (mx (l0.length : Int) (l1.length : Int)) 0) = some (r1, r2) := ⟨_, ⟨rfl⟩, H⟩
   obtain ⟨ji8, hji8⟩ : ∃ j_ : Int, (mx (l0.length : Int) (l1.length : Int)) = j_ := ⟨_, rfl⟩
   (try rw [hji8])
   replace H : (impl_AddWhole.l0 k l0 l1 a2 y685 ji8 0) = some (r1, r2) := by first | (rw [hji8] at H; exact H) | (simp only [hji8] at H ⊢; exact H)
   (try rw [hji8] at A4)
   (try rw [hji8] at A6)
   (try (have hji8l : 0 ≤ ji8 := by (rw [← hji8]; unfold mx; (repeat' split) <;> omega)))
   (try (have hji8m : 0 ≤ ji8 := by omega))
   have hji8_ : (if (l0.length : Int) < (l1.length : Int) then (l1.length : Int) else (l0.length : Int)) = ji8 := hji8
   have hji8N : (if l0.length < l1.length then (l1.length : Int) else (l0.length : Int)) = ji8 := by rw [← hji8_]; simp only [Int.ofNat_lt]
   have H' := Aside0.mk H
   clear H
   go_enter Try.func70, Try.ntmps70
   go_wp2_with (first | ((with_reducible refine gate_dst (N := 15) rfl ?_); refine Kd.N_lit (Kd.slice 2 (Kd.int .i64)) _ 29 ?hg (N' := 15) ?hd (xs := ([l0, l1] : List (List Int))) (inner := [.slice A0 l0.length c0, .slice A1 l1.length c1]) (ok := (fun k_ => ((P0_ k_ ∨ P1_ k_) ∨ w.heap.size ≤ k_))) (okp := (fun k_ => ((P0_ k_ ∨ P1_ k_) ∨ w.heap.size ≤ k_))) ?hr ?hp (fun _ hk => hk) ((show ∀ k_, w.heap.size ≤ k_ → (fun k_ => ((P0_ k_ ∨ P1_ k_) ∨ w.heap.size ≤ k_)) k_ from fun k_ hk => (.inr (Nat.le_trans (below_size hb_) hk))) _ (Nat.le_refl _)) (Below.refl _ _) (Nat.le_refl _) (by simp) ?_; (case hd => rfl); (case hg => rfl); (case hr => first | (go_simp; done) | (go_simp; rfl)); (case hp => exact (Reps.one (show Kd.FK (Kd.slice 2 (Kd.int .i64)) _ _ l0 [.slice A0 l0.length c0] from (Kd.FK_slice_mk (Kd.V_reads' (Kd.V_mono (ok' := (fun k_ => ((P0_ k_ ∨ P1_ k_) ∨ w.heap.size ≤ k_))) (HO0.out) (fun k_ hk => hk))).2.1 (Kd.V_F (Kd.V_mono (ok' := (fun k_ => ((P0_ k_ ∨ P1_ k_) ∨ w.heap.size ≤ k_))) (HO0.out) (fun k_ hk => hk))))) (Reps.one (show Kd.FK (Kd.slice 2 (Kd.int .i64)) _ _ l1 [.slice A1 l1.length c1] from (Kd.FK_slice_mk (Kd.V_reads' (Kd.V_mono (ok' := (fun k_ => ((P0_ k_ ∨ P1_ k_) ∨ w.heap.size ≤ k_))) (HO1.out) (fun k_ hk => hk))).2.1 (Kd.V_F (Kd.V_mono (ok' := (fun k_ => ((P0_ k_ ∨ P1_ k_) ∨ w.heap.size ≤ k_))) (HO1.out) (fun k_ hk => hk))))) (Reps.none _ _)))); intro v681 w9 ho10 hb hg_ hnew_; clear hg_ hnew_; (first | rw [← Ny680.out] at ho10 | (simp only [Int.reduceToNat] at ho10; rw [← Ny680.out] at ho10)); replace HO0 := Aside0.mk (Kd.V_elder' (Kd.V_below HO0.out bgo_) (Kd.N_base ho10) hb); replace HO1 := Aside0.mk (Kd.V_elder' (Kd.V_below HO1.out bgo_) (Kd.N_base ho10) hb); have HO682 := Aside0.mk (Kd.N_lower ho10 (below_size hb_)); replace HB := Aside0.mk (below_step hb_ hb); clear hb ho10; obtain ⟨Ao11, co11, eo11⟩ := Kd.N_slice HO682.out; subst eo11) | ((with_reducible refine gate_callee (f := 163) rfl ?_); refine goesL_ (some 16) rfl rfl Try.func163 (by kernel_rfl) rfl #[.slice Ao11 y680.length co11] rfl arg_ ?_; (with_reducible refine (impl_areWhole.calls k _ _ y680 true _ ?side1 ?side2 A4.out).mono ?_); (case side1 => exact Kd.C_below (Kd.N_reads' HO682.out).2.2 bgo_); (case side2 => exact (Kd.N_reads' HO682.out).2.1); rintro e w12 ⟨rfl, hb⟩; refine ⟨_, rfl, ?_⟩; replace HO0 := Aside0.mk (Kd.V_below (Kd.V_below HO0.out bgo_) hb); replace HO1 := Aside0.mk (Kd.V_below (Kd.V_below HO1.out bgo_) hb); replace HO682 := Aside0.mk (Kd.N_below (Kd.N_below HO682.out bgo_) hb); replace HB := Aside0.mk (below_step hb_ hb); (try clear hb); (try clear hb2); (try clear hk); (try clear hi)) | ((with_reducible refine gate_callee (f := 106) rfl ?_); refine goesL_ (some 20) rfl rfl Try.func106 (by kernel_rfl) rfl #[.int .i64 a2, .int .i64 (-1000), .int .i64 1000] rfl arg_ ?_; (with_reducible refine (impl_within.calls a2 (-1000) 1000 true _ A6.out).mono ?_); rintro e w' ⟨rfl, ⟨nd, rfl⟩⟩; refine ⟨_, rfl, ?_⟩) | ((with_reducible refine gate_dst (N := 22) rfl ?_); refine Kd.R_lit (Kd.int .i64) _ 2 ?hg (N := 22) ?hd (xs := ([] : List Int)) (inner := []) (ok := fun _ => True) (okp := fun _ => True) ?hr ?hp (fun _ hk => hk) trivial (Below.refl _ _) (Nat.le_refl _) (by simp) ?_; (case hd => rfl); (case hg => rfl); (case hr => first | (go_simp; done) | (go_simp; rfl)); (case hp => exact (Reps.none _ _)); intro v686 w13 ho14 hb hg_ hnew_; clear hg_ hnew_; (first | rw [← Ny685.out] at ho14 | (simp only [Int.reduceToNat] at ho14; rw [← Ny685.out] at ho14)); replace HO0 := Aside0.mk (Kd.V_elder' (Kd.V_below HO0.out bgo_) (Kd.R_base ho14) hb); replace HO1 := Aside0.mk (Kd.V_elder' (Kd.V_below HO1.out bgo_) (Kd.R_base ho14) hb); replace HO682 := Aside0.mk (Kd.N_elder' (Kd.N_below HO682.out bgo_) (Kd.R_base ho14) hb); have HO687 := Aside0.mk (Kd.R_lower (Kd.R_newM (M := fun k_ => (w.heap.size ≤ k_)) ho14 (below_size hb_) (fun k_ h_ => h_)) (below_size hb_)); replace HB := Aside0.mk (below_step hb_ hb); clear hb ho14))
   go_loopg [8, 28] k (fun kq v8 v28 w' => ∃ (x8_1 : List Int) (x28_1 : Int), v28 = .int .i64 x28_1 ∧ Aside0 (impl_AddWhole.l0 kq l0 l1 a2 x8_1 ji8 x28_1 = some (r1, r2)) ∧ Aside0 (kq ≤ k) ∧ Aside0 (Kd.V (Kd.int .i64) 2 w' w.heap.size (fun k_ => ((P0_ k_ ∨ P1_ k_) ∨ w.heap.size ≤ k_) ∧ some k_ ≠ (v8 : Value).ownBlock) (.slice A0 l0.length c0) l0) ∧ Aside0 (Kd.V (Kd.int .i64) 2 w' w.heap.size (fun k_ => ((P0_ k_ ∨ P1_ k_) ∨ w.heap.size ≤ k_) ∧ some k_ ≠ (v8 : Value).ownBlock) (.slice A1 l1.length c1) l1) ∧ Aside0 (Kd.R (Kd.int .i64) 2 w' w.heap.size (fun k_ => (w.heap.size ≤ k_)) v8 x8_1) ∧ Aside0 (Below w.heap.size w w'))
   case atStart => exact ⟨(y685), (0), es_, H', ⟨Nat.le_refl _⟩, ⟨by (with_reducible repeat (first | apply Kd.V_alloc | apply Kd.V_drewN | apply Kd.V_drew)); exact Kd.V_mono HO0.out (fun _ hk => ⟨hk.1.1, hk.2⟩)⟩, ⟨by (with_reducible repeat (first | apply Kd.V_alloc | apply Kd.V_drewN | apply Kd.V_drew)); exact Kd.V_mono HO1.out (fun _ hk => ⟨hk.1.1, hk.2⟩)⟩, ⟨by (with_reducible repeat (first | apply Kd.R_alloc | apply Kd.R_drewN | apply Kd.R_drew)); exact Kd.R_mono HO687.out (fun _ hk => hk.1)⟩, ⟨hb_⟩⟩
   case round =>
    clear H'
    obtain ⟨x8_1, x28_1, rfl, HA, HK1, HO_0, HO_1, HO_8, HB⟩ := hrel
    cases gk with
    | zero => exact absurd HA.out (by simp [impl_AddWhole.l0])
    | succ k1 =>
     have H := HA.out
     clear HA
     simp only [impl_AddWhole.l0] at H
     by_cases c15 : x28_1 < ji8
     ·rw [if_pos c15] at H
      have c15b0 := decide_eq_true c15
      clear c15
      obtain ⟨t691, A16, H⟩ := bnd_ H
      obtain ⟨t692, A17, H⟩ := bnd_ H
      obtain ⟨⟨t693, t694⟩, A18, H⟩ := bnd_ H
      dsimp only at H
      by_cases c19 : t694 = true
      ·subst c19
       have H1 : (if x8_1.length < 17592186044416 then (impl_AddWhole.l0 k1 l0 l1 a2 (x8_1 ++ [t693]) ji8 (wrap64 (x28_1 + 1))) else (none)) = some (r1, r2) := by rw [if_pos rfl] at H; exact H
       clear H
       have H := H1
       clear H1
       obtain ⟨c20, H⟩ := itn_ H
       have LMc20 := Aside0.mk c20
       clear c20
       obtain ⟨y695, Ny695, H⟩ : ∃ y695 : List Int, Aside0 (y695 = (x8_1 ++ [t693])) ∧ (impl_AddWhole.l0 k1 l0 l1 a2 y695 ji8 (wrap64 (x28_1 + 1))) = some (r1, r2) := ⟨_, ⟨rfl⟩, H⟩
       have H' := Aside0.mk H
       clear H
       go_wp2_with (first | ((with_reducible refine gate_callee (f := 140) rfl ?_); refine goesL_ (some 34) rfl rfl Try.func140 (by kernel_rfl) rfl #[.slice A0 l0.length c0, .int .i64 x28_1] rfl arg_ ?_; (with_reducible refine (impl_at.calls _ _ l0 x28_1 t691 _ ?side1 ?side2 A16.out).mono ?_); (case side1 => exact Kd.C_below (Kd.V_reads' HO_0.out).2.2 bgo_); (case side2 => exact (Kd.V_reads' HO_0.out).2.1); rintro e w' ⟨rfl, ⟨nd, rfl⟩⟩; refine ⟨_, rfl, ?_⟩) | ((with_reducible refine gate_callee (f := 140) rfl ?_); refine goesL_ (some 38) rfl rfl Try.func140 (by kernel_rfl) rfl #[.slice A1 l1.length c1, .int .i64 x28_1] rfl arg_ ?_; (with_reducible refine (impl_at.calls _ _ l1 x28_1 t692 _ ?side1 ?side2 A17.out).mono ?_); (case side1 => exact Kd.C_below (Kd.V_reads' HO_1.out).2.2 bgo_); (case side2 => exact (Kd.V_reads' HO_1.out).2.1); rintro e w' ⟨rfl, ⟨nd, rfl⟩⟩; refine ⟨_, rfl, ?_⟩) | ((with_reducible refine gate_callee (f := 168) rfl ?_); refine goesL_ (some 39) rfl rfl Try.func168 (by kernel_rfl) rfl #[.int .i64 t691, .int .i64 a2, .int .i64 t692] rfl arg_ ?_; (with_reducible refine (impl_plusTimes.calls k1 t691 a2 t692 t693 true _ A18.out).mono ?_); rintro e w21 ⟨rfl, hb⟩; refine ⟨_, rfl, ?_⟩; replace HO_0 := Aside0.mk (Kd.V_below (Kd.V_below HO_0.out bgo_) hb); replace HO_1 := Aside0.mk (Kd.V_below (Kd.V_below HO_1.out bgo_) hb); replace HO_8 := Aside0.mk (Kd.R_below (Kd.R_below HO_8.out bgo_) hb); replace HB := Aside0.mk (below_step hb_ hb); (try clear hb); (try clear hb2); (try clear hk); (try clear hi)) | ((with_reducible refine gate_builtin (b := .append) (xs := #[.tmp 44, .tmp 46]) rfl ?_); at_builtin; refine Kd.R_append (Kd.int .i64) (w0 := w) w.heap.size rfl (.tmp 44) (.tmp 46) 29 2 (.int .i64 0) 8 rfl Try.underlying29 info2 rfl (by decide) (by omega) u8 x8_1 t693 [.int .i64 t693] (fun k_ => (w.heap.size ≤ k_)) (fun _ => False) rfl rfl ?aP (fun _ hk => hk.elim) ?aF ?aO ?aB ?aS ?aL ?_; (case aP => exact rfl); (case aB => exact hb_); (case aF => exact (fun k_ hk => (Nat.le_trans (below_size hb_) hk))); (case aO => exact (Kd.R_below HO_8.out bgo_)); (case aS => exact (below_size hb_)); (case aL => have := LMc20.out; omega); intro v696 w22 ho hb hg hat; rw [← Ny695.out] at ho; replace HO_0 := Aside0.mk (Kd.V_afterv (ok := (fun k_ => ((P0_ k_ ∨ P1_ k_) ∨ w.heap.size ≤ k_))) (Kd.V_below HO_0.out bgo_) hg hat); replace HO_1 := Aside0.mk (Kd.V_afterv (ok := (fun k_ => ((P0_ k_ ∨ P1_ k_) ∨ w.heap.size ≤ k_))) (Kd.V_below HO_1.out bgo_) hg hat); replace HB := Aside0.mk (hb); have HO697 := Aside0.mk (ho); clear HO_8; clear ho hb hg hat))
       first | (first | go_roundg k1 | (refine Handed.intro k1 ?measure ?_; rotate_left; go_step; (try simp only [add_plain]); (repeat apply Exists.intro); refine ⟨?rel, rfl⟩)) | ((try subst hji8); (first | go_roundg k1 | (refine Handed.intro k1 ?measure ?_; rotate_left; go_step; (try simp only [add_plain]); (repeat apply Exists.intro); refine ⟨?rel, rfl⟩)))
       case measure => have := HK1.out; omega
       case rel => exact ⟨(y695), (wrap64 (x28_1 + 1)), es_, H', ⟨by have := HK1.out; omega⟩, ⟨Kd.V_below HO_0.out bgo_⟩, ⟨Kd.V_below HO_1.out bgo_⟩, ⟨Kd.R_below HO697.out bgo_⟩, ⟨hb_⟩⟩
      ·replace c19 := Bool.eq_false_iff.mpr c19
       subst c19
       have H1 : (some (([] : List Int), 3)) = some (r1, r2) := by rw [if_neg (show ¬ (false = true) by decide)] at H; exact H
       clear H
       have H := H1
       clear H1
       simp only [Option.some.injEq, Prod.mk.injEq] at H
       obtain ⟨rfl, rfl⟩ := H
       go_wp2_with (first | ((with_reducible refine gate_callee (f := 140) rfl ?_); refine goesL_ (some 34) rfl rfl Try.func140 (by kernel_rfl) rfl #[.slice A0 l0.length c0, .int .i64 x28_1] rfl arg_ ?_; (with_reducible refine (impl_at.calls _ _ l0 x28_1 t691 _ ?side1 ?side2 A16.out).mono ?_); (case side1 => exact Kd.C_below (Kd.V_reads' HO_0.out).2.2 bgo_); (case side2 => exact (Kd.V_reads' HO_0.out).2.1); rintro e w' ⟨rfl, ⟨nd, rfl⟩⟩; refine ⟨_, rfl, ?_⟩) | ((with_reducible refine gate_callee (f := 140) rfl ?_); refine goesL_ (some 38) rfl rfl Try.func140 (by kernel_rfl) rfl #[.slice A1 l1.length c1, .int .i64 x28_1] rfl arg_ ?_; (with_reducible refine (impl_at.calls _ _ l1 x28_1 t692 _ ?side1 ?side2 A17.out).mono ?_); (case side1 => exact Kd.C_below (Kd.V_reads' HO_1.out).2.2 bgo_); (case side2 => exact (Kd.V_reads' HO_1.out).2.1); rintro e w' ⟨rfl, ⟨nd, rfl⟩⟩; refine ⟨_, rfl, ?_⟩) | ((with_reducible refine gate_callee (f := 168) rfl ?_); refine goesL_ (some 39) rfl rfl Try.func168 (by kernel_rfl) rfl #[.int .i64 t691, .int .i64 a2, .int .i64 t692] rfl arg_ ?_; (with_reducible refine (impl_plusTimes.calls k1 t691 a2 t692 t693 false _ A18.out).mono ?_); rintro e w23 ⟨rfl, hb⟩; refine ⟨_, rfl, ?_⟩; replace HO_0 := Aside0.mk (Kd.V_below (Kd.V_below HO_0.out bgo_) hb); replace HO_1 := Aside0.mk (Kd.V_below (Kd.V_below HO_1.out bgo_) hb); replace HO_8 := Aside0.mk (Kd.R_below (Kd.R_below HO_8.out bgo_) hb); replace HB := Aside0.mk (below_step hb_ hb); (try clear hb); (try clear hb2); (try clear hk); (try clear hi)))
       go_ret2
       exact ⟨_, by first | rfl | (simp [errW_none, errW_some] <;> rfl) | (simp only [← hji8]; first | rfl | (simp [errW_none, errW_some] <;> rfl)) | (simp [*, errW_none, errW_some] <;> rfl), by first | exact Kd.R_nil _ _ _ _ _ | exact Kd.N_nil _ _ _ _ _ | exact Kd.V_nil _ _ _ _ _ | exact Kd.Q_nil _ _ _ _ _ | exact Kd.S_nil _ _ _ _ _, hb_⟩
     ·rw [if_neg c15] at H
      have c15b0 := decide_eq_false c15
      clear c15
      obtain ⟨t688, A24, H⟩ := bnd_ H
      simp only [Option.some.injEq, Prod.mk.injEq] at H
      obtain ⟨rfl, rfl⟩ := H
      obtain ⟨Ao25, co25, eo25⟩ := Kd.R_slice HO_8.out
      subst eo25
      go_wp2_with (first | ((with_reducible refine gate_callee (f := 170) rfl ?_); refine goesL_ (some 50) rfl rfl Try.func170 (by kernel_rfl) rfl #[.slice Ao25 x8_1.length co25] rfl arg_ ?_; (with_reducible refine (impl_trimmed.calls k1 (fun k_ => some k_ = (.slice Ao25 x8_1.length co25 : Value).ownBlock) _ _ x8_1 t688 _ ?side1 A24.out).mono ?_); (case side1 => exact Kd.R_V (Kd.R_tight rfl (HO_8.out))); rintro e w26 ⟨v689, rfl, ho0, hb⟩; refine ⟨_, rfl, ?_⟩; replace HO_0 := Aside0.mk (Kd.V_elder' (Kd.V_below HO_0.out bgo_) (Kd.R_base ho0) hb); replace HO_1 := Aside0.mk (Kd.V_elder' (Kd.V_below HO_1.out bgo_) (Kd.R_base ho0) hb); have HO690 := Aside0.mk (Kd.R_lower (Kd.R_new' (Kd.R_newM (M := fun k_ => (w.heap.size ≤ k_)) (Kd.R_mono (ok' := fun k_ => True) ho0 (fun _ hk_ => trivial)) (below_size hb_) (fun k_ h_ => h_)) (Kd.R_lt (Kd.R_below HO_8.out bgo_))) (below_size hb_)); replace HO_8 := Aside0.mk (Kd.R_elder' (Kd.R_below HO_8.out bgo_) (Kd.R_base ho0) hb); replace HB := Aside0.mk (below_step hb_ hb); (try clear hb); (try clear hb2); (try clear hk); (try clear hi); (try clear ho0)))
      go_ret2
      exact ⟨_, by first | rfl | (simp [errW_none, errW_some] <;> rfl) | (simp only [← hji8]; first | rfl | (simp [errW_none, errW_some] <;> rfl)) | (simp [*, errW_none, errW_some] <;> rfl), by (with_reducible repeat (first | apply Kd.R_alloc | apply Kd.R_drewN | apply Kd.R_drew)); exact Kd.R_mono HO690.out (fun _ hk => hk.1.1), hb_⟩
  ·replace c7 := Bool.eq_false_iff.mpr c7
   subst c7
   have H1 : (some (([] : List Int), 2)) = some (r1, r2) := by rw [if_neg (show ¬ (false = true) by decide)] at H; exact H
   clear H
   have H := H1
   clear H1
   simp only [Option.some.injEq, Prod.mk.injEq] at H
   obtain ⟨rfl, rfl⟩ := H
   go_enter Try.func70, Try.ntmps70
   go_wp2_with (first | ((with_reducible refine gate_dst (N := 15) rfl ?_); refine Kd.N_lit (Kd.slice 2 (Kd.int .i64)) _ 29 ?hg (N' := 15) ?hd (xs := ([l0, l1] : List (List Int))) (inner := [.slice A0 l0.length c0, .slice A1 l1.length c1]) (ok := (fun k_ => ((P0_ k_ ∨ P1_ k_) ∨ w.heap.size ≤ k_))) (okp := (fun k_ => ((P0_ k_ ∨ P1_ k_) ∨ w.heap.size ≤ k_))) ?hr ?hp (fun _ hk => hk) ((show ∀ k_, w.heap.size ≤ k_ → (fun k_ => ((P0_ k_ ∨ P1_ k_) ∨ w.heap.size ≤ k_)) k_ from fun k_ hk => (.inr (Nat.le_trans (below_size hb_) hk))) _ (Nat.le_refl _)) (Below.refl _ _) (Nat.le_refl _) (by simp) ?_; (case hd => rfl); (case hg => rfl); (case hr => first | (go_simp; done) | (go_simp; rfl)); (case hp => exact (Reps.one (show Kd.FK (Kd.slice 2 (Kd.int .i64)) _ _ l0 [.slice A0 l0.length c0] from (Kd.FK_slice_mk (Kd.V_reads' (Kd.V_mono (ok' := (fun k_ => ((P0_ k_ ∨ P1_ k_) ∨ w.heap.size ≤ k_))) (HO0.out) (fun k_ hk => hk))).2.1 (Kd.V_F (Kd.V_mono (ok' := (fun k_ => ((P0_ k_ ∨ P1_ k_) ∨ w.heap.size ≤ k_))) (HO0.out) (fun k_ hk => hk))))) (Reps.one (show Kd.FK (Kd.slice 2 (Kd.int .i64)) _ _ l1 [.slice A1 l1.length c1] from (Kd.FK_slice_mk (Kd.V_reads' (Kd.V_mono (ok' := (fun k_ => ((P0_ k_ ∨ P1_ k_) ∨ w.heap.size ≤ k_))) (HO1.out) (fun k_ hk => hk))).2.1 (Kd.V_F (Kd.V_mono (ok' := (fun k_ => ((P0_ k_ ∨ P1_ k_) ∨ w.heap.size ≤ k_))) (HO1.out) (fun k_ hk => hk))))) (Reps.none _ _)))); intro v681 w27 ho28 hb hg_ hnew_; clear hg_ hnew_; (first | rw [← Ny680.out] at ho28 | (simp only [Int.reduceToNat] at ho28; rw [← Ny680.out] at ho28)); replace HO0 := Aside0.mk (Kd.V_elder' (Kd.V_below HO0.out bgo_) (Kd.N_base ho28) hb); replace HO1 := Aside0.mk (Kd.V_elder' (Kd.V_below HO1.out bgo_) (Kd.N_base ho28) hb); have HO682 := Aside0.mk (Kd.N_lower ho28 (below_size hb_)); replace HB := Aside0.mk (below_step hb_ hb); clear hb ho28; obtain ⟨Ao29, co29, eo29⟩ := Kd.N_slice HO682.out; subst eo29) | ((with_reducible refine gate_callee (f := 163) rfl ?_); refine goesL_ (some 16) rfl rfl Try.func163 (by kernel_rfl) rfl #[.slice Ao29 y680.length co29] rfl arg_ ?_; (with_reducible refine (impl_areWhole.calls k _ _ y680 true _ ?side1 ?side2 A4.out).mono ?_); (case side1 => exact Kd.C_below (Kd.N_reads' HO682.out).2.2 bgo_); (case side2 => exact (Kd.N_reads' HO682.out).2.1); rintro e w30 ⟨rfl, hb⟩; refine ⟨_, rfl, ?_⟩; replace HO0 := Aside0.mk (Kd.V_below (Kd.V_below HO0.out bgo_) hb); replace HO1 := Aside0.mk (Kd.V_below (Kd.V_below HO1.out bgo_) hb); replace HO682 := Aside0.mk (Kd.N_below (Kd.N_below HO682.out bgo_) hb); replace HB := Aside0.mk (below_step hb_ hb); (try clear hb); (try clear hb2); (try clear hk); (try clear hi)) | ((with_reducible refine gate_callee (f := 106) rfl ?_); refine goesL_ (some 20) rfl rfl Try.func106 (by kernel_rfl) rfl #[.int .i64 a2, .int .i64 (-1000), .int .i64 1000] rfl arg_ ?_; (with_reducible refine (impl_within.calls a2 (-1000) 1000 false _ A6.out).mono ?_); rintro e w' ⟨rfl, ⟨nd, rfl⟩⟩; refine ⟨_, rfl, ?_⟩))
   go_ret2
   exact ⟨_, er_, by first | exact Kd.R_nil _ _ _ _ _ | exact Kd.N_nil _ _ _ _ _ | exact Kd.V_nil _ _ _ _ _ | exact Kd.Q_nil _ _ _ _ _ | exact Kd.S_nil _ _ _ _ _, hb_⟩
 ·replace c5 := Bool.eq_false_iff.mpr c5
  subst c5
  have H1 : (some (([] : List Int), 1)) = some (r1, r2) := by rw [if_neg (show ¬ (false = true) by decide)] at H; exact H
  clear H
  have H := H1
  clear H1
  simp only [Option.some.injEq, Prod.mk.injEq] at H
  obtain ⟨rfl, rfl⟩ := H
  go_enter Try.func70, Try.ntmps70
  go_wp2_with (first | ((with_reducible refine gate_dst (N := 15) rfl ?_); refine Kd.N_lit (Kd.slice 2 (Kd.int .i64)) _ 29 ?hg (N' := 15) ?hd (xs := ([l0, l1] : List (List Int))) (inner := [.slice A0 l0.length c0, .slice A1 l1.length c1]) (ok := (fun k_ => ((P0_ k_ ∨ P1_ k_) ∨ w.heap.size ≤ k_))) (okp := (fun k_ => ((P0_ k_ ∨ P1_ k_) ∨ w.heap.size ≤ k_))) ?hr ?hp (fun _ hk => hk) ((show ∀ k_, w.heap.size ≤ k_ → (fun k_ => ((P0_ k_ ∨ P1_ k_) ∨ w.heap.size ≤ k_)) k_ from fun k_ hk => (.inr (Nat.le_trans (below_size hb_) hk))) _ (Nat.le_refl _)) (Below.refl _ _) (Nat.le_refl _) (by simp) ?_; (case hd => rfl); (case hg => rfl); (case hr => first | (go_simp; done) | (go_simp; rfl)); (case hp => exact (Reps.one (show Kd.FK (Kd.slice 2 (Kd.int .i64)) _ _ l0 [.slice A0 l0.length c0] from (Kd.FK_slice_mk (Kd.V_reads' (Kd.V_mono (ok' := (fun k_ => ((P0_ k_ ∨ P1_ k_) ∨ w.heap.size ≤ k_))) (HO0.out) (fun k_ hk => hk))).2.1 (Kd.V_F (Kd.V_mono (ok' := (fun k_ => ((P0_ k_ ∨ P1_ k_) ∨ w.heap.size ≤ k_))) (HO0.out) (fun k_ hk => hk))))) (Reps.one (show Kd.FK (Kd.slice 2 (Kd.int .i64)) _ _ l1 [.slice A1 l1.length c1] from (Kd.FK_slice_mk (Kd.V_reads' (Kd.V_mono (ok' := (fun k_ => ((P0_ k_ ∨ P1_ k_) ∨ w.heap.size ≤ k_))) (HO1.out) (fun k_ hk => hk))).2.1 (Kd.V_F (Kd.V_mono (ok' := (fun k_ => ((P0_ k_ ∨ P1_ k_) ∨ w.heap.size ≤ k_))) (HO1.out) (fun k_ hk => hk))))) (Reps.none _ _)))); intro v681 w31 ho32 hb hg_ hnew_; clear hg_ hnew_; (first | rw [← Ny680.out] at ho32 | (simp only [Int.reduceToNat] at ho32; rw [← Ny680.out] at ho32)); replace HO0 := Aside0.mk (Kd.V_elder' (Kd.V_below HO0.out bgo_) (Kd.N_base ho32) hb); replace HO1 := Aside0.mk (Kd.V_elder' (Kd.V_below HO1.out bgo_) (Kd.N_base ho32) hb); have HO682 := Aside0.mk (Kd.N_lower ho32 (below_size hb_)); replace HB := Aside0.mk (below_step hb_ hb); clear hb ho32; obtain ⟨Ao33, co33, eo33⟩ := Kd.N_slice HO682.out; subst eo33) | ((with_reducible refine gate_callee (f := 163) rfl ?_); refine goesL_ (some 16) rfl rfl Try.func163 (by kernel_rfl) rfl #[.slice Ao33 y680.length co33] rfl arg_ ?_; (with_reducible refine (impl_areWhole.calls k _ _ y680 false _ ?side1 ?side2 A4.out).mono ?_); (case side1 => exact Kd.C_below (Kd.N_reads' HO682.out).2.2 bgo_); (case side2 => exact (Kd.N_reads' HO682.out).2.1); rintro e w34 ⟨rfl, hb⟩; refine ⟨_, rfl, ?_⟩; replace HO0 := Aside0.mk (Kd.V_below (Kd.V_below HO0.out bgo_) hb); replace HO1 := Aside0.mk (Kd.V_below (Kd.V_below HO1.out bgo_) hb); replace HO682 := Aside0.mk (Kd.N_below (Kd.N_below HO682.out bgo_) hb); replace HB := Aside0.mk (below_step hb_ hb); (try clear hb); (try clear hb2); (try clear hk); (try clear hi)))
  go_ret2
  exact ⟨_, er_, by first | exact Kd.R_nil _ _ _ _ _ | exact Kd.N_nil _ _ _ _ _ | exact Kd.V_nil _ _ _ _ _ | exact Kd.Q_nil _ _ _ _ _ | exact Kd.S_nil _ _ _ _ _, hb_⟩

/-! ### spec_AddWhole: function 71 -/
mutual
def spec_AddWhole.j0 : Nat → List Int → List Int → Int → Bool → Option (List Int × Int)
 | 0, _, _, _, _ => none
 | k + 1, x0, x1, x2, x13 => if x13 = true then (some (([] : List Int), 1)) else ((spec_l01In.f x2 (-1000) 1000).bind fun t700 => (if t700 = true then (if 0 ≤ (mx (x0.length : Int) (x1.length : Int)) then (if (mx (x0.length : Int) (x1.length : Int) : Int).toNat ≤ 35184372088832 then (spec_AddWhole.l0 k x0 x1 x2 (List.replicate (mx (x0.length : Int) (x1.length : Int) : Int).toNat 0) 0) else (none)) else (none)) else (some (([] : List Int), 2))))
def spec_AddWhole.l0 : Nat → List Int → List Int → Int → List Int → Int → Option (List Int × Int)
 | 0, _, _, _, _, _ => none
 | k + 1, x0, x1, x2, x8, x9 => if x9 < (x0.length : Int) then (if 0 ≤ x9 then (if x9 < (x8.length : Int) then (spec_AddWhole.l0 k x0 x1 x2 (x8.set (x9 : Int).toNat (rd x0 x9)) (wrap64 (x9 + 1))) else (none)) else (none)) else (spec_AddWhole.l1 k x1 x2 x8 0)
def spec_AddWhole.l1 : Nat → List Int → Int → List Int → Int → Option (List Int × Int)
 | 0, _, _, _, _ => none
 | k + 1, x1, x2, x8, x10 => if x10 < (x1.length : Int) then (if 0 ≤ x10 then (if x10 < (x8.length : Int) then ((spec_l01More.f (rd x8 x10) x2 (rd x1 x10)).bind fun bt708 => (if bt708.2 = true then (spec_AddWhole.l1 k x1 x2 (x8.set (x10 : Int).toNat bt708.1) (wrap64 (x10 + 1))) else (some (([] : List Int), 3)))) else (none)) else (none)) else ((spec_l01Trim.f k x8).bind fun t711 => (some (t711, 0)))
end
def spec_AddWhole.f (k : Nat) (l0 : List Int) (l1 : List Int) (a2 : Int) : Option (List Int × Int) := (spec_l01Poly.f k l0).bind fun t698 => (if t698 = true then ((spec_l01Poly.f k l1).bind fun t699 => (spec_AddWhole.j0 k l0 l1 a2 (!t699))) else (spec_AddWhole.j0 k l0 l1 a2 true))
def spec_AddWhole.T13 : Bool × List (List Nat × List Nat) := (true, [([], []), ([], []), ([0, 1], [0, 1]), ([2], [2]), ([], []), ([], []), ([], []), ([5, 6], [5, 6]), ([7], [7]), ([3, 4, 8], [3, 4, 8]), ([9], [9]), ([10], [10]), ([10], [10]), ([11, 9, 0, 1, 2, 3, 4, 5, 6, 7, 8, 9, 10, 11], [11]), ([12, 13, 0, 1, 2, 3, 4, 5, 6, 7, 8, 9, 10, 11, 12, 13], [12])])
def spec_AddWhole.B13 : List Nat := [0, 0, 3, 7, 0, 0, 0, 96, 224, 511, 1023, 2047, 2047, 4095, 16383]
theorem spec_AddWhole.tab13 : rtab .any (opsOf Try.f71 13) = spec_AddWhole.T13 := by kernel_rfl
theorem spec_AddWhole.bits13 : waitsOk spec_AddWhole.T13.2 spec_AddWhole.B13 = true := by kernel_rfl
set_option maxHeartbeats 8000000 in
set_option maxRecDepth 100000 in
theorem spec_AddWhole.calls (k : Nat) (A0 : Option Addr) (c0 : Nat) (l0 : List Int) (A1 : Option Addr) (c1 : Nat) (l1 : List Int) (a2 : Int) (r1 : List Int) (r2 : Int) (w : World) (hr0 : Kd.C (Kd.int .i64) w A0 l0.length l0) (hc0 : l0.length ≤ c0) (hr1 : Kd.C (Kd.int .i64) w A1 l1.length l1) (hc1 : l1.length ≤ c1) (h : spec_AddWhole.f k l0 l1 a2 = some (r1, r2)) :
  Calls Try.prog 71 #[.slice A0 l0.length c0, .slice A1 l1.length c1, .int .i64 a2] w fun e w' => ∃ v0_ : Value, e = .returned (.tuple #[v0_, .int .i64 r2]) ∧ Kd.R (Kd.int .i64) 2 w' w.heap.size (fun _ => True) v0_ r1 ∧ Below w.heap.size w w' := by
 have HR0 := Aside0.mk hr0
 have HC0 := Aside0.mk hc0
 clear hr0 hc0
 have HR1 := Aside0.mk hr1
 have HC1 := Aside0.mk hc1
 clear hr1 hc1
 have HB := Aside0.mk (Below.refl w.heap.size w)
 have H : ((spec_l01Poly.f k l0).bind fun t698 => (if t698 = true then ((spec_l01Poly.f k l1).bind fun t699 => (spec_AddWhole.j0 k l0 l1 a2 (!t699))) else (spec_AddWhole.j0 k l0 l1 a2 true))) = some (r1, r2) := h
 clear h
 have HC4 := Aside0.mk H
 clear H
 go_enter Try.func71, Try.ntmps71
 go_upto_region 1 with (fail)
 go_cut [13] (fun v13 wc => ∃ (kq : Nat) (x13_3 : Bool), v13 = .bool x13_3 ∧ Aside0 (spec_AddWhole.j0 kq l0 l1 a2 x13_3 = some (r1, r2)) ∧ Aside0 (kq ≤ k) ∧ Aside0 (Below w.heap.size w wc))
 case first =>
  have H := HC4.out
  clear HC4
  obtain ⟨t698, A5, H⟩ := bnd_ H
  by_cases c6 : t698 = true
  ·subst c6
   have H1 : ((spec_l01Poly.f k l1).bind fun t699 => (spec_AddWhole.j0 k l0 l1 a2 (!t699))) = some (r1, r2) := by rw [if_pos rfl] at H; exact H
   clear H
   have H := H1
   clear H1
   obtain ⟨t699, A7, H⟩ := bnd_ H
   have H' := Aside0.mk H
   clear H
   go_wp2_with (first | ((with_reducible refine gate_callee (f := 165) rfl ?_); refine goesL_ (some 15) rfl rfl Try.func165 (by kernel_rfl) rfl #[.slice A0 l0.length c0] rfl arg_ ?_; (with_reducible refine (spec_l01Poly.calls k _ _ l0 true _ ?side1 ?side2 A5.out).mono ?_); (case side1 => exact Kd.C_below (Kd.C_below HR0.out HB.out) bgo_); (case side2 => exact HC0.out); rintro e w' ⟨rfl, ⟨nd, rfl⟩⟩; refine ⟨_, rfl, ?_⟩) | (go_at_call 165; (with_reducible refine (spec_l01Poly.calls k _ _ l1 t699 _ ?side1 ?side2 A7.out).mono ?_); (case side1 => exact Kd.C_below (Kd.C_below HR1.out hb_) bgo_); (case side2 => exact HC1.out); rintro e w' ⟨rfl, ⟨nd, rfl⟩⟩))
   go_meet
   case rel => exact ⟨_, (!t699), es_, H', ⟨by first | omega | exact Nat.le_refl _⟩, ⟨hb_⟩⟩
  ·replace c6 := Bool.eq_false_iff.mpr c6
   subst c6
   have H1 : (spec_AddWhole.j0 k l0 l1 a2 true) = some (r1, r2) := by rw [if_neg (show ¬ (false = true) by decide)] at H; exact H
   clear H
   have H := H1
   clear H1
   have H' := Aside0.mk H
   clear H
   go_wp2_with (first | ((with_reducible refine gate_callee (f := 165) rfl ?_); refine goesL_ (some 15) rfl rfl Try.func165 (by kernel_rfl) rfl #[.slice A0 l0.length c0] rfl arg_ ?_; (with_reducible refine (spec_l01Poly.calls k _ _ l0 false _ ?side1 ?side2 A5.out).mono ?_); (case side1 => exact Kd.C_below (Kd.C_below HR0.out HB.out) bgo_); (case side2 => exact HC0.out); rintro e w' ⟨rfl, ⟨nd, rfl⟩⟩; refine ⟨_, rfl, ?_⟩))
   go_meet
   case rel => exact ⟨_, (true), es_, H', ⟨by first | omega | exact Nat.le_refl _⟩, ⟨hb_⟩⟩
 case rest =>
  clear HC4
  obtain ⟨kq, x13_3, rfl, HA, HJ3, HB⟩ := hcut
  cases kq with
  | zero => exact absurd HA.out (by simp [spec_AddWhole.j0])
  | succ kj3 =>
   have H := HA.out
   clear HA
   simp only [spec_AddWhole.j0] at H
   by_cases c8 : x13_3 = true
   ·subst c8
    have H1 : (some (([] : List Int), 1)) = some (r1, r2) := by rw [if_pos rfl] at H; exact H
    clear H
    have H := H1
    clear H1
    simp only [Option.some.injEq, Prod.mk.injEq] at H
    obtain ⟨rfl, rfl⟩ := H
    go_wp2
    go_ret2
    exact ⟨_, er_, by first | exact Kd.R_nil _ _ _ _ _ | exact Kd.N_nil _ _ _ _ _ | exact Kd.V_nil _ _ _ _ _ | exact Kd.Q_nil _ _ _ _ _ | exact Kd.S_nil _ _ _ _ _, hb_⟩
   ·replace c8 := Bool.eq_false_iff.mpr c8
    subst c8
    have H1 : ((spec_l01In.f a2 (-1000) 1000).bind fun t700 => (if t700 = true then (if 0 ≤ (mx (l0.length : Int) (l1.length : Int)) then (if (mx (l0.length : Int) (l1.length : Int) : Int).toNat ≤ 35184372088832 then (spec_AddWhole.l0 kj3 l0 l1 a2 (List.replicate (mx (l0.length : Int) (l1.length : Int) : Int).toNat 0) 0) else (none)) else (none)) else (some (([] : List Int), 2)))) = some (r1, r2) := by rw [if_neg (show ¬ (false = true) by decide)] at H; exact H
    clear H
    have H := H1
    clear H1
    obtain ⟨t700, A9, H⟩ := bnd_ H
    by_cases c10 : t700 = true
    ·subst c10
     have H1 : (if 0 ≤ (mx (l0.length : Int) (l1.length : Int)) then (if (mx (l0.length : Int) (l1.length : Int) : Int).toNat ≤ 35184372088832 then (spec_AddWhole.l0 kj3 l0 l1 a2 (List.replicate (mx (l0.length : Int) (l1.length : Int) : Int).toNat 0) 0) else (none)) else (none)) = some (r1, r2) := by rw [if_pos rfl] at H; exact H
     clear H
     have H := H1
     clear H1
     obtain ⟨ji11, hji11⟩ : ∃ j_ : Int, (mx (l0.length : Int) (l1.length : Int)) = j_ := ⟨_, rfl⟩
     (try rw [hji11])
     replace H : (if 0 ≤ (ji11) then (if (ji11 : Int).toNat ≤ 35184372088832 then (spec_AddWhole.l0 kj3 l0 l1 a2 (List.replicate (ji11 : Int).toNat 0) 0) else (none)) else (none)) = some (r1, r2) := by first | (rw [hji11] at H; exact H) | (simp only [hji11] at H ⊢; exact H)
     (try rw [hji11] at A9)
     (try (have hji11l : 0 ≤ ji11 := by (rw [← hji11]; unfold mx; (repeat' split) <;> omega)))
     (try (have hji11m : 0 ≤ ji11 := by omega))
     have hji11_ : (if (l0.length : Int) < (l1.length : Int) then (l1.length : Int) else (l0.length : Int)) = ji11 := hji11
     have hji11N : (if l0.length < l1.length then (l1.length : Int) else (l0.length : Int)) = ji11 := by rw [← hji11_]; simp only [Int.ofNat_lt]
     obtain ⟨c12, H⟩ := itn_ H
     have c12b0 := eq_true c12
     have c12b1 := decide_eq_true c12
     clear c12
     obtain ⟨c13, H⟩ := itn_ H
     have c13b0 := eq_true c13
     have c13b1 := decide_eq_true c13
     clear c13
     obtain ⟨y701, Ny701, H⟩ : ∃ y701 : List Int, Aside0 (y701 = (List.replicate (ji11 : Int).toNat 0)) ∧ (spec_AddWhole.l0 kj3 l0 l1 a2 y701 0) = some (r1, r2) := ⟨_, ⟨rfl⟩, H⟩
     have H' := Aside0.mk H
     clear H
     go_wp2_with (first | ((with_reducible refine gate_callee (f := 150) rfl ?_); refine goesL_ (some 24) rfl rfl Try.func150 (by kernel_rfl) rfl #[.int .i64 a2, .int .i64 (-1000), .int .i64 1000] rfl arg_ ?_; (with_reducible refine (spec_l01In.calls a2 (-1000) 1000 true _ A9.out).mono ?_); rintro e w' ⟨rfl, ⟨nd, rfl⟩⟩; refine ⟨_, rfl, ?_⟩) | ((with_reducible refine gate_dst (N := 31) rfl ?_); refine Kd.R_make (Kd.int .i64) _ 2 rfl (N := 31) rfl 29 _ _ rfl ji11 rfl rfl Try.underlying29 (.int .i64 0) 8 info2 rfl (by decide) (by omega) 0 (ok := fun _ => True) (okp := fun _ => True) rfl (fun _ hk => hk) trivial (od_) (Nat.le_trans (Nat.mul_le_mul_right _ (od_ : ji11.toNat ≤ 35184372088832)) (by omega)) (Below.refl _ _) (Nat.le_refl _) ?_; intro v702 w14 ho15 hb hg_ hnew_; clear hg_ hnew_; (first | rw [← Ny701.out] at ho15 | (simp only [Int.reduceToNat] at ho15; rw [← Ny701.out] at ho15)); have HO703 := Aside0.mk (Kd.R_lower ho15 (below_size hb_)); replace HB := Aside0.mk (below_step hb_ hb); clear hb ho15))
     go_loopg [9] kj3 (fun kq v9 w' => ∃ (x8_2 : List Int) (x9_2 : Int), v9 = .int .i64 x9_2 ∧ Aside0 (spec_AddWhole.l0 kq l0 l1 a2 x8_2 x9_2 = some (r1, r2)) ∧ Aside0 (kq ≤ kj3) ∧ Aside0 (Kd.R (Kd.int .i64) 2 w' w.heap.size (fun _ => True) v702 x8_2) ∧ Aside0 (Below w.heap.size w w'))
     case atStart => exact ⟨(y701), (0), es_, H', ⟨Nat.le_refl _⟩, ⟨Kd.R_below HO703.out bgo_⟩, ⟨hb_⟩⟩
     case round =>
      clear H'
      obtain ⟨x8_2, x9_2, rfl, HA, HK2, HO_8, HB⟩ := hrel
      cases gk with
      | zero => exact absurd HA.out (by simp [spec_AddWhole.l0])
      | succ k2 =>
       have H := HA.out
       clear HA
       simp only [spec_AddWhole.l0] at H
       by_cases c16 : x9_2 < (l0.length : Int)
       ·rw [if_pos c16] at H
        have c16b0 := decide_eq_true c16
        clear c16
        obtain ⟨c17, H⟩ := itn_ H
        have c17b0 := decide_eq_true c17
        clear c17
        obtain ⟨c18, H⟩ := itn_ H
        have c18b0 := decide_eq_true c18
        clear c18
        obtain ⟨y705, Ny705, H⟩ : ∃ y705 : List Int, Aside0 (y705 = (x8_2.set (x9_2 : Int).toNat (rd l0 x9_2))) ∧ (spec_AddWhole.l0 k2 l0 l1 a2 y705 (wrap64 (x9_2 + 1))) = some (r1, r2) := ⟨_, ⟨rfl⟩, H⟩
        have H' := Aside0.mk H
        clear H
        have p704 : 0 ≤ (x9_2 : Int) := od_
        have q704 : x9_2 < (l0.length : Int) := od_
        obtain ⟨ad704, e704, hx704_0⟩ := Kd.at_int HR0.out x9_2 p704 q704
        cases e704
        (try replace hx704_0 := (HB.out.cell (World.block_lt_of_cell? w _ hx704_0)).trans hx704_0)
        replace p704 := eq_true p704
        replace q704 := eq_true q704
        have p19 : 0 ≤ (x9_2 : Int) := od_
        have q19 : (x9_2 : Int) < ((x8_2.length : Int) : Int) := od_
        obtain ⟨go19, co19, eo19, gb19, gl19, cl19, HG19⟩ := Kd.R_form HO_8.out (by omega)
        (first | cases eo19 | (injection eo19 with ea_ en_ ec_; (first | subst ea_ | (injection ea_ with ea_; subst ea_)); subst ec_; clear en_))
        have GB19 := Aside0.mk gb19
        have GG19 := Aside0.mk HG19
        clear gb19 gl19 HG19
        obtain ⟨hx19_0, hf19_0⟩ := Kd.R_celln 0 HO_8.out (x9_2 : Int) p19 q19
        replace p19 := eq_true p19
        replace q19 := eq_true q19
        have HP20 := Kd.R_putg HO_8.out (x9_2 : Int) (rd l0 x9_2)
        go_wp2_with (first | ((with_reducible refine gate_store (t := 2) (p := 44) rfl ?_); refine store_event (t := 2) (p := 44) (v := ?vo_w21) (w1 := (wr.setCell ⟨go19, (x9_2 : Int).toNat, none⟩ (.int .i64 (rd l0 x9_2)))) ?hg ?ho ?hn ?hr ?_; (case ho => rfl); (case hg => rfl); (case hn => rfl); (case hr => first | (go_simp; done) | (go_simp; rfl)); intro w21 hw; have hg : wr.grownBy w21 (some go19) := (by rw [hw]; exact HP20.2); have hp_ : Kd.R (Kd.int .i64) 2 w21 w.heap.size (fun _ => True) (.slice (some ⟨go19, 0, none⟩) x8_2.length co19) y705 := (by rw [hw, Ny705.out]; exact HP20.1); clear HP20; replace HO_8 := Aside0.mk (hp_); replace HB := Aside0.mk ((by rw [hw]; exact below_set (HB.out) GB19.out : Below w.heap.size w w21)); clear hg hw hp_))
        first | (first | go_roundg k2 | (refine Handed.intro k2 ?measure ?_; rotate_left; go_step; (try simp only [add_plain]); (repeat apply Exists.intro); refine ⟨?rel, rfl⟩)) | ((try subst hji11); (first | go_roundg k2 | (refine Handed.intro k2 ?measure ?_; rotate_left; go_step; (try simp only [add_plain]); (repeat apply Exists.intro); refine ⟨?rel, rfl⟩)))
        case measure => have := HJ3.out; have := HK2.out; omega
        case rel => exact ⟨(y705), (wrap64 (x9_2 + 1)), es_, H', ⟨by have := HJ3.out; have := HK2.out; omega⟩, ⟨Kd.R_below HO_8.out bgo_⟩, ⟨hb_⟩⟩
       ·rw [if_neg c16] at H
        have c16b0 := decide_eq_false c16
        clear c16
        have H' := Aside0.mk H
        clear H
        go_wp2
        go_loopg [10] k2 (fun kq v10 w' => ∃ (x8_3 : List Int) (x10_3 : Int), v10 = .int .i64 x10_3 ∧ Aside0 (spec_AddWhole.l1 kq l1 a2 x8_3 x10_3 = some (r1, r2)) ∧ Aside0 (kq ≤ k2) ∧ Aside0 (Kd.R (Kd.int .i64) 2 w' w.heap.size (fun _ => True) v702 x8_3) ∧ Aside0 (Below w.heap.size w w'))
        case atStart => exact ⟨(x8_2), (0), es_, H', ⟨Nat.le_refl _⟩, ⟨Kd.R_below HO_8.out bgo_⟩, ⟨hb_⟩⟩
        case round =>
         clear H'
         obtain ⟨x8_3, x10_3, rfl, HA, HK3, HO_8, HB⟩ := hrel
         cases gk with
         | zero => exact absurd HA.out (by simp [spec_AddWhole.l1])
         | succ k3 =>
          have H := HA.out
          clear HA
          simp only [spec_AddWhole.l1] at H
          by_cases c22 : x10_3 < (l1.length : Int)
          ·rw [if_pos c22] at H
           have c22b0 := decide_eq_true c22
           clear c22
           obtain ⟨c23, H⟩ := itn_ H
           have c23b0 := decide_eq_true c23
           clear c23
           obtain ⟨c24, H⟩ := itn_ H
           have c24b0 := decide_eq_true c24
           clear c24
           obtain ⟨⟨t708, t709⟩, A25, H⟩ := bnd_ H
           dsimp only at H
           by_cases c26 : t709 = true
           ·subst c26
            have H1 : (spec_AddWhole.l1 k3 l1 a2 (x8_3.set (x10_3 : Int).toNat t708) (wrap64 (x10_3 + 1))) = some (r1, r2) := by rw [if_pos rfl] at H; exact H
            clear H
            have H := H1
            clear H1
            obtain ⟨y710, Ny710, H⟩ : ∃ y710 : List Int, Aside0 (y710 = (x8_3.set (x10_3 : Int).toNat t708)) ∧ (spec_AddWhole.l1 k3 l1 a2 y710 (wrap64 (x10_3 + 1))) = some (r1, r2) := ⟨_, ⟨rfl⟩, H⟩
            have H' := Aside0.mk H
            clear H
            try go_wp2
            have n0_ := Aside0.mk (Kd.R_drew HO_8.out)
            have n1_ := Aside0.mk (below_drew1 HB.out)
            clear HO_8
            clear HB
            have HO_8 := n0_
            have HB := n1_
            clear n0_ n1_
            obtain ⟨Ao29, co29, eo29⟩ := Kd.R_slice HO_8.out
            (first | subst eo29 | (injection eo29 with f1_ f2_ f3_; have f4_ := f1_.symm; have f5_ := f3_.symm; clear f1_ f2_ f3_; subst f4_; subst f5_))
            have p706 : 0 ≤ (x10_3 : Int) := od_
            have q706 : x10_3 < (x8_3.length : Int) := od_
            obtain ⟨ad706, e706, hx706_0⟩ := Kd.at_int (Kd.R_reads' HO_8.out).2.2 x10_3 p706 q706
            cases e706
            replace p706 := eq_true p706
            replace q706 := eq_true q706
            have p707 : 0 ≤ (x10_3 : Int) := od_
            have q707 : x10_3 < (l1.length : Int) := od_
            obtain ⟨ad707, e707, hx707_0⟩ := Kd.at_int HR1.out x10_3 p707 q707
            have hw707_0 := hx707_0
            cases e707
            (try replace hx707_0 := (HB.out.cell (World.block_lt_of_cell? w _ hx707_0)).trans hx707_0)
            replace p707 := eq_true p707
            replace q707 := eq_true q707
            refine start_ (n := 15) (S := fun w' => w'.cell? (ad706.add (x10_3).toNat) = some (.int .i64 (rd x8_3 x10_3)) ∧ w'.cell? (ad707.add (x10_3).toNat) = some (.int .i64 (rd l1 x10_3))) (ds := []) #[false, false, false, false, false, false, false, false, false, false, false, false, false, false, false] (by kernel_rfl) rfl rfl ⟨hx706_0, ((HB.out.cell (World.block_lt_of_cell? _ _ hw707_0)).trans hw707_0)⟩ (fun hHeld => ?_); refine with_tabW spec_AddWhole.tab13 spec_AddWhole.bits13 (fun HT_ HW_ => ?_)
            generalize wr.drew = w28 at HO_8 HB hx706_0 hx707_0 hHeld ⊢
            refine pk_ 0 15 52 1 ?_
            refine pk_ 1 15 53 3 ?_
            refine pk_ 2 15 54 7 ?_
            refine pk_ 4 15 56 23 ?_
            refine pk_ 5 15 57 55 ?_
            refine pk_ 6 15 58 119 ?_
            refine pk_ 7 15 59 247 ?_
            refine tk_ 3 15 55 255 hHeld ?_
            refine tk_ 8 15 60 511 hHeld ?_
            refine one_ (i := 9) (N := some 61) #[true, true, true, true, true, true, true, true, true, true, false, false, false, false, false] rfl rfl (one_of HT_.out (by kernel_rfl)) (by decide) (fun K hK => ?_)
            refine goes_ Try.func174 (by kernel_rfl) rfl #[.int .i64 (rd x8_3 x10_3), .int .i64 a2, .int .i64 (rd l1 x10_3)] (by rfl) rfl rfl arg_ ?_
            with_reducible refine (spec_l01More.calls (rd x8_3 x10_3) a2 (rd l1 x10_3) t708 true _ A25.out).mono ?_
            rintro e w30 ⟨rfl, hb⟩
            have HS0_ := (hb.cell (World.block_lt_of_cell? _ _ (hHeld.1))).trans (hHeld.1)
            refine ⟨_, rfl, ?_⟩
            have n0_ := Aside0.mk (Kd.R_below (Kd.R_below HO_8.out bgo_) hb)
            have n1_ := Aside0.mk (below_step hb_ hb)
            clear HO_8
            clear HB
            have HO_8 := n0_
            have HB := n1_
            clear n0_ n1_
            (try clear hb)
            (try clear hb2)
            (try clear hk)
            (try clear hi)
            refine hK.out _ _ ⟨HS0_, ((HB.out.cell (World.block_lt_of_cell? _ _ hw707_0)).trans hw707_0)⟩ (fun hHeld => ?_)
            clear hK K
            refine norm_ (a' := ?_) ?_ ?_
            rotate_left
            ·show Act.put _ (some 61) _ = _
             simp only [Act.put, nf_]
             rfl
            refine pk_ 10 15 51 2047 ?_
            refine pk_ 11 15 62 4095 ?_
            refine pk_ 12 15 63 8191 ?_
            refine pk_ 13 15 11 16383 ?_
            refine pk_ 14 15 12 32767 ?_
            refine done_ (done_of HT_.out (by kernel_rfl)) ?_
            have p27 : 0 ≤ (x10_3 : Int) := od_
            have q27 : (x10_3 : Int) < ((x8_3.length : Int) : Int) := od_
            obtain ⟨go27, co27, eo27, gb27, gl27, cl27, HG27⟩ := Kd.R_form HO_8.out (by omega)
            (first | cases eo27 | (injection eo27 with ea_ en_ ec_; (first | subst ea_ | (injection ea_ with ea_; subst ea_)); subst ec_; clear en_))
            have GB27 := Aside0.mk gb27
            have GG27 := Aside0.mk HG27
            clear gb27 gl27 HG27
            (first | simp only [add_plain] at hx706_0 | skip)
            obtain ⟨hx27_0, hf27_0⟩ := Kd.R_celln 0 HO_8.out (x10_3 : Int) p27 q27
            replace p27 := eq_true p27
            replace q27 := eq_true q27
            obtain ⟨hy31_, hz31_⟩ := Kd.R_celln 0 HO_8.out (x10_3 : Int) (od_) (od_)
            have HP31 := Kd.R_putg HO_8.out (x10_3 : Int) t708
            try go_wp2_with (first | ((with_reducible refine gate_store (t := 2) (p := 69) rfl ?_); refine store_event (t := 2) (p := 69) (v := ?vo_w32) (w1 := (w30.setCell ⟨go27, (x10_3 : Int).toNat, none⟩ (.int .i64 t708))) ?hg ?ho ?hn ?hr ?_; (case ho => rfl); (case hg => rfl); (case hn => rfl); (case hr => first | (go_simp; done) | (go_simp; rfl)); intro w32 hw; have hg : w30.grownBy w32 (some go27) := (by rw [hw]; exact HP31.2); have hp_ : Kd.R (Kd.int .i64) 2 w32 w.heap.size (fun _ => True) (.slice (some ⟨go27, 0, none⟩) x8_3.length co29) y710 := (by rw [hw, Ny710.out]; exact HP31.1); clear HP31; replace HO_8 := Aside0.mk (hp_); replace HB := Aside0.mk ((by rw [hw]; exact below_set (HB.out) GB27.out : Below w.heap.size w w32)); clear hg hw hp_))
            first | (first | go_roundg k3 | (refine Handed.intro k3 ?measure ?_; rotate_left; go_step; (try simp only [add_plain]); (repeat apply Exists.intro); refine ⟨?rel, rfl⟩)) | ((try subst hji11); (first | go_roundg k3 | (refine Handed.intro k3 ?measure ?_; rotate_left; go_step; (try simp only [add_plain]); (repeat apply Exists.intro); refine ⟨?rel, rfl⟩)))
            case measure => have := HJ3.out; have := HK2.out; have := HK3.out; omega
            case rel => exact ⟨(y710), (wrap64 (x10_3 + 1)), es_, H', ⟨by have := HJ3.out; have := HK2.out; have := HK3.out; omega⟩, ⟨Kd.R_below HO_8.out bgo_⟩, ⟨hb_⟩⟩
           ·replace c26 := Bool.eq_false_iff.mpr c26
            subst c26
            have H1 : (some (([] : List Int), 3)) = some (r1, r2) := by rw [if_neg (show ¬ (false = true) by decide)] at H; exact H
            clear H
            have H := H1
            clear H1
            simp only [Option.some.injEq, Prod.mk.injEq] at H
            obtain ⟨rfl, rfl⟩ := H
            try go_wp2
            have n0_ := Aside0.mk (Kd.R_drew HO_8.out)
            have n1_ := Aside0.mk (below_drew1 HB.out)
            clear HO_8
            clear HB
            have HO_8 := n0_
            have HB := n1_
            clear n0_ n1_
            obtain ⟨Ao34, co34, eo34⟩ := Kd.R_slice HO_8.out
            (first | subst eo34 | (injection eo34 with f1_ f2_ f3_; have f4_ := f1_.symm; have f5_ := f3_.symm; clear f1_ f2_ f3_; subst f4_; subst f5_))
            have p706 : 0 ≤ (x10_3 : Int) := od_
            have q706 : x10_3 < (x8_3.length : Int) := od_
            obtain ⟨ad706, e706, hx706_0⟩ := Kd.at_int (Kd.R_reads' HO_8.out).2.2 x10_3 p706 q706
            cases e706
            replace p706 := eq_true p706
            replace q706 := eq_true q706
            have p707 : 0 ≤ (x10_3 : Int) := od_
            have q707 : x10_3 < (l1.length : Int) := od_
            obtain ⟨ad707, e707, hx707_0⟩ := Kd.at_int HR1.out x10_3 p707 q707
            have hw707_0 := hx707_0
            cases e707
            (try replace hx707_0 := (HB.out.cell (World.block_lt_of_cell? w _ hx707_0)).trans hx707_0)
            replace p707 := eq_true p707
            replace q707 := eq_true q707
            refine start_ (n := 15) (S := fun w' => w'.cell? (ad706.add (x10_3).toNat) = some (.int .i64 (rd x8_3 x10_3)) ∧ w'.cell? (ad707.add (x10_3).toNat) = some (.int .i64 (rd l1 x10_3))) (ds := []) #[false, false, false, false, false, false, false, false, false, false, false, false, false, false, false] (by kernel_rfl) rfl rfl ⟨hx706_0, ((HB.out.cell (World.block_lt_of_cell? _ _ hw707_0)).trans hw707_0)⟩ (fun hHeld => ?_); refine with_tabW spec_AddWhole.tab13 spec_AddWhole.bits13 (fun HT_ HW_ => ?_)
            generalize wr.drew = w33 at HO_8 HB hx706_0 hx707_0 hHeld ⊢
            refine pk_ 0 15 52 1 ?_
            refine pk_ 1 15 53 3 ?_
            refine pk_ 2 15 54 7 ?_
            refine pk_ 4 15 56 23 ?_
            refine pk_ 5 15 57 55 ?_
            refine pk_ 6 15 58 119 ?_
            refine pk_ 7 15 59 247 ?_
            refine tk_ 3 15 55 255 hHeld ?_
            refine tk_ 8 15 60 511 hHeld ?_
            refine one_ (i := 9) (N := some 61) #[true, true, true, true, true, true, true, true, true, true, false, false, false, false, false] rfl rfl (one_of HT_.out (by kernel_rfl)) (by decide) (fun K hK => ?_)
            refine goes_ Try.func174 (by kernel_rfl) rfl #[.int .i64 (rd x8_3 x10_3), .int .i64 a2, .int .i64 (rd l1 x10_3)] (by rfl) rfl rfl arg_ ?_
            with_reducible refine (spec_l01More.calls (rd x8_3 x10_3) a2 (rd l1 x10_3) t708 false _ A25.out).mono ?_
            rintro e w35 ⟨rfl, hb⟩
            have HS0_ := (hb.cell (World.block_lt_of_cell? _ _ (hHeld.1))).trans (hHeld.1)
            refine ⟨_, rfl, ?_⟩
            have n0_ := Aside0.mk (Kd.R_below (Kd.R_below HO_8.out bgo_) hb)
            have n1_ := Aside0.mk (below_step hb_ hb)
            clear HO_8
            clear HB
            have HO_8 := n0_
            have HB := n1_
            clear n0_ n1_
            (try clear hb)
            (try clear hb2)
            (try clear hk)
            (try clear hi)
            refine hK.out _ _ ⟨HS0_, ((HB.out.cell (World.block_lt_of_cell? _ _ hw707_0)).trans hw707_0)⟩ (fun hHeld => ?_)
            clear hK K
            refine norm_ (a' := ?_) ?_ ?_
            rotate_left
            ·show Act.put _ (some 61) _ = _
             simp only [Act.put, nf_]
             rfl
            refine pk_ 10 15 51 2047 ?_
            refine pk_ 11 15 62 4095 ?_
            refine pk_ 12 15 63 8191 ?_
            refine pk_ 13 15 11 16383 ?_
            refine pk_ 14 15 12 32767 ?_
            refine done_ (done_of HT_.out (by kernel_rfl)) ?_
            try go_wp2
            go_ret2
            exact ⟨_, by first | rfl | (simp [errW_none, errW_some] <;> rfl) | (simp only [← hji11]; first | rfl | (simp [errW_none, errW_some] <;> rfl)) | (simp [*, errW_none, errW_some] <;> rfl), by first | exact Kd.R_nil _ _ _ _ _ | exact Kd.N_nil _ _ _ _ _ | exact Kd.V_nil _ _ _ _ _ | exact Kd.Q_nil _ _ _ _ _ | exact Kd.S_nil _ _ _ _ _, hb_⟩
          ·rw [if_neg c22] at H
           have c22b0 := decide_eq_false c22
           clear c22
           obtain ⟨t711, A36, H⟩ := bnd_ H
           simp only [Option.some.injEq, Prod.mk.injEq] at H
           obtain ⟨rfl, rfl⟩ := H
           obtain ⟨Ao37, co37, eo37⟩ := Kd.R_slice HO_8.out
           subst eo37
           go_wp2_with (first | ((with_reducible refine gate_callee (f := 175) rfl ?_); refine goesL_ (some 71) rfl rfl Try.func175 (by kernel_rfl) rfl #[.slice Ao37 x8_3.length co37] rfl arg_ ?_; (with_reducible refine (spec_l01Trim.calls k3 _ _ x8_3 t711 _ ?side1 ?side2 A36.out).mono ?_); (case side1 => exact Kd.C_below (Kd.R_reads' HO_8.out).2.2 bgo_); (case side2 => exact (Kd.R_reads' HO_8.out).2.1); rintro e w38 ⟨v712, rfl, ho0, hb⟩; refine ⟨_, rfl, ?_⟩; have HO713 := Aside0.mk (Kd.R_lower (Kd.R_new' ho0 (Kd.R_lt (Kd.R_below HO_8.out bgo_))) (below_size hb_)); replace HO_8 := Aside0.mk (Kd.R_elder' (Kd.R_below HO_8.out bgo_) (Kd.R_base ho0) hb); replace HB := Aside0.mk (below_step hb_ hb); (try clear hb); (try clear hb2); (try clear hk); (try clear hi); (try clear ho0)))
           go_ret2
           exact ⟨_, by first | rfl | (simp [errW_none, errW_some] <;> rfl) | (simp only [← hji11]; first | rfl | (simp [errW_none, errW_some] <;> rfl)) | (simp [*, errW_none, errW_some] <;> rfl), by (with_reducible repeat (first | apply Kd.R_alloc | apply Kd.R_drewN | apply Kd.R_drew)); exact Kd.R_mono HO713.out (fun _ hk => trivial), hb_⟩
    ·replace c10 := Bool.eq_false_iff.mpr c10
     subst c10
     have H1 : (some (([] : List Int), 2)) = some (r1, r2) := by rw [if_neg (show ¬ (false = true) by decide)] at H; exact H
     clear H
     have H := H1
     clear H1
     simp only [Option.some.injEq, Prod.mk.injEq] at H
     obtain ⟨rfl, rfl⟩ := H
     go_wp2_with (first | ((with_reducible refine gate_callee (f := 150) rfl ?_); refine goesL_ (some 24) rfl rfl Try.func150 (by kernel_rfl) rfl #[.int .i64 a2, .int .i64 (-1000), .int .i64 1000] rfl arg_ ?_; (with_reducible refine (spec_l01In.calls a2 (-1000) 1000 false _ A9.out).mono ?_); rintro e w' ⟨rfl, ⟨nd, rfl⟩⟩; refine ⟨_, rfl, ?_⟩))
     go_ret2
     exact ⟨_, er_, by first | exact Kd.R_nil _ _ _ _ _ | exact Kd.N_nil _ _ _ _ _ | exact Kd.V_nil _ _ _ _ _ | exact Kd.Q_nil _ _ _ _ _ | exact Kd.S_nil _ _ _ _ _, hb_⟩

/-! ### spec_DrawValueOfWhole: function 72 -/
def spec_DrawValueOfWhole.f (k : Nat) (l0 : List Int) : Option (List Int × Int) := (spec_l01From.f k l0).bind fun bt714 => ((spec_l01DrawPoly.f k bt714.1 bt714.2.1 bt714.2.2 8).bind fun bt718 => ((spec_l01Rough.f k bt714.1 bt718.2.1 bt718.2.2 bt718.1).bind fun bt723 => ((spec_l01Pick.f bt714.1 bt723.2.1 bt723.2.2 (([0, 1, (-1), 2, (-3), 10, 1000, 1001] : List Int))).bind fun bt731 => (some (bt723.1, bt731.1)))))
set_option maxHeartbeats 8000000 in
set_option maxRecDepth 100000 in
theorem spec_DrawValueOfWhole.calls (k : Nat) (A0 : Option Addr) (c0 : Nat) (l0 : List Int) (r1 : List Int) (r2 : Int) (w : World) (hr0 : Kd.C (Kd.int .u8) w A0 l0.length l0) (hc0 : l0.length ≤ c0) (h : spec_DrawValueOfWhole.f k l0 = some (r1, r2)) :
  Calls Try.prog 72 #[.slice A0 l0.length c0] w fun e w' => ∃ v0_ : Value, e = .returned (.tuple #[v0_, .int .i64 r2]) ∧ Kd.R (Kd.int .i64) 2 w' w.heap.size (fun _ => True) v0_ r1 ∧ Below w.heap.size w w' := by
 have HR0 := Aside0.mk hr0
 have HC0 := Aside0.mk hc0
 clear hr0 hc0
 have HB := Aside0.mk (Below.refl w.heap.size w)
 have H : ((spec_l01From.f k l0).bind fun bt714 => ((spec_l01DrawPoly.f k bt714.1 bt714.2.1 bt714.2.2 8).bind fun bt718 => ((spec_l01Rough.f k bt714.1 bt718.2.1 bt718.2.2 bt718.1).bind fun bt723 => ((spec_l01Pick.f bt714.1 bt723.2.1 bt723.2.2 (([0, 1, (-1), 2, (-3), 10, 1000, 1001] : List Int))).bind fun bt731 => (some (bt723.1, bt731.1)))))) = some (r1, r2) := h
 clear h
 obtain ⟨⟨t714, t715, t716⟩, A2, H⟩ := bnd_ H
 dsimp only at H
 obtain ⟨⟨t718, t721, t722⟩, A3, H⟩ := bnd_ H
 dsimp only at H
 obtain ⟨⟨t723, t726, t727⟩, A4, H⟩ := bnd_ H
 dsimp only at H
 obtain ⟨y728, Ny728, H⟩ : ∃ y728 : List Int, Aside0 (y728 = (([0, 1, (-1), 2, (-3), 10, 1000, 1001] : List Int))) ∧ ((spec_l01Pick.f t714 t726 t727 y728).bind fun bt731 => (some (t723, bt731.1))) = some (r1, r2) := ⟨_, ⟨rfl⟩, H⟩
 obtain ⟨⟨t731, t732, t733⟩, A5, H⟩ := bnd_ H
 dsimp only at H
 simp only [Option.some.injEq, Prod.mk.injEq] at H
 obtain ⟨rfl, rfl⟩ := H
 go_enter Try.func72, Try.ntmps72
 go_wp2_with (first | ((with_reducible refine gate_callee (f := 102) rfl ?_); refine goesL_ (some 6) rfl rfl Try.func102 (by kernel_rfl) rfl #[.slice A0 l0.length c0] rfl arg_ ?_; (with_reducible refine (spec_l01From.calls k _ _ l0 t714 t715 t716 w _ ?side1 ?side2 ?side3 A2.out).mono ?_); (case side1 => exact hb_); (case side2 => exact HR0.out); (case side3 => exact HC0.out); rintro e w6 ⟨g717, rfl, hi, hb, hb2⟩; refine ⟨_, rfl, ?_⟩; replace HB := Aside0.mk (hb); have HI717 := Aside0.mk (hi); (try clear hb); (try clear hb2); (try clear hk); (try clear hi)) | ((with_reducible refine gate_callee (f := 162) rfl ?_); refine goesL_ (some 9) rfl rfl Try.func162 (by kernel_rfl) rfl #[.pointer (some ⟨g717, 0, none⟩), .int .i64 8] rfl arg_ ?_; (with_reducible refine (spec_l01DrawPoly.calls k g717 t714 t715 t716 8 t718 t721 t722 w _ ?side1 ?side2 A3.out).mono ?_); (case side1 => exact IsS131.go_); (case side2 => exact IsS131.hb_); rintro e w7 ⟨v719, rfl, ho0, hi, hb, hk⟩; refine ⟨_, rfl, ?_⟩; have HO720 := Aside0.mk (Kd.R_lower ho0 (below_size IsS131.hb_)); replace HB := Aside0.mk (hb); replace HI717 := Aside0.mk (hi); (try clear hb); (try clear hb2); (try clear hk); (try clear hi); (try clear ho0); obtain ⟨Ao8, co8, eo8⟩ := Kd.R_slice HO720.out; subst eo8) | ((with_reducible refine gate_callee (f := 161) rfl ?_); refine goesL_ (some 10) rfl rfl Try.func161 (by kernel_rfl) rfl #[.pointer (some ⟨g717, 0, none⟩), .slice Ao8 t718.length co8] rfl arg_ ?_; (with_reducible refine (spec_l01Rough.calls k g717 t714 t721 t722 (fun k_ => some k_ = (.slice Ao8 t718.length co8 : Value).ownBlock) (.slice Ao8 t718.length co8) t718 t723 t726 t727 w _ ?side1 ?side2 ?side3 A4.out).mono ?_); (case side1 => exact IsS131.go_); (case side2 => exact IsS131.hb_); (case side3 => exact Kd.R_tight rfl HO720.out); rintro e w9 ⟨v724, rfl, ho0, hi, hb, hkp⟩; refine ⟨_, rfl, ?_⟩; replace HI717 := Aside0.mk (hi); have HO725 := Aside0.mk (Kd.R_mono (ok' := fun k_ => True) ho0 (fun k_ hk_ => trivial)); replace HB := Aside0.mk (hb); clear HO720; (try clear hb); (try clear hkp); (try clear ho0)) | ((with_reducible refine gate_dst (N := 12) rfl ?_); refine Kd.R_lit (Kd.int .i64) _ 2 ?hg (N := 12) ?hd (xs := ([0, 1, (-1), 2, (-3), 10, 1000, 1001] : List Int)) (inner := [.int .i64 0, .int .i64 1, .int .i64 (-1), .int .i64 2, .int .i64 (-3), .int .i64 10, .int .i64 1000, .int .i64 1001]) (ok := fun _ => True) (okp := fun _ => True) ?hr ?hp (fun _ hk => hk) trivial (Below.refl _ _) (Nat.le_refl _) (by simp) ?_; (case hd => rfl); (case hg => rfl); (case hr => first | (go_simp; done) | (go_simp; rfl)); (case hp => exact (Reps.one (show Kd.M (Kd.int .i64) _ _ _ 0 [.int .i64 0] from rfl) (Reps.one (show Kd.M (Kd.int .i64) _ _ _ 1 [.int .i64 1] from rfl) (Reps.one (show Kd.M (Kd.int .i64) _ _ _ (-1) [.int .i64 (-1)] from rfl) (Reps.one (show Kd.M (Kd.int .i64) _ _ _ 2 [.int .i64 2] from rfl) (Reps.one (show Kd.M (Kd.int .i64) _ _ _ (-3) [.int .i64 (-3)] from rfl) (Reps.one (show Kd.M (Kd.int .i64) _ _ _ 10 [.int .i64 10] from rfl) (Reps.one (show Kd.M (Kd.int .i64) _ _ _ 1000 [.int .i64 1000] from rfl) (Reps.one (show Kd.M (Kd.int .i64) _ _ _ 1001 [.int .i64 1001] from rfl) (Reps.none _ _)))))))))); intro v729 w10 ho11 hb hg_ hnew_; clear hg_ hnew_; (first | rw [← Ny728.out] at ho11 | (simp only [Int.reduceToNat] at ho11; rw [← Ny728.out] at ho11)); have HO730 := Aside0.mk (Kd.R_lower (Kd.R_new' ho11 (Kd.R_lt (Kd.R_below HO725.out bgo_))) (below_size IsS131.hb_)); replace HO725 := Aside0.mk (Kd.R_elder' (Kd.R_below HO725.out bgo_) (Kd.R_base ho11) hb); replace HB := Aside0.mk (below_step IsS131.hb_ hb); replace HI717 := Aside0.mk (IsS131.below IsS131.go_ hb); clear hb ho11; obtain ⟨Ao12, co12, eo12⟩ := Kd.R_slice HO730.out; subst eo12) | ((with_reducible refine gate_callee (f := 144) rfl ?_); refine goesL_ (some 13) rfl rfl Try.func144 (by kernel_rfl) rfl #[.pointer (some ⟨g717, 0, none⟩), .slice Ao12 y728.length co12] rfl arg_ ?_; (with_reducible refine (spec_l01Pick.calls g717 t714 t726 t727 _ _ y728 t731 t732 t733 w _ ?side1 ?side2 ?side3 ?side4 ?side5 A5.out).mono ?_); (case side1 => exact IsS131.go_); (case side2 => exact IsS131.hb_); (case side3 => exact Kd.C_below (Kd.R_reads' HO730.out).2.2 bgo_); (case side4 => exact (Kd.R_reads' HO730.out).2.1); (case side5 => exact far_slice (IsS131.own_ne HI717.out HO730.out (by decide))); rintro e w13 ⟨rfl, hi, hb, hk⟩; refine ⟨_, rfl, ?_⟩; replace HO725 := Aside0.mk (Kd.R_mono (Kd.R_keep (IsS131.apart (show IsS131 w _ g717 t714 t726 t727 from IsS131.go_) (Kd.R_below HO725.out bgo_) (by decide)) hk (fun _ h => h.2)) (fun _ h => h.1)); replace HO730 := Aside0.mk (Kd.R_mono (Kd.R_keep (IsS131.apart (show IsS131 w _ g717 t714 t726 t727 from IsS131.go_) (Kd.R_below HO730.out bgo_) (by decide)) hk (fun _ h => h.2)) (fun _ h => h.1)); replace HB := Aside0.mk (hb); replace HI717 := Aside0.mk (hi); (try clear hb); (try clear hb2); (try clear hk); (try clear hi)))
 go_ret2
 exact ⟨_, er_, by (with_reducible repeat (first | apply Kd.R_alloc | apply Kd.R_drewN | apply Kd.R_drew)); exact Kd.R_mono HO725.out (fun _ hk => trivial), IsS131.hb_⟩

/-! ### spec_ValueOfWhole: function 73 -/
def spec_ValueOfWhole.l0 : Nat → List Int → Int → Int → Int → Option (Int × Int)
 | 0, _, _, _, _ => none
 | k + 1, x0, x1, x6, x7 => if x7 ≥ 0 then (if 0 ≤ x7 then (if x7 < (x0.length : Int) then ((spec_l01More.f (rd x0 x7) x6 x1).bind fun bt737 => (if bt737.2 = true then (spec_ValueOfWhole.l0 k x0 x1 bt737.1 (wrap64 (x7 - 1))) else (some (0, 3)))) else (none)) else (none)) else (some (x6, 0))
def spec_ValueOfWhole.f (k : Nat) (l0 : List Int) (a1 : Int) : Option (Int × Int) := (spec_l01Poly.f k l0).bind fun t734 => (if t734 = true then ((spec_l01In.f a1 (-1000) 1000).bind fun t735 => (if t735 = true then (spec_ValueOfWhole.l0 k l0 a1 0 (wrap64 ((l0.length : Int) - 1))) else (some (0, 2)))) else (some (0, 1)))
set_option maxHeartbeats 8000000 in
set_option maxRecDepth 100000 in
theorem spec_ValueOfWhole.calls (k : Nat) (A0 : Option Addr) (c0 : Nat) (l0 : List Int) (a1 : Int) (r1 : Int) (r2 : Int) (w : World) (hr0 : Kd.C (Kd.int .i64) w A0 l0.length l0) (hc0 : l0.length ≤ c0) (h : spec_ValueOfWhole.f k l0 a1 = some (r1, r2)) :
  Calls Try.prog 73 #[.slice A0 l0.length c0, .int .i64 a1] w fun e w' => e = .returned (.tuple #[.int .i64 r1, .int .i64 r2]) ∧ Below w.heap.size w w' := by
 have HR0 := Aside0.mk hr0
 have HC0 := Aside0.mk hc0
 clear hr0 hc0
 have HB := Aside0.mk (Below.refl w.heap.size w)
 have H : ((spec_l01Poly.f k l0).bind fun t734 => (if t734 = true then ((spec_l01In.f a1 (-1000) 1000).bind fun t735 => (if t735 = true then (spec_ValueOfWhole.l0 k l0 a1 0 (wrap64 ((l0.length : Int) - 1))) else (some (0, 2)))) else (some (0, 1)))) = some (r1, r2) := h
 clear h
 obtain ⟨t734, A3, H⟩ := bnd_ H
 by_cases c4 : t734 = true
 ·subst c4
  have H1 : ((spec_l01In.f a1 (-1000) 1000).bind fun t735 => (if t735 = true then (spec_ValueOfWhole.l0 k l0 a1 0 (wrap64 ((l0.length : Int) - 1))) else (some (0, 2)))) = some (r1, r2) := by rw [if_pos rfl] at H; exact H
  clear H
  have H := H1
  clear H1
  obtain ⟨t735, A5, H⟩ := bnd_ H
  by_cases c6 : t735 = true
  ·subst c6
   have H1 : (spec_ValueOfWhole.l0 k l0 a1 0 (wrap64 ((l0.length : Int) - 1))) = some (r1, r2) := by rw [if_pos rfl] at H; exact H
   clear H
   have H := H1
   clear H1
   have H' := Aside0.mk H
   clear H
   go_enter Try.func73, Try.ntmps73
   go_wp2_with (first | ((with_reducible refine gate_callee (f := 165) rfl ?_); refine goesL_ (some 12) rfl rfl Try.func165 (by kernel_rfl) rfl #[.slice A0 l0.length c0] rfl arg_ ?_; (with_reducible refine (spec_l01Poly.calls k _ _ l0 true _ ?side1 ?side2 A3.out).mono ?_); (case side1 => exact Kd.C_below HR0.out bgo_); (case side2 => exact HC0.out); rintro e w' ⟨rfl, ⟨nd, rfl⟩⟩; refine ⟨_, rfl, ?_⟩) | ((with_reducible refine gate_callee (f := 150) rfl ?_); refine goesL_ (some 16) rfl rfl Try.func150 (by kernel_rfl) rfl #[.int .i64 a1, .int .i64 (-1000), .int .i64 1000] rfl arg_ ?_; (with_reducible refine (spec_l01In.calls a1 (-1000) 1000 true _ A5.out).mono ?_); rintro e w' ⟨rfl, ⟨nd, rfl⟩⟩; refine ⟨_, rfl, ?_⟩))
   go_loopg [6, 7] k (fun kq v6 v7 w' => ∃ (x6_1 : Int) (x7_1 : Int), v6 = .int .i64 x6_1 ∧ v7 = .int .i64 x7_1 ∧ Aside0 (spec_ValueOfWhole.l0 kq l0 a1 x6_1 x7_1 = some (r1, r2)) ∧ Aside0 (kq ≤ k) ∧ Aside0 (Below w.heap.size w w'))
   case atStart => exact ⟨(0), (wrap64 ((l0.length : Int) - 1)), es_, es_, H', ⟨Nat.le_refl _⟩, ⟨hb_⟩⟩
   case round =>
    clear H'
    obtain ⟨x6_1, x7_1, rfl, rfl, HA, HK1, HB⟩ := hrel
    cases gk with
    | zero => exact absurd HA.out (by simp [spec_ValueOfWhole.l0])
    | succ k1 =>
     have H := HA.out
     clear HA
     simp only [spec_ValueOfWhole.l0] at H
     by_cases c7 : x7_1 ≥ 0
     ·rw [if_pos c7] at H
      have c7b0 := decide_eq_true c7
      clear c7
      obtain ⟨c8, H⟩ := itn_ H
      have c8b0 := decide_eq_true c8
      clear c8
      obtain ⟨c9, H⟩ := itn_ H
      have c9b0 := decide_eq_true c9
      clear c9
      obtain ⟨⟨t737, t738⟩, A10, H⟩ := bnd_ H
      dsimp only at H
      by_cases c11 : t738 = true
      ·subst c11
       have H1 : (spec_ValueOfWhole.l0 k1 l0 a1 t737 (wrap64 (x7_1 - 1))) = some (r1, r2) := by rw [if_pos rfl] at H; exact H
       clear H
       have H := H1
       clear H1
       have H' := Aside0.mk H
       clear H
       have p736 : 0 ≤ (x7_1 : Int) := od_
       have q736 : x7_1 < (l0.length : Int) := od_
       obtain ⟨ad736, e736, hx736_0⟩ := Kd.at_int HR0.out x7_1 p736 q736
       cases e736
       (try replace hx736_0 := (HB.out.cell (World.block_lt_of_cell? w _ hx736_0)).trans hx736_0)
       replace p736 := eq_true p736
       replace q736 := eq_true q736
       go_wp2_with (first | ((with_reducible refine gate_callee (f := 174) rfl ?_); refine goesL_ (some 32) rfl rfl Try.func174 (by kernel_rfl) rfl #[.int .i64 (rd l0 x7_1), .int .i64 x6_1, .int .i64 a1] rfl arg_ ?_; (with_reducible refine (spec_l01More.calls (rd l0 x7_1) x6_1 a1 t737 true _ A10.out).mono ?_); rintro e w12 ⟨rfl, hb⟩; refine ⟨_, rfl, ?_⟩; replace HB := Aside0.mk (below_step hb_ hb); (try clear hb); (try clear hb2); (try clear hk); (try clear hi)))
       go_roundg k1
       case measure => have := HK1.out; omega
       case rel => exact ⟨(t737), (wrap64 (x7_1 - 1)), es_, es_, H', ⟨by have := HK1.out; omega⟩, ⟨hb_⟩⟩
      ·replace c11 := Bool.eq_false_iff.mpr c11
       subst c11
       have H1 : (some (0, 3)) = some (r1, r2) := by rw [if_neg (show ¬ (false = true) by decide)] at H; exact H
       clear H
       have H := H1
       clear H1
       simp only [Option.some.injEq, Prod.mk.injEq] at H
       obtain ⟨rfl, rfl⟩ := H
       have p736 : 0 ≤ (x7_1 : Int) := od_
       have q736 : x7_1 < (l0.length : Int) := od_
       obtain ⟨ad736, e736, hx736_0⟩ := Kd.at_int HR0.out x7_1 p736 q736
       cases e736
       (try replace hx736_0 := (HB.out.cell (World.block_lt_of_cell? w _ hx736_0)).trans hx736_0)
       replace p736 := eq_true p736
       replace q736 := eq_true q736
       go_wp2_with (first | ((with_reducible refine gate_callee (f := 174) rfl ?_); refine goesL_ (some 32) rfl rfl Try.func174 (by kernel_rfl) rfl #[.int .i64 (rd l0 x7_1), .int .i64 x6_1, .int .i64 a1] rfl arg_ ?_; (with_reducible refine (spec_l01More.calls (rd l0 x7_1) x6_1 a1 t737 false _ A10.out).mono ?_); rintro e w13 ⟨rfl, hb⟩; refine ⟨_, rfl, ?_⟩; replace HB := Aside0.mk (below_step hb_ hb); (try clear hb); (try clear hb2); (try clear hk); (try clear hi)))
       go_ret2
       exact ⟨er_, hb_⟩
     ·rw [if_neg c7] at H
      have c7b0 := decide_eq_false c7
      clear c7
      simp only [Option.some.injEq, Prod.mk.injEq] at H
      obtain ⟨rfl, rfl⟩ := H
      go_wp2
      go_ret2
      exact ⟨er_, hb_⟩
  ·replace c6 := Bool.eq_false_iff.mpr c6
   subst c6
   have H1 : (some (0, 2)) = some (r1, r2) := by rw [if_neg (show ¬ (false = true) by decide)] at H; exact H
   clear H
   have H := H1
   clear H1
   simp only [Option.some.injEq, Prod.mk.injEq] at H
   obtain ⟨rfl, rfl⟩ := H
   go_enter Try.func73, Try.ntmps73
   go_wp2_with (first | ((with_reducible refine gate_callee (f := 165) rfl ?_); refine goesL_ (some 12) rfl rfl Try.func165 (by kernel_rfl) rfl #[.slice A0 l0.length c0] rfl arg_ ?_; (with_reducible refine (spec_l01Poly.calls k _ _ l0 true _ ?side1 ?side2 A3.out).mono ?_); (case side1 => exact Kd.C_below HR0.out bgo_); (case side2 => exact HC0.out); rintro e w' ⟨rfl, ⟨nd, rfl⟩⟩; refine ⟨_, rfl, ?_⟩) | ((with_reducible refine gate_callee (f := 150) rfl ?_); refine goesL_ (some 16) rfl rfl Try.func150 (by kernel_rfl) rfl #[.int .i64 a1, .int .i64 (-1000), .int .i64 1000] rfl arg_ ?_; (with_reducible refine (spec_l01In.calls a1 (-1000) 1000 false _ A5.out).mono ?_); rintro e w' ⟨rfl, ⟨nd, rfl⟩⟩; refine ⟨_, rfl, ?_⟩))
   go_ret2
   exact ⟨er_, hb_⟩
 ·replace c4 := Bool.eq_false_iff.mpr c4
  subst c4
  have H1 : (some (0, 1)) = some (r1, r2) := by rw [if_neg (show ¬ (false = true) by decide)] at H; exact H
  clear H
  have H := H1
  clear H1
  simp only [Option.some.injEq, Prod.mk.injEq] at H
  obtain ⟨rfl, rfl⟩ := H
  go_enter Try.func73, Try.ntmps73
  go_wp2_with (first | ((with_reducible refine gate_callee (f := 165) rfl ?_); refine goesL_ (some 12) rfl rfl Try.func165 (by kernel_rfl) rfl #[.slice A0 l0.length c0] rfl arg_ ?_; (with_reducible refine (spec_l01Poly.calls k _ _ l0 false _ ?side1 ?side2 A3.out).mono ?_); (case side1 => exact Kd.C_below HR0.out bgo_); (case side2 => exact HC0.out); rintro e w' ⟨rfl, ⟨nd, rfl⟩⟩; refine ⟨_, rfl, ?_⟩))
  go_ret2
  exact ⟨er_, hb_⟩

/-! ### spec_DrawDerivativeOfWhole: function 74 -/
def spec_DrawDerivativeOfWhole.f (k : Nat) (l0 : List Int) : Option (List Int) := (spec_l01From.f k l0).bind fun bt739 => ((spec_l01DrawPoly.f k bt739.1 bt739.2.1 bt739.2.2 12).bind fun bt743 => ((spec_l01Rough.f k bt739.1 bt743.2.1 bt743.2.2 bt743.1).bind fun bt748 => (some bt748.1)))
set_option maxHeartbeats 8000000 in
set_option maxRecDepth 100000 in
theorem spec_DrawDerivativeOfWhole.calls (k : Nat) (A0 : Option Addr) (c0 : Nat) (l0 : List Int) (r : List Int) (w : World) (hr0 : Kd.C (Kd.int .u8) w A0 l0.length l0) (hc0 : l0.length ≤ c0) (h : spec_DrawDerivativeOfWhole.f k l0 = some r) :
  Calls Try.prog 74 #[.slice A0 l0.length c0] w fun e w' => ∃ v0_ : Value, e = .returned (v0_) ∧ Kd.R (Kd.int .i64) 2 w' w.heap.size (fun _ => True) v0_ r ∧ Below w.heap.size w w' := by
 have HR0 := Aside0.mk hr0
 have HC0 := Aside0.mk hc0
 clear hr0 hc0
 have HB := Aside0.mk (Below.refl w.heap.size w)
 have H : ((spec_l01From.f k l0).bind fun bt739 => ((spec_l01DrawPoly.f k bt739.1 bt739.2.1 bt739.2.2 12).bind fun bt743 => ((spec_l01Rough.f k bt739.1 bt743.2.1 bt743.2.2 bt743.1).bind fun bt748 => (some bt748.1)))) = some r := h
 clear h
 obtain ⟨⟨t739, t740, t741⟩, A2, H⟩ := bnd_ H
 dsimp only at H
 obtain ⟨⟨t743, t746, t747⟩, A3, H⟩ := bnd_ H
 dsimp only at H
 obtain ⟨⟨t748, t751, t752⟩, A4, H⟩ := bnd_ H
 dsimp only at H
 obtain rfl := Option.some.inj H
 go_enter Try.func74, Try.ntmps74
 go_wp2_with (first | ((with_reducible refine gate_callee (f := 102) rfl ?_); refine goesL_ (some 5) rfl rfl Try.func102 (by kernel_rfl) rfl #[.slice A0 l0.length c0] rfl arg_ ?_; (with_reducible refine (spec_l01From.calls k _ _ l0 t739 t740 t741 w _ ?side1 ?side2 ?side3 A2.out).mono ?_); (case side1 => exact hb_); (case side2 => exact HR0.out); (case side3 => exact HC0.out); rintro e w5 ⟨g742, rfl, hi, hb, hb2⟩; refine ⟨_, rfl, ?_⟩; replace HB := Aside0.mk (hb); have HI742 := Aside0.mk (hi); (try clear hb); (try clear hb2); (try clear hk); (try clear hi)) | ((with_reducible refine gate_callee (f := 162) rfl ?_); refine goesL_ (some 8) rfl rfl Try.func162 (by kernel_rfl) rfl #[.pointer (some ⟨g742, 0, none⟩), .int .i64 12] rfl arg_ ?_; (with_reducible refine (spec_l01DrawPoly.calls k g742 t739 t740 t741 12 t743 t746 t747 w _ ?side1 ?side2 A3.out).mono ?_); (case side1 => exact IsS131.go_); (case side2 => exact IsS131.hb_); rintro e w6 ⟨v744, rfl, ho0, hi, hb, hk⟩; refine ⟨_, rfl, ?_⟩; have HO745 := Aside0.mk (Kd.R_lower ho0 (below_size IsS131.hb_)); replace HB := Aside0.mk (hb); replace HI742 := Aside0.mk (hi); (try clear hb); (try clear hb2); (try clear hk); (try clear hi); (try clear ho0); obtain ⟨Ao7, co7, eo7⟩ := Kd.R_slice HO745.out; subst eo7) | ((with_reducible refine gate_callee (f := 161) rfl ?_); refine goesL_ (some 9) rfl rfl Try.func161 (by kernel_rfl) rfl #[.pointer (some ⟨g742, 0, none⟩), .slice Ao7 t743.length co7] rfl arg_ ?_; (with_reducible refine (spec_l01Rough.calls k g742 t739 t746 t747 (fun k_ => some k_ = (.slice Ao7 t743.length co7 : Value).ownBlock) (.slice Ao7 t743.length co7) t743 t748 t751 t752 w _ ?side1 ?side2 ?side3 A4.out).mono ?_); (case side1 => exact IsS131.go_); (case side2 => exact IsS131.hb_); (case side3 => exact Kd.R_tight rfl HO745.out); rintro e w8 ⟨v749, rfl, ho0, hi, hb, hkp⟩; refine ⟨_, rfl, ?_⟩; replace HI742 := Aside0.mk (hi); have HO750 := Aside0.mk (Kd.R_mono (ok' := fun k_ => True) ho0 (fun k_ hk_ => trivial)); replace HB := Aside0.mk (hb); clear HO745; (try clear hb); (try clear hkp); (try clear ho0)))
 go_ret
 exact ⟨_, er_, (Kd.R_below HO750.out bgo_), IsS131.hb_⟩

/-! ### impl_derivative: function 180 -/
def impl_derivative.l0 : Nat → List Int → List Int → Int → Option (List Int × Bool)
 | 0, _, _, _ => none
 | k + 1, x0, x4, x5 => if x5 < (x0.length : Int) then (if 0 ≤ x5 then ((impl_plusTimes.f k 0 x5 (rd x0 x5)).bind fun bt757 => (if bt757.2 = true then (if x4.length < 17592186044416 then (impl_derivative.l0 k x0 (x4 ++ [bt757.1]) (wrap64 (x5 + 1))) else (none)) else (some (([] : List Int), false)))) else (none)) else (some (x4, true))
def impl_derivative.f (k : Nat) (l0 : List Int) : Option (List Int × Bool) := impl_derivative.l0 k l0 (([] : List Int)) 1
set_option maxHeartbeats 8000000 in
set_option maxRecDepth 100000 in
theorem impl_derivative.calls (k : Nat) (A0 : Option Addr) (c0 : Nat) (l0 : List Int) (r1 : List Int) (r2 : Bool) (w : World) (hr0 : Kd.C (Kd.int .i64) w A0 l0.length l0) (hc0 : l0.length ≤ c0) (h : impl_derivative.f k l0 = some (r1, r2)) :
  Calls Try.prog 180 #[.slice A0 l0.length c0] w fun e w' => ∃ v0_ : Value, e = .returned (.tuple #[v0_, .bool r2]) ∧ Kd.R (Kd.int .i64) 2 w' w.heap.size (fun _ => True) v0_ r1 ∧ Below w.heap.size w w' := by
 have HR0 := Aside0.mk hr0
 have HC0 := Aside0.mk hc0
 clear hr0 hc0
 have HB := Aside0.mk (Below.refl w.heap.size w)
 have H : (impl_derivative.l0 k l0 (([] : List Int)) 1) = some (r1, r2) := h
 clear h
 obtain ⟨y753, Ny753, H⟩ : ∃ y753 : List Int, Aside0 (y753 = (([] : List Int))) ∧ (impl_derivative.l0 k l0 y753 1) = some (r1, r2) := ⟨_, ⟨rfl⟩, H⟩
 have H' := Aside0.mk H
 clear H
 go_enter Try.func180, Try.ntmps180
 go_wp2_with (first | ((with_reducible refine gate_dst (N := 8) rfl ?_); refine Kd.R_lit (Kd.int .i64) _ 2 ?hg (N := 8) ?hd (xs := ([] : List Int)) (inner := []) (ok := fun _ => True) (okp := fun _ => True) ?hr ?hp (fun _ hk => hk) trivial (Below.refl _ _) (Nat.le_refl _) (by simp) ?_; (case hd => rfl); (case hg => rfl); (case hr => first | (go_simp; done) | (go_simp; rfl)); (case hp => exact (Reps.none _ _)); intro v754 w2 ho3 hb hg_ hnew_; clear hg_ hnew_; (first | rw [← Ny753.out] at ho3 | (simp only [Int.reduceToNat] at ho3; rw [← Ny753.out] at ho3)); have HO755 := Aside0.mk (Kd.R_lower ho3 (below_size hb_)); replace HB := Aside0.mk (below_step hb_ hb); clear hb ho3))
 go_loopg [4, 5] k (fun kq v4 v5 w' => ∃ (x4_1 : List Int) (x5_1 : Int), v5 = .int .i64 x5_1 ∧ Aside0 (impl_derivative.l0 kq l0 x4_1 x5_1 = some (r1, r2)) ∧ Aside0 (kq ≤ k) ∧ Aside0 (Kd.R (Kd.int .i64) 2 w' w.heap.size (fun _ => True) v4 x4_1) ∧ Aside0 (Below w.heap.size w w'))
 case atStart => exact ⟨(y753), (1), es_, H', ⟨Nat.le_refl _⟩, ⟨Kd.R_below HO755.out bgo_⟩, ⟨hb_⟩⟩
 case round =>
  clear H'
  obtain ⟨x4_1, x5_1, rfl, HA, HK1, HO_4, HB⟩ := hrel
  cases gk with
  | zero => exact absurd HA.out (by simp [impl_derivative.l0])
  | succ k1 =>
   have H := HA.out
   clear HA
   simp only [impl_derivative.l0] at H
   by_cases c4 : x5_1 < (l0.length : Int)
   ·rw [if_pos c4] at H
    have c4b0 := decide_eq_true c4
    clear c4
    obtain ⟨c5, H⟩ := itn_ H
    have c5b0 := decide_eq_true c5
    clear c5
    obtain ⟨⟨t757, t758⟩, A6, H⟩ := bnd_ H
    dsimp only at H
    by_cases c7 : t758 = true
    ·subst c7
     have H1 : (if x4_1.length < 17592186044416 then (impl_derivative.l0 k1 l0 (x4_1 ++ [t757]) (wrap64 (x5_1 + 1))) else (none)) = some (r1, r2) := by rw [if_pos rfl] at H; exact H
     clear H
     have H := H1
     clear H1
     obtain ⟨c8, H⟩ := itn_ H
     have LMc8 := Aside0.mk c8
     clear c8
     obtain ⟨y759, Ny759, H⟩ : ∃ y759 : List Int, Aside0 (y759 = (x4_1 ++ [t757])) ∧ (impl_derivative.l0 k1 l0 y759 (wrap64 (x5_1 + 1))) = some (r1, r2) := ⟨_, ⟨rfl⟩, H⟩
     have H' := Aside0.mk H
     clear H
     have p756 : 0 ≤ (x5_1 : Int) := od_
     have q756 : x5_1 < (l0.length : Int) := od_
     obtain ⟨ad756, e756, hx756_0⟩ := Kd.at_int HR0.out x5_1 p756 q756
     cases e756
     (try replace hx756_0 := (HB.out.cell (World.block_lt_of_cell? w _ hx756_0)).trans hx756_0)
     replace p756 := eq_true p756
     replace q756 := eq_true q756
     go_wp2_with (first | ((with_reducible refine gate_callee (f := 168) rfl ?_); refine goesL_ (some 21) rfl rfl Try.func168 (by kernel_rfl) rfl #[.int .i64 0, .int .i64 x5_1, .int .i64 (rd l0 x5_1)] rfl arg_ ?_; (with_reducible refine (impl_plusTimes.calls k1 0 x5_1 (rd l0 x5_1) t757 true _ A6.out).mono ?_); rintro e w9 ⟨rfl, hb⟩; refine ⟨_, rfl, ?_⟩; replace HO_4 := Aside0.mk (Kd.R_below (Kd.R_below HO_4.out bgo_) hb); replace HB := Aside0.mk (below_step hb_ hb); (try clear hb); (try clear hb2); (try clear hk); (try clear hi)) | ((with_reducible refine gate_builtin (b := .append) (xs := #[.tmp 26, .tmp 28]) rfl ?_); at_builtin; refine Kd.R_append (Kd.int .i64) (w0 := w) w.heap.size rfl (.tmp 26) (.tmp 28) 29 2 (.int .i64 0) 8 rfl Try.underlying29 info2 rfl (by decide) (by omega) u4 x4_1 t757 [.int .i64 t757] (fun _ => True) (fun _ => False) rfl rfl ?aP (fun _ hk => hk.elim) ?aF ?aO ?aB ?aS ?aL ?_; (case aP => exact rfl); (case aB => exact hb_); (case aF => exact (fun _ _ => trivial)); (case aO => exact (Kd.R_below HO_4.out bgo_)); (case aS => exact (below_size hb_)); (case aL => have := LMc8.out; omega); intro v760 w10 ho hb hg hat; rw [← Ny759.out] at ho; replace HB := Aside0.mk (hb); have HO761 := Aside0.mk (ho); clear HO_4; clear ho hb hg hat))
     first | go_roundg k1 | (refine Handed.intro k1 ?measure ?_; rotate_left; go_step; (try simp only [add_plain]); (repeat apply Exists.intro); refine ⟨?rel, rfl⟩)
     case measure => have := HK1.out; omega
     case rel => exact ⟨(y759), (wrap64 (x5_1 + 1)), es_, H', ⟨by have := HK1.out; omega⟩, ⟨Kd.R_below HO761.out bgo_⟩, ⟨hb_⟩⟩
    ·replace c7 := Bool.eq_false_iff.mpr c7
     subst c7
     have H1 : (some (([] : List Int), false)) = some (r1, r2) := by rw [if_neg (show ¬ (false = true) by decide)] at H; exact H
     clear H
     have H := H1
     clear H1
     simp only [Option.some.injEq, Prod.mk.injEq] at H
     obtain ⟨rfl, rfl⟩ := H
     have p756 : 0 ≤ (x5_1 : Int) := od_
     have q756 : x5_1 < (l0.length : Int) := od_
     obtain ⟨ad756, e756, hx756_0⟩ := Kd.at_int HR0.out x5_1 p756 q756
     cases e756
     (try replace hx756_0 := (HB.out.cell (World.block_lt_of_cell? w _ hx756_0)).trans hx756_0)
     replace p756 := eq_true p756
     replace q756 := eq_true q756
     go_wp2_with (first | ((with_reducible refine gate_callee (f := 168) rfl ?_); refine goesL_ (some 21) rfl rfl Try.func168 (by kernel_rfl) rfl #[.int .i64 0, .int .i64 x5_1, .int .i64 (rd l0 x5_1)] rfl arg_ ?_; (with_reducible refine (impl_plusTimes.calls k1 0 x5_1 (rd l0 x5_1) t757 false _ A6.out).mono ?_); rintro e w11 ⟨rfl, hb⟩; refine ⟨_, rfl, ?_⟩; replace HO_4 := Aside0.mk (Kd.R_below (Kd.R_below HO_4.out bgo_) hb); replace HB := Aside0.mk (below_step hb_ hb); (try clear hb); (try clear hb2); (try clear hk); (try clear hi)))
     go_ret2
     exact ⟨_, er_, by first | exact Kd.R_nil _ _ _ _ _ | exact Kd.N_nil _ _ _ _ _ | exact Kd.V_nil _ _ _ _ _ | exact Kd.Q_nil _ _ _ _ _ | exact Kd.S_nil _ _ _ _ _, hb_⟩
   ·rw [if_neg c4] at H
    have c4b0 := decide_eq_false c4
    clear c4
    simp only [Option.some.injEq, Prod.mk.injEq] at H
    obtain ⟨rfl, rfl⟩ := H
    go_wp2
    go_ret2
    exact ⟨_, er_, (Kd.R_below HO_4.out bgo_), hb_⟩

/-! ### impl_DerivativeOfWhole: function 75 -/
def impl_DerivativeOfWhole.f (k : Nat) (l0 : List Int) : Option (List Int × Int) := (impl_areWhole.f k (([l0] : List (List Int)))).bind fun t765 => (if t765 = true then ((impl_derivative.f k l0).bind fun bt766 => (if bt766.2 = true then (some (bt766.1, 0)) else (some (([] : List Int), 3)))) else (some (([] : List Int), 1)))
set_option maxHeartbeats 8000000 in
set_option maxRecDepth 100000 in
theorem impl_DerivativeOfWhole.calls (k : Nat) (P0_ : Nat → Prop) (A0 : Option Addr) (c0 : Nat) (l0 : List Int) (r1 : List Int) (r2 : Int) (w : World) (hs0 : Kd.V (Kd.int .i64) 2 w w.heap.size (fun k_ => P0_ k_) (.slice A0 l0.length c0) l0) (h : impl_DerivativeOfWhole.f k l0 = some (r1, r2)) :
  Calls Try.prog 75 #[.slice A0 l0.length c0] w fun e w' => ∃ v0_ : Value, e = .returned (.tuple #[v0_, .int .i64 r2]) ∧ Kd.R (Kd.int .i64) 2 w' w.heap.size (fun k_ => (w.heap.size ≤ k_)) v0_ r1 ∧ Below w.heap.size w w' := by
 have HO0 := Aside0.mk (show Kd.V (Kd.int .i64) 2 w w.heap.size (fun k_ => (P0_ k_ ∨ w.heap.size ≤ k_)) (.slice A0 l0.length c0) l0 from Kd.V_mono hs0 (fun k_ hk => .inl hk))
 have HB := Aside0.mk (Below.refl w.heap.size w)
 have H : ((impl_areWhole.f k (([l0] : List (List Int)))).bind fun t765 => (if t765 = true then ((impl_derivative.f k l0).bind fun bt766 => (if bt766.2 = true then (some (bt766.1, 0)) else (some (([] : List Int), 3)))) else (some (([] : List Int), 1)))) = some (r1, r2) := h
 clear h
 obtain ⟨y762, Ny762, H⟩ : ∃ y762 : List (List Int), Aside0 (y762 = (([l0] : List (List Int)))) ∧ ((impl_areWhole.f k y762).bind fun t765 => (if t765 = true then ((impl_derivative.f k l0).bind fun bt766 => (if bt766.2 = true then (some (bt766.1, 0)) else (some (([] : List Int), 3)))) else (some (([] : List Int), 1)))) = some (r1, r2) := ⟨_, ⟨rfl⟩, H⟩
 obtain ⟨t765, A2, H⟩ := bnd_ H
 by_cases c3 : t765 = true
 ·subst c3
  have H1 : ((impl_derivative.f k l0).bind fun bt766 => (if bt766.2 = true then (some (bt766.1, 0)) else (some (([] : List Int), 3)))) = some (r1, r2) := by rw [if_pos rfl] at H; exact H
  clear H
  have H := H1
  clear H1
  obtain ⟨⟨t766, t767⟩, A4, H⟩ := bnd_ H
  dsimp only at H
  by_cases c5 : t767 = true
  ·subst c5
   have H1 : (some (t766, 0)) = some (r1, r2) := by rw [if_pos rfl] at H; exact H
   clear H
   have H := H1
   clear H1
   simp only [Option.some.injEq, Prod.mk.injEq] at H
   obtain ⟨rfl, rfl⟩ := H
   go_enter Try.func75, Try.ntmps75
   go_wp2_with (first | ((with_reducible refine gate_dst (N := 7) rfl ?_); refine Kd.N_lit (Kd.slice 2 (Kd.int .i64)) _ 29 ?hg (N' := 7) ?hd (xs := ([l0] : List (List Int))) (inner := [.slice A0 l0.length c0]) (ok := (fun k_ => (P0_ k_ ∨ w.heap.size ≤ k_))) (okp := (fun k_ => (P0_ k_ ∨ w.heap.size ≤ k_))) ?hr ?hp (fun _ hk => hk) ((show ∀ k_, w.heap.size ≤ k_ → (fun k_ => (P0_ k_ ∨ w.heap.size ≤ k_)) k_ from fun k_ hk => (.inr (Nat.le_trans (below_size hb_) hk))) _ (Nat.le_refl _)) (Below.refl _ _) (Nat.le_refl _) (by simp) ?_; (case hd => rfl); (case hg => rfl); (case hr => first | (go_simp; done) | (go_simp; rfl)); (case hp => exact (Reps.one (show Kd.FK (Kd.slice 2 (Kd.int .i64)) _ _ l0 [.slice A0 l0.length c0] from (Kd.FK_slice_mk (Kd.V_reads' (Kd.V_mono (ok' := (fun k_ => (P0_ k_ ∨ w.heap.size ≤ k_))) (HO0.out) (fun k_ hk => hk))).2.1 (Kd.V_F (Kd.V_mono (ok' := (fun k_ => (P0_ k_ ∨ w.heap.size ≤ k_))) (HO0.out) (fun k_ hk => hk))))) (Reps.none _ _))); intro v763 w6 ho7 hb hg_ hnew_; clear hg_ hnew_; (first | rw [← Ny762.out] at ho7 | (simp only [Int.reduceToNat] at ho7; rw [← Ny762.out] at ho7)); replace HO0 := Aside0.mk (Kd.V_elder' (Kd.V_below HO0.out bgo_) (Kd.N_base ho7) hb); have HO764 := Aside0.mk (Kd.N_lower ho7 (below_size hb_)); replace HB := Aside0.mk (below_step hb_ hb); clear hb ho7; obtain ⟨Ao8, co8, eo8⟩ := Kd.N_slice HO764.out; subst eo8) | ((with_reducible refine gate_callee (f := 163) rfl ?_); refine goesL_ (some 8) rfl rfl Try.func163 (by kernel_rfl) rfl #[.slice Ao8 y762.length co8] rfl arg_ ?_; (with_reducible refine (impl_areWhole.calls k _ _ y762 true _ ?side1 ?side2 A2.out).mono ?_); (case side1 => exact Kd.C_below (Kd.N_reads' HO764.out).2.2 bgo_); (case side2 => exact (Kd.N_reads' HO764.out).2.1); rintro e w9 ⟨rfl, hb⟩; refine ⟨_, rfl, ?_⟩; replace HO0 := Aside0.mk (Kd.V_below (Kd.V_below HO0.out bgo_) hb); replace HO764 := Aside0.mk (Kd.N_below (Kd.N_below HO764.out bgo_) hb); replace HB := Aside0.mk (below_step hb_ hb); (try clear hb); (try clear hb2); (try clear hk); (try clear hi)) | ((with_reducible refine gate_callee (f := 180) rfl ?_); refine goesL_ (some 12) rfl rfl Try.func180 (by kernel_rfl) rfl #[.slice A0 l0.length c0] rfl arg_ ?_; (with_reducible refine (impl_derivative.calls k _ _ l0 t766 true _ ?side1 ?side2 A4.out).mono ?_); (case side1 => exact Kd.C_below (Kd.V_reads' HO0.out).2.2 bgo_); (case side2 => exact (Kd.V_reads' HO0.out).2.1); rintro e w10 ⟨v768, rfl, ho0, hb⟩; refine ⟨_, rfl, ?_⟩; replace HO0 := Aside0.mk (Kd.V_elder' (Kd.V_below HO0.out bgo_) (Kd.R_base ho0) hb); replace HO764 := Aside0.mk (Kd.N_elder' (Kd.N_below HO764.out bgo_) (Kd.R_base ho0) hb); have HO769 := Aside0.mk (Kd.R_lower (Kd.R_newM (M := fun k_ => (w.heap.size ≤ k_)) ho0 (below_size hb_) (fun k_ h_ => h_)) (below_size hb_)); replace HB := Aside0.mk (below_step hb_ hb); (try clear hb); (try clear hb2); (try clear hk); (try clear hi); (try clear ho0)))
   go_ret2
   exact ⟨_, er_, by (with_reducible repeat (first | apply Kd.R_alloc | apply Kd.R_drewN | apply Kd.R_drew)); exact Kd.R_mono HO769.out (fun _ hk => hk.1), hb_⟩
  ·replace c5 := Bool.eq_false_iff.mpr c5
   subst c5
   have H1 : (some (([] : List Int), 3)) = some (r1, r2) := by rw [if_neg (show ¬ (false = true) by decide)] at H; exact H
   clear H
   have H := H1
   clear H1
   simp only [Option.some.injEq, Prod.mk.injEq] at H
   obtain ⟨rfl, rfl⟩ := H
   go_enter Try.func75, Try.ntmps75
   go_wp2_with (first | ((with_reducible refine gate_dst (N := 7) rfl ?_); refine Kd.N_lit (Kd.slice 2 (Kd.int .i64)) _ 29 ?hg (N' := 7) ?hd (xs := ([l0] : List (List Int))) (inner := [.slice A0 l0.length c0]) (ok := (fun k_ => (P0_ k_ ∨ w.heap.size ≤ k_))) (okp := (fun k_ => (P0_ k_ ∨ w.heap.size ≤ k_))) ?hr ?hp (fun _ hk => hk) ((show ∀ k_, w.heap.size ≤ k_ → (fun k_ => (P0_ k_ ∨ w.heap.size ≤ k_)) k_ from fun k_ hk => (.inr (Nat.le_trans (below_size hb_) hk))) _ (Nat.le_refl _)) (Below.refl _ _) (Nat.le_refl _) (by simp) ?_; (case hd => rfl); (case hg => rfl); (case hr => first | (go_simp; done) | (go_simp; rfl)); (case hp => exact (Reps.one (show Kd.FK (Kd.slice 2 (Kd.int .i64)) _ _ l0 [.slice A0 l0.length c0] from (Kd.FK_slice_mk (Kd.V_reads' (Kd.V_mono (ok' := (fun k_ => (P0_ k_ ∨ w.heap.size ≤ k_))) (HO0.out) (fun k_ hk => hk))).2.1 (Kd.V_F (Kd.V_mono (ok' := (fun k_ => (P0_ k_ ∨ w.heap.size ≤ k_))) (HO0.out) (fun k_ hk => hk))))) (Reps.none _ _))); intro v763 w11 ho12 hb hg_ hnew_; clear hg_ hnew_; (first | rw [← Ny762.out] at ho12 | (simp only [Int.reduceToNat] at ho12; rw [← Ny762.out] at ho12)); replace HO0 := Aside0.mk (Kd.V_elder' (Kd.V_below HO0.out bgo_) (Kd.N_base ho12) hb); have HO764 := Aside0.mk (Kd.N_lower ho12 (below_size hb_)); replace HB := Aside0.mk (below_step hb_ hb); clear hb ho12; obtain ⟨Ao13, co13, eo13⟩ := Kd.N_slice HO764.out; subst eo13) | ((with_reducible refine gate_callee (f := 163) rfl ?_); refine goesL_ (some 8) rfl rfl Try.func163 (by kernel_rfl) rfl #[.slice Ao13 y762.length co13] rfl arg_ ?_; (with_reducible refine (impl_areWhole.calls k _ _ y762 true _ ?side1 ?side2 A2.out).mono ?_); (case side1 => exact Kd.C_below (Kd.N_reads' HO764.out).2.2 bgo_); (case side2 => exact (Kd.N_reads' HO764.out).2.1); rintro e w14 ⟨rfl, hb⟩; refine ⟨_, rfl, ?_⟩; replace HO0 := Aside0.mk (Kd.V_below (Kd.V_below HO0.out bgo_) hb); replace HO764 := Aside0.mk (Kd.N_below (Kd.N_below HO764.out bgo_) hb); replace HB := Aside0.mk (below_step hb_ hb); (try clear hb); (try clear hb2); (try clear hk); (try clear hi)) | ((with_reducible refine gate_callee (f := 180) rfl ?_); refine goesL_ (some 12) rfl rfl Try.func180 (by kernel_rfl) rfl #[.slice A0 l0.length c0] rfl arg_ ?_; (with_reducible refine (impl_derivative.calls k _ _ l0 t766 false _ ?side1 ?side2 A4.out).mono ?_); (case side1 => exact Kd.C_below (Kd.V_reads' HO0.out).2.2 bgo_); (case side2 => exact (Kd.V_reads' HO0.out).2.1); rintro e w15 ⟨v768, rfl, ho0, hb⟩; refine ⟨_, rfl, ?_⟩; replace HO0 := Aside0.mk (Kd.V_elder' (Kd.V_below HO0.out bgo_) (Kd.R_base ho0) hb); replace HO764 := Aside0.mk (Kd.N_elder' (Kd.N_below HO764.out bgo_) (Kd.R_base ho0) hb); have HO769 := Aside0.mk (Kd.R_lower (Kd.R_newM (M := fun k_ => (w.heap.size ≤ k_)) ho0 (below_size hb_) (fun k_ h_ => h_)) (below_size hb_)); replace HB := Aside0.mk (below_step hb_ hb); (try clear hb); (try clear hb2); (try clear hk); (try clear hi); (try clear ho0)))
   go_ret2
   exact ⟨_, er_, by first | exact Kd.R_nil _ _ _ _ _ | exact Kd.N_nil _ _ _ _ _ | exact Kd.V_nil _ _ _ _ _ | exact Kd.Q_nil _ _ _ _ _ | exact Kd.S_nil _ _ _ _ _, hb_⟩
 ·replace c3 := Bool.eq_false_iff.mpr c3
  subst c3
  have H1 : (some (([] : List Int), 1)) = some (r1, r2) := by rw [if_neg (show ¬ (false = true) by decide)] at H; exact H
  clear H
  have H := H1
  clear H1
  simp only [Option.some.injEq, Prod.mk.injEq] at H
  obtain ⟨rfl, rfl⟩ := H
  go_enter Try.func75, Try.ntmps75
  go_wp2_with (first | ((with_reducible refine gate_dst (N := 7) rfl ?_); refine Kd.N_lit (Kd.slice 2 (Kd.int .i64)) _ 29 ?hg (N' := 7) ?hd (xs := ([l0] : List (List Int))) (inner := [.slice A0 l0.length c0]) (ok := (fun k_ => (P0_ k_ ∨ w.heap.size ≤ k_))) (okp := (fun k_ => (P0_ k_ ∨ w.heap.size ≤ k_))) ?hr ?hp (fun _ hk => hk) ((show ∀ k_, w.heap.size ≤ k_ → (fun k_ => (P0_ k_ ∨ w.heap.size ≤ k_)) k_ from fun k_ hk => (.inr (Nat.le_trans (below_size hb_) hk))) _ (Nat.le_refl _)) (Below.refl _ _) (Nat.le_refl _) (by simp) ?_; (case hd => rfl); (case hg => rfl); (case hr => first | (go_simp; done) | (go_simp; rfl)); (case hp => exact (Reps.one (show Kd.FK (Kd.slice 2 (Kd.int .i64)) _ _ l0 [.slice A0 l0.length c0] from (Kd.FK_slice_mk (Kd.V_reads' (Kd.V_mono (ok' := (fun k_ => (P0_ k_ ∨ w.heap.size ≤ k_))) (HO0.out) (fun k_ hk => hk))).2.1 (Kd.V_F (Kd.V_mono (ok' := (fun k_ => (P0_ k_ ∨ w.heap.size ≤ k_))) (HO0.out) (fun k_ hk => hk))))) (Reps.none _ _))); intro v763 w16 ho17 hb hg_ hnew_; clear hg_ hnew_; (first | rw [← Ny762.out] at ho17 | (simp only [Int.reduceToNat] at ho17; rw [← Ny762.out] at ho17)); replace HO0 := Aside0.mk (Kd.V_elder' (Kd.V_below HO0.out bgo_) (Kd.N_base ho17) hb); have HO764 := Aside0.mk (Kd.N_lower ho17 (below_size hb_)); replace HB := Aside0.mk (below_step hb_ hb); clear hb ho17; obtain ⟨Ao18, co18, eo18⟩ := Kd.N_slice HO764.out; subst eo18) | ((with_reducible refine gate_callee (f := 163) rfl ?_); refine goesL_ (some 8) rfl rfl Try.func163 (by kernel_rfl) rfl #[.slice Ao18 y762.length co18] rfl arg_ ?_; (with_reducible refine (impl_areWhole.calls k _ _ y762 false _ ?side1 ?side2 A2.out).mono ?_); (case side1 => exact Kd.C_below (Kd.N_reads' HO764.out).2.2 bgo_); (case side2 => exact (Kd.N_reads' HO764.out).2.1); rintro e w19 ⟨rfl, hb⟩; refine ⟨_, rfl, ?_⟩; replace HO0 := Aside0.mk (Kd.V_below (Kd.V_below HO0.out bgo_) hb); replace HO764 := Aside0.mk (Kd.N_below (Kd.N_below HO764.out bgo_) hb); replace HB := Aside0.mk (below_step hb_ hb); (try clear hb); (try clear hb2); (try clear hk); (try clear hi)))
  go_ret2
  exact ⟨_, er_, by first | exact Kd.R_nil _ _ _ _ _ | exact Kd.N_nil _ _ _ _ _ | exact Kd.V_nil _ _ _ _ _ | exact Kd.Q_nil _ _ _ _ _ | exact Kd.S_nil _ _ _ _ _, hb_⟩

/-! ### spec_l01Derive: function 181 -/
def spec_l01Derive.l0 : Nat → List Int → List Int → Int → Option (List Int)
 | 0, _, _, _ => none
 | k + 1, x0, x3, x4 => if x4 < (x0.length : Int) then (if 0 ≤ x4 then (if x3.length < 17592186044416 then (spec_l01Derive.l0 k x0 (x3 ++ [wrap64 (x4 * (rd x0 x4))]) (wrap64 (x4 + 1))) else (none)) else (none)) else ((spec_l01Trim.f k x3).bind fun t777 => (some t777))
def spec_l01Derive.f (k : Nat) (l0 : List Int) : Option (List Int) := spec_l01Derive.l0 k l0 (([] : List Int)) 1
set_option maxHeartbeats 8000000 in
set_option maxRecDepth 100000 in
theorem spec_l01Derive.calls (k : Nat) (A0 : Option Addr) (c0 : Nat) (l0 : List Int) (r : List Int) (w : World) (hr0 : Kd.C (Kd.int .i64) w A0 l0.length l0) (hc0 : l0.length ≤ c0) (h : spec_l01Derive.f k l0 = some r) :
  Calls Try.prog 181 #[.slice A0 l0.length c0] w fun e w' => ∃ v0_ : Value, e = .returned (v0_) ∧ Kd.R (Kd.int .i64) 2 w' w.heap.size (fun _ => True) v0_ r ∧ Below w.heap.size w w' := by
 have HR0 := Aside0.mk hr0
 have HC0 := Aside0.mk hc0
 clear hr0 hc0
 have HB := Aside0.mk (Below.refl w.heap.size w)
 have H : (spec_l01Derive.l0 k l0 (([] : List Int)) 1) = some r := h
 clear h
 obtain ⟨y770, Ny770, H⟩ : ∃ y770 : List Int, Aside0 (y770 = (([] : List Int))) ∧ (spec_l01Derive.l0 k l0 y770 1) = some r := ⟨_, ⟨rfl⟩, H⟩
 have H' := Aside0.mk H
 clear H
 go_enter Try.func181, Try.ntmps181
 go_wp2_with (first | ((with_reducible refine gate_dst (N := 5) rfl ?_); refine Kd.R_lit (Kd.int .i64) _ 2 ?hg (N := 5) ?hd (xs := ([] : List Int)) (inner := []) (ok := fun _ => True) (okp := fun _ => True) ?hr ?hp (fun _ hk => hk) trivial (Below.refl _ _) (Nat.le_refl _) (by simp) ?_; (case hd => rfl); (case hg => rfl); (case hr => first | (go_simp; done) | (go_simp; rfl)); (case hp => exact (Reps.none _ _)); intro v771 w2 ho3 hb hg_ hnew_; clear hg_ hnew_; (first | rw [← Ny770.out] at ho3 | (simp only [Int.reduceToNat] at ho3; rw [← Ny770.out] at ho3)); have HO772 := Aside0.mk (Kd.R_lower ho3 (below_size hb_)); replace HB := Aside0.mk (below_step hb_ hb); clear hb ho3))
 go_loopg [3, 4] k (fun kq v3 v4 w' => ∃ (x3_1 : List Int) (x4_1 : Int), v4 = .int .i64 x4_1 ∧ Aside0 (spec_l01Derive.l0 kq l0 x3_1 x4_1 = some r) ∧ Aside0 (kq ≤ k) ∧ Aside0 (Kd.R (Kd.int .i64) 2 w' w.heap.size (fun _ => True) v3 x3_1) ∧ Aside0 (Below w.heap.size w w'))
 case atStart => exact ⟨(y770), (1), es_, H', ⟨Nat.le_refl _⟩, ⟨Kd.R_below HO772.out bgo_⟩, ⟨hb_⟩⟩
 case round =>
  clear H'
  obtain ⟨x3_1, x4_1, rfl, HA, HK1, HO_3, HB⟩ := hrel
  cases gk with
  | zero => exact absurd HA.out (by simp [spec_l01Derive.l0])
  | succ k1 =>
   have H := HA.out
   clear HA
   simp only [spec_l01Derive.l0] at H
   by_cases c4 : x4_1 < (l0.length : Int)
   ·rw [if_pos c4] at H
    have c4b0 := decide_eq_true c4
    clear c4
    obtain ⟨c5, H⟩ := itn_ H
    have c5b0 := decide_eq_true c5
    clear c5
    obtain ⟨c6, H⟩ := itn_ H
    have LMc6 := Aside0.mk c6
    clear c6
    obtain ⟨y774, Ny774, H⟩ : ∃ y774 : List Int, Aside0 (y774 = (x3_1 ++ [wrap64 (x4_1 * (rd l0 x4_1))])) ∧ (spec_l01Derive.l0 k1 l0 y774 (wrap64 (x4_1 + 1))) = some r := ⟨_, ⟨rfl⟩, H⟩
    have H' := Aside0.mk H
    clear H
    have p773 : 0 ≤ (x4_1 : Int) := od_
    have q773 : x4_1 < (l0.length : Int) := od_
    obtain ⟨ad773, e773, hx773_0⟩ := Kd.at_int HR0.out x4_1 p773 q773
    cases e773
    (try replace hx773_0 := (HB.out.cell (World.block_lt_of_cell? w _ hx773_0)).trans hx773_0)
    replace p773 := eq_true p773
    replace q773 := eq_true q773
    go_wp2_with (first | ((with_reducible refine gate_builtin (b := .append) (xs := #[.tmp 12, .tmp 19]) rfl ?_); at_builtin; refine Kd.R_append (Kd.int .i64) (w0 := w) w.heap.size rfl (.tmp 12) (.tmp 19) 29 2 (.int .i64 0) 8 rfl Try.underlying29 info2 rfl (by decide) (by omega) u3 x3_1 (wrap64 (x4_1 * (rd l0 x4_1))) [.int .i64 (wrap64 (x4_1 * (rd l0 x4_1)))] (fun _ => True) (fun _ => False) rfl rfl ?aP (fun _ hk => hk.elim) ?aF ?aO ?aB ?aS ?aL ?_; (case aP => exact rfl); (case aB => exact hb_); (case aF => exact (fun _ _ => trivial)); (case aO => exact (Kd.R_below HO_3.out bgo_)); (case aS => exact (below_size hb_)); (case aL => have := LMc6.out; omega); intro v775 w7 ho hb hg hat; rw [← Ny774.out] at ho; replace HB := Aside0.mk (hb); have HO776 := Aside0.mk (ho); clear HO_3; clear ho hb hg hat))
    first | go_roundg k1 | (refine Handed.intro k1 ?measure ?_; rotate_left; go_step; (try simp only [add_plain]); (repeat apply Exists.intro); refine ⟨?rel, rfl⟩)
    case measure => have := HK1.out; omega
    case rel => exact ⟨(y774), (wrap64 (x4_1 + 1)), es_, H', ⟨by have := HK1.out; omega⟩, ⟨Kd.R_below HO776.out bgo_⟩, ⟨hb_⟩⟩
   ·rw [if_neg c4] at H
    have c4b0 := decide_eq_false c4
    clear c4
    obtain ⟨t777, A8, H⟩ := bnd_ H
    obtain rfl := Option.some.inj H
    obtain ⟨Ao9, co9, eo9⟩ := Kd.R_slice HO_3.out
    subst eo9
    go_wp2_with (first | ((with_reducible refine gate_callee (f := 175) rfl ?_); refine goesL_ (some 22) rfl rfl Try.func175 (by kernel_rfl) rfl #[.slice Ao9 x3_1.length co9] rfl arg_ ?_; (with_reducible refine (spec_l01Trim.calls k1 _ _ x3_1 t777 _ ?side1 ?side2 A8.out).mono ?_); (case side1 => exact Kd.C_below (Kd.R_reads' HO_3.out).2.2 bgo_); (case side2 => exact (Kd.R_reads' HO_3.out).2.1); rintro e w10 ⟨v778, rfl, ho0, hb⟩; refine ⟨_, rfl, ?_⟩; have HO779 := Aside0.mk (Kd.R_lower (Kd.R_new' ho0 (Kd.R_lt (Kd.R_below HO_3.out bgo_))) (below_size hb_)); replace HO_3 := Aside0.mk (Kd.R_elder' (Kd.R_below HO_3.out bgo_) (Kd.R_base ho0) hb); replace HB := Aside0.mk (below_step hb_ hb); (try clear hb); (try clear hb2); (try clear hk); (try clear hi); (try clear ho0)))
    go_ret
    exact ⟨_, er_, by (with_reducible repeat (first | apply Kd.R_alloc | apply Kd.R_drewN | apply Kd.R_drew)); exact Kd.R_mono HO779.out (fun _ hk => trivial), hb_⟩

/-! ### spec_DerivativeOfWhole: function 76 -/
def spec_DerivativeOfWhole.l0 : Nat → List Int → Int → Option (List Int × Int)
 | 0, _, _ => none
 | k + 1, x0, x4 => if x4 < (x0.length : Int) then (if 0 ≤ x4 then ((spec_l01More.f 0 x4 (rd x0 x4)).bind fun bt782 => (if bt782.2 = true then (spec_DerivativeOfWhole.l0 k x0 (wrap64 (x4 + 1))) else (some (([] : List Int), 3)))) else (none)) else ((spec_l01Derive.f k x0).bind fun t784 => (some (t784, 0)))
def spec_DerivativeOfWhole.f (k : Nat) (l0 : List Int) : Option (List Int × Int) := (spec_l01Poly.f k l0).bind fun t780 => (if t780 = true then (spec_DerivativeOfWhole.l0 k l0 0) else (some (([] : List Int), 1)))
set_option maxHeartbeats 8000000 in
set_option maxRecDepth 100000 in
theorem spec_DerivativeOfWhole.calls (k : Nat) (A0 : Option Addr) (c0 : Nat) (l0 : List Int) (r1 : List Int) (r2 : Int) (w : World) (hr0 : Kd.C (Kd.int .i64) w A0 l0.length l0) (hc0 : l0.length ≤ c0) (h : spec_DerivativeOfWhole.f k l0 = some (r1, r2)) :
  Calls Try.prog 76 #[.slice A0 l0.length c0] w fun e w' => ∃ v0_ : Value, e = .returned (.tuple #[v0_, .int .i64 r2]) ∧ Kd.R (Kd.int .i64) 2 w' w.heap.size (fun _ => True) v0_ r1 ∧ Below w.heap.size w w' := by
 have HR0 := Aside0.mk hr0
 have HC0 := Aside0.mk hc0
 clear hr0 hc0
 have HB := Aside0.mk (Below.refl w.heap.size w)
 have H : ((spec_l01Poly.f k l0).bind fun t780 => (if t780 = true then (spec_DerivativeOfWhole.l0 k l0 0) else (some (([] : List Int), 1)))) = some (r1, r2) := h
 clear h
 obtain ⟨t780, A2, H⟩ := bnd_ H
 by_cases c3 : t780 = true
 ·subst c3
  have H1 : (spec_DerivativeOfWhole.l0 k l0 0) = some (r1, r2) := by rw [if_pos rfl] at H; exact H
  clear H
  have H := H1
  clear H1
  have H' := Aside0.mk H
  clear H
  go_enter Try.func76, Try.ntmps76
  go_wp2_with (first | ((with_reducible refine gate_callee (f := 165) rfl ?_); refine goesL_ (some 8) rfl rfl Try.func165 (by kernel_rfl) rfl #[.slice A0 l0.length c0] rfl arg_ ?_; (with_reducible refine (spec_l01Poly.calls k _ _ l0 true _ ?side1 ?side2 A2.out).mono ?_); (case side1 => exact Kd.C_below HR0.out bgo_); (case side2 => exact HC0.out); rintro e w' ⟨rfl, ⟨nd, rfl⟩⟩; refine ⟨_, rfl, ?_⟩))
  go_loopg [4] k (fun kq v4 w' => ∃ (x4_1 : Int), v4 = .int .i64 x4_1 ∧ Aside0 (spec_DerivativeOfWhole.l0 kq l0 x4_1 = some (r1, r2)) ∧ Aside0 (kq ≤ k) ∧ Aside0 (Below w.heap.size w w'))
  case atStart => exact ⟨(0), es_, H', ⟨Nat.le_refl _⟩, ⟨hb_⟩⟩
  case round =>
   clear H'
   obtain ⟨x4_1, rfl, HA, HK1, HB⟩ := hrel
   cases gk with
   | zero => exact absurd HA.out (by simp [spec_DerivativeOfWhole.l0])
   | succ k1 =>
    have H := HA.out
    clear HA
    simp only [spec_DerivativeOfWhole.l0] at H
    by_cases c4 : x4_1 < (l0.length : Int)
    ·rw [if_pos c4] at H
     have c4b0 := decide_eq_true c4
     clear c4
     obtain ⟨c5, H⟩ := itn_ H
     have c5b0 := decide_eq_true c5
     clear c5
     obtain ⟨⟨t782, t783⟩, A6, H⟩ := bnd_ H
     dsimp only at H
     by_cases c7 : t783 = true
     ·subst c7
      have H1 : (spec_DerivativeOfWhole.l0 k1 l0 (wrap64 (x4_1 + 1))) = some (r1, r2) := by rw [if_pos rfl] at H; exact H
      clear H
      have H := H1
      clear H1
      have H' := Aside0.mk H
      clear H
      have p781 : 0 ≤ (x4_1 : Int) := od_
      have q781 : x4_1 < (l0.length : Int) := od_
      obtain ⟨ad781, e781, hx781_0⟩ := Kd.at_int HR0.out x4_1 p781 q781
      cases e781
      (try replace hx781_0 := (HB.out.cell (World.block_lt_of_cell? w _ hx781_0)).trans hx781_0)
      replace p781 := eq_true p781
      replace q781 := eq_true q781
      go_wp2_with (first | ((with_reducible refine gate_callee (f := 174) rfl ?_); refine goesL_ (some 22) rfl rfl Try.func174 (by kernel_rfl) rfl #[.int .i64 0, .int .i64 x4_1, .int .i64 (rd l0 x4_1)] rfl arg_ ?_; (with_reducible refine (spec_l01More.calls 0 x4_1 (rd l0 x4_1) t782 true _ A6.out).mono ?_); rintro e w8 ⟨rfl, hb⟩; refine ⟨_, rfl, ?_⟩; replace HB := Aside0.mk (below_step hb_ hb); (try clear hb); (try clear hb2); (try clear hk); (try clear hi)))
      go_roundg k1
      case measure => have := HK1.out; omega
      case rel => exact ⟨(wrap64 (x4_1 + 1)), es_, H', ⟨by have := HK1.out; omega⟩, ⟨hb_⟩⟩
     ·replace c7 := Bool.eq_false_iff.mpr c7
      subst c7
      have H1 : (some (([] : List Int), 3)) = some (r1, r2) := by rw [if_neg (show ¬ (false = true) by decide)] at H; exact H
      clear H
      have H := H1
      clear H1
      simp only [Option.some.injEq, Prod.mk.injEq] at H
      obtain ⟨rfl, rfl⟩ := H
      have p781 : 0 ≤ (x4_1 : Int) := od_
      have q781 : x4_1 < (l0.length : Int) := od_
      obtain ⟨ad781, e781, hx781_0⟩ := Kd.at_int HR0.out x4_1 p781 q781
      cases e781
      (try replace hx781_0 := (HB.out.cell (World.block_lt_of_cell? w _ hx781_0)).trans hx781_0)
      replace p781 := eq_true p781
      replace q781 := eq_true q781
      go_wp2_with (first | ((with_reducible refine gate_callee (f := 174) rfl ?_); refine goesL_ (some 22) rfl rfl Try.func174 (by kernel_rfl) rfl #[.int .i64 0, .int .i64 x4_1, .int .i64 (rd l0 x4_1)] rfl arg_ ?_; (with_reducible refine (spec_l01More.calls 0 x4_1 (rd l0 x4_1) t782 false _ A6.out).mono ?_); rintro e w9 ⟨rfl, hb⟩; refine ⟨_, rfl, ?_⟩; replace HB := Aside0.mk (below_step hb_ hb); (try clear hb); (try clear hb2); (try clear hk); (try clear hi)))
      go_ret2
      exact ⟨_, er_, by first | exact Kd.R_nil _ _ _ _ _ | exact Kd.N_nil _ _ _ _ _ | exact Kd.V_nil _ _ _ _ _ | exact Kd.Q_nil _ _ _ _ _ | exact Kd.S_nil _ _ _ _ _, hb_⟩
    ·rw [if_neg c4] at H
     have c4b0 := decide_eq_false c4
     clear c4
     obtain ⟨t784, A10, H⟩ := bnd_ H
     simp only [Option.some.injEq, Prod.mk.injEq] at H
     obtain ⟨rfl, rfl⟩ := H
     go_wp2_with (first | ((with_reducible refine gate_callee (f := 181) rfl ?_); refine goesL_ (some 28) rfl rfl Try.func181 (by kernel_rfl) rfl #[.slice A0 l0.length c0] rfl arg_ ?_; (with_reducible refine (spec_l01Derive.calls k1 _ _ l0 t784 _ ?side1 ?side2 A10.out).mono ?_); (case side1 => exact Kd.C_below (Kd.C_below HR0.out HB.out) bgo_); (case side2 => exact HC0.out); rintro e w11 ⟨v785, rfl, ho0, hb⟩; refine ⟨_, rfl, ?_⟩; have HO786 := Aside0.mk (Kd.R_lower ho0 (below_size hb_)); replace HB := Aside0.mk (below_step hb_ hb); (try clear hb); (try clear hb2); (try clear hk); (try clear hi); (try clear ho0)))
     go_ret2
     exact ⟨_, er_, (Kd.R_below HO786.out bgo_), hb_⟩
 ·replace c3 := Bool.eq_false_iff.mpr c3
  subst c3
  have H1 : (some (([] : List Int), 1)) = some (r1, r2) := by rw [if_neg (show ¬ (false = true) by decide)] at H; exact H
  clear H
  have H := H1
  clear H1
  simp only [Option.some.injEq, Prod.mk.injEq] at H
  obtain ⟨rfl, rfl⟩ := H
  go_enter Try.func76, Try.ntmps76
  go_wp2_with (first | ((with_reducible refine gate_callee (f := 165) rfl ?_); refine goesL_ (some 8) rfl rfl Try.func165 (by kernel_rfl) rfl #[.slice A0 l0.length c0] rfl arg_ ?_; (with_reducible refine (spec_l01Poly.calls k _ _ l0 false _ ?side1 ?side2 A2.out).mono ?_); (case side1 => exact Kd.C_below HR0.out bgo_); (case side2 => exact HC0.out); rintro e w' ⟨rfl, ⟨nd, rfl⟩⟩; refine ⟨_, rfl, ?_⟩))
  go_ret2
  exact ⟨_, er_, by first | exact Kd.R_nil _ _ _ _ _ | exact Kd.N_nil _ _ _ _ _ | exact Kd.V_nil _ _ _ _ _ | exact Kd.Q_nil _ _ _ _ _ | exact Kd.S_nil _ _ _ _ _, hb_⟩

end Go.Proofs.Ytkadhadceongiaa.G
