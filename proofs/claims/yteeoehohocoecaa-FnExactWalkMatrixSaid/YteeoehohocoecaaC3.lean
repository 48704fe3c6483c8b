/- The printed functions that this law reaches, and their contracts: part 3. -/
-- printed by this repo's wip/printer out of the kit's print with its own changes
import Derived.Test.YteeoehohocoecaaC2
namespace Go.Proofs.Yteeoehohocoecaa.G
open Go.RowKit Go.Proofs.YteeoehohocoecaaW.PrintWords Go.Proofs.YteeoehohocoecaaW.PrintLast Go.Proofs.YteeoehohocoecaaW.PrintMore
attribute [local go_sem] max2_int min2_int max_two min_two max_three min_three max_four min_four   -- for this text's walks alone
set_option linter.unusedVariables false
set_option linter.unusedSimpArgs false

/-! ### spec_WalkMatrix: function 43 -/
mutual
def spec_WalkMatrix.l0 : Nat → Int → List (List Int) → Int → Int → List (List Int) → Option ((List (List Int)) × Int)
 | 0, _, _, _, _, _ => none
 | k + 1, x1, x7, x8, x911000, x911001 => if x8 < x911000 then (if 0 ≤ x911000 then (if (x911000 : Int).toNat ≤ 35184372088832 then ((some (List.replicate (x911000 : Int).toNat 0 : List Int)).bind fun y915 => (if x1 = 0 then (if 0 ≤ x8 then (if x8 < (y915.length : Int) then (if x7.length < 5864062014805 then (spec_WalkMatrix.l0 k x1 (x7 ++ [(y915.set (x8 : Int).toNat 1)]) (wrap64 (x8 + 1)) x911000 x911001) else (none)) else (none)) else (none)) else (if x7.length < 5864062014805 then (spec_WalkMatrix.l0 k x1 (x7 ++ [y915]) (wrap64 (x8 + 1)) x911000 x911001) else (none)))) else (none)) else (none)) else (if x1 = 0 then (some (x7, 0)) else ((spec_l03Rows.f k x911000 x911001 x1).bind fun t925 => (spec_WalkMatrix.l1 k x7 t925 0 x911000 x911001)))
def spec_WalkMatrix.l1 : Nat → List (List Int) → List (List Int) → Int → Int → List (List Int) → Option ((List (List Int)) × Int)
 | 0, _, _, _, _, _ => none
 | k + 1, x7, x10, x11, x911000, x911001 => if x11 < (x10.length : Int) then ((spec_l01Ends.f x911000 x911001 x11).bind fun bt928 => (if 0 ≤ bt928.1 then (if bt928.1 < (x7.length : Int) then (spec_WalkMatrix.l2 k x7 x10 x11 (rd_L1 x7 bt928.1) 0 x911000 x911001) else (none)) else (none))) else (some (x7, 0))
def spec_WalkMatrix.l2 : Nat → List (List Int) → List (List Int) → Int → List Int → Int → Int → List (List Int) → Option ((List (List Int)) × Int)
 | 0, _, _, _, _, _, _, _ => none
 | k + 1, x7, x10, x11, x14, x15, x911000, x911001 => if x15 < (x10.length : Int) then ((spec_l01Ends.f x911000 x911001 x15).bind fun bt933 => (if 0 ≤ bt933.2 then (if bt933.2 < (x14.length : Int) then (if 0 ≤ x11 then (if x11 < (x10.length : Int) then (if 0 ≤ x15 then (if x15 < ((rd_L1 x10 x11).length : Int) then (spec_WalkMatrix.l2 k x7 x10 x11 (x14.set (bt933.2 : Int).toNat (wrap64 ((rd x14 bt933.2) + (rd (rd_L1 x10 x11) x15)))) (wrap64 (x15 + 1)) x911000 x911001) else (none)) else (none)) else (none)) else (none)) else (none)) else (none))) else ((spec_l01Ends.f x911000 x911001 x11).bind fun bt => (spec_WalkMatrix.l1 k (x7.set (bt.1 : Int).toNat x14) x10 (wrap64 (x11 + 1)) x911000 x911001))
end
def spec_WalkMatrix.f (k : Nat) (a0_0 : Int) (l0_1 : List (List Int)) (a1 : Int) : Option ((List (List Int)) × Int) := (spec_l03Length.f k a0_0 l0_1 a1 0).bind fun t911 => (if t911 = 0 then (spec_WalkMatrix.l0 k a1 (([] : List (List Int))) 0 a0_0 l0_1) else (some (([] : List (List Int)), t911)))
theorem spec_WalkMatrix.mono_l : ∀ k, (∀ y0 y1 y2 y3 y4, LeO (spec_WalkMatrix.l0 k y0 y1 y2 y3 y4) (spec_WalkMatrix.l0 (k + 1) y0 y1 y2 y3 y4)) ∧ (∀ y0 y1 y2 y3 y4, LeO (spec_WalkMatrix.l1 k y0 y1 y2 y3 y4) (spec_WalkMatrix.l1 (k + 1) y0 y1 y2 y3 y4)) ∧ (∀ y0 y1 y2 y3 y4 y5 y6, LeO (spec_WalkMatrix.l2 k y0 y1 y2 y3 y4 y5 y6) (spec_WalkMatrix.l2 (k + 1) y0 y1 y2 y3 y4 y5 y6))
 | 0 => ⟨fun _ _ _ _ _ r h => by simp [spec_WalkMatrix.l0] at h, fun _ _ _ _ _ r h => by simp [spec_WalkMatrix.l1] at h, fun _ _ _ _ _ _ _ r h => by simp [spec_WalkMatrix.l2] at h⟩
 | k + 1 => by
  obtain ⟨ih0, ih1, ih2⟩ := spec_WalkMatrix.mono_l k
  refine ⟨?_, ?_, ?_⟩
  ·intro y0 y1 y2 y3 y4
   unfold spec_WalkMatrix.l0
   repeat' first
   | (with_reducible exact ih0 _ _ _ _ _)
   | (with_reducible exact ih1 _ _ _ _ _)
   | (with_reducible exact ih2 _ _ _ _ _ _ _)
   | (with_reducible exact spec_l03Length.mono _ _ _ _ _)
   | (with_reducible exact spec_l03Rows.mono _ _ _ _)
   | (with_reducible exact LeO.refl _)
   | (with_reducible exact LeO.none _)
   | (with_reducible refine LeO.ite ?_ ?_)
   | (with_reducible refine LeO.bind ?_ (fun _ => ?_))
  ·intro y0 y1 y2 y3 y4
   unfold spec_WalkMatrix.l1
   repeat' first
   | (with_reducible exact ih0 _ _ _ _ _)
   | (with_reducible exact ih1 _ _ _ _ _)
   | (with_reducible exact ih2 _ _ _ _ _ _ _)
   | (with_reducible exact spec_l03Length.mono _ _ _ _ _)
   | (with_reducible exact spec_l03Rows.mono _ _ _ _)
   | (with_reducible exact LeO.refl _)
   | (with_reducible exact LeO.none _)
   | (with_reducible refine LeO.ite ?_ ?_)
   | (with_reducible refine LeO.bind ?_ (fun _ => ?_))
  ·intro y0 y1 y2 y3 y4 y5 y6
   unfold spec_WalkMatrix.l2
   repeat' first
   | (with_reducible exact ih0 _ _ _ _ _)
   | (with_reducible exact ih1 _ _ _ _ _)
   | (with_reducible exact ih2 _ _ _ _ _ _ _)
   | (with_reducible exact spec_l03Length.mono _ _ _ _ _)
   | (with_reducible exact spec_l03Rows.mono _ _ _ _)
   | (with_reducible exact LeO.refl _)
   | (with_reducible exact LeO.none _)
   | (with_reducible refine LeO.ite ?_ ?_)
   | (with_reducible refine LeO.bind ?_ (fun _ => ?_))
theorem spec_WalkMatrix.mono : ∀ a0 a1 a2 k, LeO (spec_WalkMatrix.f k a0 a1 a2) (spec_WalkMatrix.f (k + 1) a0 a1 a2) := by
 intro a0 a1 a2 k
 obtain ⟨ih0, ih1, ih2⟩ := spec_WalkMatrix.mono_l k
 unfold spec_WalkMatrix.f
 repeat' first
   | (with_reducible exact ih0 _ _ _ _ _)
   | (with_reducible exact ih1 _ _ _ _ _)
   | (with_reducible exact ih2 _ _ _ _ _ _ _)
   | (with_reducible exact spec_l03Length.mono _ _ _ _ _)
   | (with_reducible exact spec_l03Rows.mono _ _ _ _)
   | (with_reducible exact LeO.refl _)
   | (with_reducible exact LeO.none _)
   | (with_reducible refine LeO.ite ?_ ?_)
   | (with_reducible refine LeO.bind ?_ (fun _ => ?_))
def spec_WalkMatrix.T24 : Bool × List (List Nat × List Nat) := (true, [([], []), ([], []), ([], []), ([], []), ([2, 3], [2, 3]), ([4], [4]), ([], []), ([], []), ([6, 7], [6, 7]), ([8], [8]), ([], []), ([9, 10], [9, 10]), ([11], [11]), ([5, 12], [5, 12]), ([0, 1, 0, 1, 2, 3, 4, 5, 6, 7, 8, 9, 10, 11, 12, 13], [0, 1]), ([14, 13, 0, 1, 2, 3, 4, 5, 6, 7, 8, 9, 10, 11, 12, 13], [13, 14])])
def spec_WalkMatrix.B24 : List Nat := [0, 0, 0, 0, 12, 28, 0, 0, 192, 448, 0, 1984, 4032, 8188, 16383, 32767]
theorem spec_WalkMatrix.tab24 : rtab .any (opsOf Try.f43 24) = spec_WalkMatrix.T24 := by kernel_rfl
theorem spec_WalkMatrix.bits24 : waitsOk spec_WalkMatrix.T24.2 spec_WalkMatrix.B24 = true := by kernel_rfl
theorem spec_WalkMatrix.grown_set_ (w : World) (a : Addr) (u : Value) : w.grownBy (w.setCell a u) (some a.block) :=
 ⟨rfl, rfl, rfl, by simp, fun k _ hk => heap_setCell_other w a k u (fun e => hk (by rw [e]))⟩
theorem spec_WalkMatrix.grown_drew_ {w w1 : World} {row : Option Nat} (h : w.grownBy w1 row) : w.grownBy w1.drew row := ⟨h.os, h.tape, h.output, h.size, h.block⟩
theorem spec_WalkMatrix.grown_below_ {w w1 w2 : World} {row : Option Nat} (h : w.grownBy w1 row) (hb : Below w1.heap.size w1 w2) : w.grownBy w2 row := h.trans ⟨hb.os, hb.tape, hb.output, hb.size, fun i hi _ => hb.block i hi⟩
set_option maxHeartbeats 8000000 in
set_option maxRecDepth 100000 in
theorem spec_WalkMatrix.calls (k : Nat) (a0_0 : Int) (A0_1 : Option Addr) (c0_1 : Nat) (l0_1 : List (List Int)) (a1 : Int) (r1 : List (List Int)) (r2 : Int) (w : World) (hr0_1 : Kd.C (Kd.slice 2 (Kd.int .i64)) w A0_1 l0_1.length l0_1) (hc0_1 : l0_1.length ≤ c0_1) (h : spec_WalkMatrix.f k a0_0 l0_1 a1 = some (r1, r2)) :
  Calls Try.prog 43 #[.agg #[.int .i64 a0_0, .slice A0_1 l0_1.length c0_1], .int .i64 a1] w fun e w' => ∃ v0_ : Value, e = .returned (.tuple #[v0_, .int .i64 r2]) ∧ Kd.S (Kd.slice 2 (Kd.int .i64)) 24 w' w.heap.size (fun _ => True) v0_ r1 ∧ Below w.heap.size w w' := by
 have hu37 := Try.underlying37
 have HR0_1 := Aside0.mk hr0_1
 have HC0_1 := Aside0.mk hc0_1
 clear hr0_1 hc0_1
 have HB := Aside0.mk (Below.refl w.heap.size w)
 have H : ((spec_l03Length.f k a0_0 l0_1 a1 0).bind fun t911 => (if t911 = 0 then (spec_WalkMatrix.l0 k a1 (([] : List (List Int))) 0 a0_0 l0_1) else (some (([] : List (List Int)), t911)))) = some (r1, r2) := h
 clear h
 replace H := Option.bind_eq_some_iff.mp H
 obtain ⟨t911, A30, H⟩ := H
 replace H : (if t911 = 0 then (spec_WalkMatrix.l0 k a1 (([] : List (List Int))) 0 a0_0 l0_1) else (some (([] : List (List Int)), t911))) = some (r1, r2) := H
 have A3 := Aside0.mk A30
 clear A30
 by_cases c4 : t911 = 0
 ·rw [if_pos c4] at H
  have c4b0 : (t911 == 0) = true := beq_iff_eq.mpr c4
  have c4b1 : (t911 != 0) = false := bne_eq_false_iff_eq.mpr c4
  clear c4
  obtain ⟨y912, hy912⟩ : ∃ y_ : List (List Int), y_ = (([] : List (List Int))) := ⟨_, rfl⟩
  replace H : (spec_WalkMatrix.l0 k a1 y912 0 a0_0 l0_1) = some (r1, r2) := by first | (rw [hy912]; with_reducible exact H) | (have H2_ := (Option.bind_some _ _).symm.trans H; rw [hy912]; with_reducible exact H2_) | (have H2_ := (Option.bind_some _ _).symm.trans H; with_reducible exact H2_) | with_reducible exact H | (rw [hy912]; exact H) | exact H
  have Ny912 := Aside0.mk hy912
  clear hy912
  have H' := Aside0.mk H
  clear H
  go_enter Try.func43, Try.ntmps43
  go_wp2_with (first | ((with_reducible refine gate_dst (N := 2) rfl ?_); refine box_event ?hg (N := 2) ?hd (cs := #[.int .i64 a0_0, .slice A0_1 l0_1.length c0_1]) (t := 37) ?hr ?_; (case hd => rfl); (case hg => rfl); (case hr => first | (go_simp; done) | (go_simp; rfl)); intro gb910 hg w5 hbox hb; have n0_ := Aside0.mk (below_step (by repeat (first | (with_reducible first | exact HB.out | apply below_alloc | apply pw_below_drewN | apply below_drew1) | exact HB.out)) hb); have n1_ := Aside0.mk (hbox); have n2_ := Aside0.mk ((by rw [hg]; exact (below_size (by repeat (first | (with_reducible first | exact HB.out | apply below_alloc | apply pw_below_drewN | apply below_drew1) | exact HB.out))) : w.heap.size ≤ gb910)); have n3_ := Aside0.mk ((by rw [hg]; exact (below_size (by repeat (first | (with_reducible first | exact HB.out | apply below_alloc | apply pw_below_drewN | apply below_drew1) | exact HB.out))) : w.heap.size ≤ gb910)); clear HB; have HB := n0_; have BK910 := n1_; have GW910 := n2_; have GE910 := n3_; clear n0_ n1_ n2_ n3_; clear hb hbox hg; have hcz6_0 : w5.cell? ⟨gb910, 0, none⟩ = some (.int .i64 a0_0) := (blk_cell BK910.out 0).trans rfl; have hcz6_1 : w5.cell? ⟨gb910, 1, none⟩ = some (.slice A0_1 l0_1.length c0_1) := (blk_cell BK910.out 1).trans rfl; have hfz6_0 := blk_frozen BK910.out 0; have hfz6_1 := blk_frozen BK910.out 1) | ((with_reducible refine gate_callee (f := 64) rfl ?_); refine goesL_ (some 20) rfl rfl Try.func64 (by kernel_rfl) rfl #[.agg #[.int .i64 a0_0, .slice A0_1 l0_1.length c0_1], .int .i64 a1, .int .i64 0] rfl (by (try simp only [List.map_toArray, List.map_cons, List.map_nil]); first | done | rfl | (simp only [List.length_drop, List.length_take]; rfl)) ?_; (with_reducible refine (spec_l03Length.calls k a0_0 _ _ l0_1 a1 0 t911 _ ?side1 ?side2 A3.out).mono ?_); (case side1 => repeat (first | exact (Kd.C_below HR0_1.out HB.out) | (with_reducible refine Kd.C_alloc ?_ _) | (with_reducible refine Kd.C_drewN ?_ _) | (with_reducible refine Kd.C_drew ?_))); (case side2 => exact HC0_1.out); rintro e w7 ⟨rfl, hb⟩; refine ⟨_, rfl, ?_⟩; have n0_ := Aside0.mk (blk_below (g := gb910) (o := .cells #[.int .i64 a0_0, .slice A0_1 l0_1.length c0_1] 37 (0, 0)) (by (with_reducible repeat (first | refine blk_drewN ?_ _ | refine blk_drew ?_ | refine blk_alloc ?_ _)); exact BK910.out) hb); have n1_ := Aside0.mk (below_step (by repeat (first | (with_reducible first | exact HB.out | apply below_alloc | apply pw_below_drewN | apply below_drew1 | refine below_set ?_ GE910.out) | exact HB.out)) hb); clear BK910; clear HB; have BK910 := n0_; have HB := n1_; clear n0_ n1_; (try clear hb); (try clear hb2); (try clear hk); (try clear hi)) | ((with_reducible refine gate_dst (N := 24) rfl ?_); refine Kd.S_lit (Kd.slice 2 (Kd.int .i64)) _ 24 ?hg (N := 24) ?hd (xs := ([] : List (List Int))) (inner := []) (ok := fun _ => True) (okp := fun _ => True) ?hr ?hp (fun _ hk => hk) trivial (Below.refl _ _) (Nat.le_refl _) (by simp) ?_; (case hd => rfl); (case hg => rfl); (case hr => first | (go_simp; done) | (go_simp; rfl)); (case hp => exact (Reps.none _ _)); intro v913 w8 ho9 hb hg_ hnew_; clear hg_ hnew_; (first | rw [← Ny912.out] at ho9 | (simp only [Int.reduceToNat] at ho9; rw [← Ny912.out] at ho9)); have n0_ := Aside0.mk (Kd.S_lower ho9 (below_size (by repeat (first | (with_reducible first | exact HB.out | apply below_alloc | apply pw_below_drewN | apply below_drew1 | refine below_set ?_ GE910.out) | exact HB.out)))); have n1_ := Aside0.mk (blk_below (g := gb910) (o := .cells #[.int .i64 a0_0, .slice A0_1 l0_1.length c0_1] 37 (0, 0)) (by (with_reducible repeat (first | refine blk_drewN ?_ _ | refine blk_drew ?_ | refine blk_alloc ?_ _)); exact BK910.out) hb); have n2_ := Aside0.mk (below_step (by repeat (first | (with_reducible first | exact HB.out | apply below_alloc | apply pw_below_drewN | apply below_drew1 | refine below_set ?_ GE910.out) | exact HB.out)) hb); clear BK910; clear HB; have HO914 := n0_; have BK910 := n1_; have HB := n2_; clear n0_ n1_ n2_; clear hb ho9))
  go_loopg [7, 8] k (fun kq v7 v8 w' => ∃ (x7_1 : List (List Int)) (x8_1 : Int), v8 = .int .i64 x8_1 ∧ Aside0 (spec_WalkMatrix.l0 kq a1 x7_1 x8_1 a0_0 l0_1 = some (r1, r2)) ∧ Aside0 (kq ≤ k) ∧ Aside0 (Kd.S (Kd.slice 2 (Kd.int .i64)) 24 w' w.heap.size (fun _ => True) v7 x7_1) ∧ Aside0 (w'.heap[gb910]? = some (.cells #[.int .i64 a0_0, (.slice A0_1 l0_1.length c0_1)] 37 (0, 0))) ∧ Aside0 (Below w.heap.size w w'))
  case atStart => exact ⟨(y912), (0), (by first | rfl | (simp; done) | (simp [*]; done)), H', ⟨Nat.le_refl _⟩, ⟨by (with_reducible repeat (first | apply Kd.S_alloc | apply Kd.S_drewN | apply Kd.S_drew)); exact HO914.out⟩, ⟨by (with_reducible repeat (first | refine blk_drewN ?_ _ | refine blk_drew ?_ | refine blk_alloc ?_ _)); exact BK910.out⟩, ⟨by repeat (first | (with_reducible first | exact HB.out | apply below_alloc | apply pw_below_drewN | apply below_drew1 | refine below_set ?_ GE910.out) | exact HB.out)⟩⟩
  case round =>
   clear H'
   try clear p2
   try clear c4
   try clear c4b0
   try clear c4b1
   try clear c6
   try clear hcz6_0
   try clear hcz6_1
   try clear hfz6_0
   try clear hfz6_1
   obtain ⟨x7_1, x8_1, rfl, HA, HK1, HO_7, BK910, HB⟩ := hrel
   cases gk with
   | zero => exact absurd HA.out (by simp [spec_WalkMatrix.l0])
   | succ k1 =>
    have H := HA.out
    clear HA
    simp only [spec_WalkMatrix.l0] at H
    by_cases c10 : x8_1 < a0_0
    ·rw [if_pos c10] at H
     have c10b0 : decide (x8_1 < a0_0) = true := decide_eq_true c10
     clear c10
     by_cases c11 : 0 ≤ a0_0
     ·rw [if_pos c11] at H
      have c11b0 := eq_true c11
      have c11b1 : decide (0 ≤ a0_0) = true := decide_eq_true c11
      clear c11
      by_cases c12 : (a0_0 : Int).toNat ≤ 35184372088832
      ·rw [if_pos c12] at H
       have c12b0 := eq_true c12
       have c12b1 : decide ((a0_0 : Int).toNat ≤ 35184372088832) = true := decide_eq_true c12
       clear c12
       obtain ⟨y915, hy915⟩ : ∃ y_ : List Int, y_ = (List.replicate (a0_0 : Int).toNat 0) := ⟨_, rfl⟩
       replace H : (if a1 = 0 then (if 0 ≤ x8_1 then (if x8_1 < (y915.length : Int) then (if x7_1.length < 5864062014805 then (spec_WalkMatrix.l0 k1 a1 (x7_1 ++ [(y915.set (x8_1 : Int).toNat 1)]) (wrap64 (x8_1 + 1)) a0_0 l0_1) else (none)) else (none)) else (none)) else (if x7_1.length < 5864062014805 then (spec_WalkMatrix.l0 k1 a1 (x7_1 ++ [y915]) (wrap64 (x8_1 + 1)) a0_0 l0_1) else (none))) = some (r1, r2) := by first | (rw [hy915]; with_reducible exact H) | (have H2_ := (Option.bind_some _ _).symm.trans H; rw [hy915]; with_reducible exact H2_) | (have H2_ := (Option.bind_some _ _).symm.trans H; with_reducible exact H2_) | with_reducible exact H | (rw [hy915]; exact H) | exact H
       have Ny915 := Aside0.mk hy915
       clear hy915
       by_cases c13 : a1 = 0
       ·rw [if_pos c13] at H
        have c13b0 : (a1 == 0) = true := beq_iff_eq.mpr c13
        have c13b1 : (a1 != 0) = false := bne_eq_false_iff_eq.mpr c13
        clear c13
        by_cases c14 : 0 ≤ x8_1
        ·rw [if_pos c14] at H
         have c14b0 : decide (0 ≤ x8_1) = true := decide_eq_true c14
         clear c14
         by_cases c15 : x8_1 < (y915.length : Int)
         ·rw [if_pos c15] at H
          have c15b0 : decide (x8_1 < (y915.length : Int)) = true := decide_eq_true c15
          clear c15
          obtain ⟨y918, hy918⟩ : ∃ y_ : List Int, y_ = (y915.set (x8_1 : Int).toNat 1) := ⟨_, rfl⟩
          replace H : (if x7_1.length < 5864062014805 then (spec_WalkMatrix.l0 k1 a1 (x7_1 ++ [y918]) (wrap64 (x8_1 + 1)) a0_0 l0_1) else (none)) = some (r1, r2) := by first | (rw [hy918]; with_reducible exact H) | (have H2_ := (Option.bind_some _ _).symm.trans H; rw [hy918]; with_reducible exact H2_) | (have H2_ := (Option.bind_some _ _).symm.trans H; with_reducible exact H2_) | with_reducible exact H | (rw [hy918]; exact H) | exact H
          have Ny918 := Aside0.mk hy918
          clear hy918
          by_cases c17 : x7_1.length < 5864062014805
          ·rw [if_pos c17] at H
           have LMc17 := Aside0.mk c17
           clear c17
           obtain ⟨y919, hy919⟩ : ∃ y_ : List (List Int), y_ = (x7_1 ++ [y918]) := ⟨_, rfl⟩
           replace H : (spec_WalkMatrix.l0 k1 a1 y919 (wrap64 (x8_1 + 1)) a0_0 l0_1) = some (r1, r2) := by first | (rw [hy919]; with_reducible exact H) | (have H2_ := (Option.bind_some _ _).symm.trans H; rw [hy919]; with_reducible exact H2_) | (have H2_ := (Option.bind_some _ _).symm.trans H; with_reducible exact H2_) | with_reducible exact H | (rw [hy919]; exact H) | exact H
           have Ny919 := Aside0.mk hy919
           clear hy919
           have H' := Aside0.mk H
           clear H
           have hcz18_0 : wr.cell? ⟨gb910, 0, none⟩ = some (.int .i64 a0_0) := (blk_cell BK910.out 0).trans rfl
           have hcz18_1 : wr.cell? ⟨gb910, 1, none⟩ = some (.slice A0_1 l0_1.length c0_1) := (blk_cell BK910.out 1).trans rfl
           have hfz18_0 := blk_frozen BK910.out 0
           have hfz18_1 := blk_frozen BK910.out 1
           go_wp2_with (first | ((with_reducible refine gate_dst (N := 33) rfl ?_); refine Kd.R_make (Kd.int .i64) _ 2 rfl (N := 33) rfl 24 _ _ rfl a0_0 rfl rfl Try.underlying24 (.int .i64 0) 8 info2 rfl (by decide) (by omega) 0 (ok := fun _ => True) (okp := fun _ => True) rfl (fun _ hk => hk) trivial (of_decide_eq_true (by assumption)) (Nat.le_trans (Nat.mul_le_mul_right _ (of_decide_eq_true (by assumption) : a0_0.toNat ≤ 35184372088832)) (by omega)) (Below.refl _ _) (Nat.le_refl _) ?_; intro v916 w19 ho20 hb hg_ hnew_; clear hg_ hnew_; (first | rw [← Ny915.out] at ho20 | (simp only [Int.reduceToNat] at ho20; rw [← Ny915.out] at ho20)); have n0_ := Aside0.mk (Kd.S_elder' (by (with_reducible repeat (first | apply Kd.S_alloc | apply Kd.S_drewN | apply Kd.S_drew)); exact HO_7.out) (Kd.R_base ho20) hb); have n1_ := Aside0.mk (Kd.R_lower ho20 (below_size (by repeat (first | (with_reducible first | exact HB.out | apply below_alloc | apply pw_below_drewN | apply below_drew1 | refine below_set ?_ GE910.out) | exact HB.out)))); have n2_ := Aside0.mk (blk_below (g := gb910) (o := .cells #[.int .i64 a0_0, .slice A0_1 l0_1.length c0_1] 37 (0, 0)) (by (with_reducible repeat (first | refine blk_drewN ?_ _ | refine blk_drew ?_ | refine blk_alloc ?_ _)); exact BK910.out) hb); have n3_ := Aside0.mk (below_step (by repeat (first | (with_reducible first | exact HB.out | apply below_alloc | apply pw_below_drewN | apply below_drew1 | refine below_set ?_ GE910.out) | exact HB.out)) hb); clear HO_7; clear BK910; clear HB; have HO_7 := n0_; have HO917 := n1_; have BK910 := n2_; have HB := n3_; clear n0_ n1_ n2_ n3_; clear hb ho20; have p16 : 0 ≤ (x8_1 : Int) := of_decide_eq_true (by assumption); have q16 : (x8_1 : Int) < ((y915.length : Int) : Int) := of_decide_eq_true (by assumption); obtain ⟨go16, co16, eo16, gb16, gl16, cl16, HG16⟩ := Kd.R_form HO917.out (by omega); (first | cases eo16 | (injection eo16 with ea_ en_ ec_; (first | subst ea_ | (injection ea_ with ea_; subst ea_)); subst ec_; clear en_)); have GB16 := Aside0.mk gb16; have GG16 := Aside0.mk HG16; clear gb16 gl16 HG16; obtain ⟨hx16_0, hf16_0⟩ := Kd.R_celln 0 HO917.out (x8_1 : Int) p16 q16; replace p16 := eq_true p16; replace q16 := eq_true q16; obtain ⟨hy21_, hz21_⟩ := Kd.R_celln 0 HO917.out (x8_1 : Int) (of_decide_eq_true (by assumption)) (of_decide_eq_true (by assumption)); have HP21 := Kd.R_putg HO917.out (x8_1 : Int) 1) | ((with_reducible refine gate_store (t := 2) (p := 38) rfl ?_); refine store_event (t := 2) (p := 38) (v := ?vo_w22) (w1 := (w19.setCell ⟨go16, (x8_1 : Int).toNat, none⟩ (.int .i64 1))) ?hg ?ho ?hn ?hr ?_; (case ho => rfl); (case hg => rfl); (case hn => rfl); (case hr => first | (go_simp; done) | (go_simp; rfl)); intro w22 hw; have hg : w19.grownBy w22 (some go16) := (by rw [hw]; exact HP21.2); have hp_ : Kd.R (Kd.int .i64) 2 w22 w.heap.size (fun _ => True) (.slice (some ⟨go16, 0, none⟩) y915.length co16) y918 := (by rw [hw, Ny918.out]; exact HP21.1); clear HP21; have n0_ := Aside0.mk (Kd.S_after (v := (.slice (some ⟨go16, 0, none⟩) y915.length co16)) (v1 := (.slice (some ⟨go16, 0, none⟩) y915.length co16)) (ok := (fun _ => True)) (by (with_reducible repeat (first | apply Kd.S_alloc | apply Kd.S_drewN | apply Kd.S_drew)); exact HO_7.out) hg (.inl rfl)); have n1_ := Aside0.mk (blk_grown (g := gb910) (o := .cells #[.int .i64 a0_0, .slice A0_1 l0_1.length c0_1] 37 (0, 0)) (by (with_reducible repeat (first | refine blk_drewN ?_ _ | refine blk_drew ?_ | refine blk_alloc ?_ _)); exact BK910.out) hg (Kd.R_ne HO917.out BK910.out (by decide))); have n2_ := Aside0.mk (hp_); have n3_ := Aside0.mk ((by rw [hw]; exact below_set (HB.out) GB16.out : Below w.heap.size w w22)); clear HO_7; clear BK910; clear HO917; clear HB; have HO_7 := n0_; have BK910 := n1_; have HO917 := n2_; have HB := n3_; clear n0_ n1_ n2_ n3_; clear hg hw hp_) | ((with_reducible refine gate_builtin (b := .append) (xs := #[.tmp 39, .tmp 41]) rfl ?_); at_builtin; refine Kd.S_append (Kd.slice 2 (Kd.int .i64)) (w0 := w) w.heap.size rfl (.tmp 39) (.tmp 41) 22 24 (.slice none 0 0) 24 rfl Try.underlying22 info24 rfl (by decide) (by omega) u7 x7_1 y918 [.slice (some ⟨go16, 0, none⟩) y915.length co16] (fun _ => True) (fun k_ => some k_ = (.slice (some ⟨go16, 0, none⟩) y915.length co16 : Value).ownBlock) rfl rfl ?aP (fun k_ hk_ => ((Kd.R_mono (ok' := fun k_ => ((fun _ => True)) k_ ∧ some k_ ≠ (u7 : Value).ownBlock) (Kd.R_apart' (HO917.out) (Kd.S_typed HO_7.out) (by decide)) (fun k_ hk => ⟨trivial, hk.2⟩))).1 k_ hk_.symm) ?aF ?aO ?aB ?aS ?aL ?_; (case aP => exact Kd.M_row (Kd.R_mono (Kd.R_tight rfl (Kd.R_mono (ok' := fun k_ => ((fun _ => True)) k_ ∧ some k_ ≠ (u7 : Value).ownBlock) (Kd.R_apart' (HO917.out) (Kd.S_typed HO_7.out) (by decide)) (fun k_ hk => ⟨trivial, hk.2⟩))) (fun _ h_ => h_))); (case aB => exact (by repeat (first | (with_reducible first | exact HB.out | apply below_alloc | apply pw_below_drewN | apply below_drew1 | refine below_set ?_ GE910.out) | exact HB.out))); (case aF => exact (fun _ _ => trivial)); (case aO => exact (by (with_reducible repeat (first | apply Kd.S_alloc | apply Kd.S_drewN | apply Kd.S_drew)); exact Kd.S_mono HO_7.out (fun k_ hk => ⟨trivial, fun e_ => hk.2 e_⟩))); (case aS => exact (below_size (by repeat (first | (with_reducible first | exact HB.out | apply below_alloc | apply pw_below_drewN | apply below_drew1 | refine below_set ?_ GE910.out) | exact HB.out)))); (case aL => have := LMc17.out; omega); intro v920 w23 ho hb hg hat; rw [← Ny919.out] at ho; have n0_ := Aside0.mk (blk_grown (g := gb910) (o := .cells #[.int .i64 a0_0, .slice A0_1 l0_1.length c0_1] 37 (0, 0)) (by (with_reducible repeat (first | refine blk_drewN ?_ _ | refine blk_drew ?_ | refine blk_alloc ?_ _)); exact BK910.out) hg (Kd.S_ne HO_7.out BK910.out (by decide))); have n1_ := Aside0.mk (hb); have n2_ := Aside0.mk (ho); clear BK910; clear HB; clear HO_7; clear HO917; have BK910 := n0_; have HB := n1_; have HO921 := n2_; clear n0_ n1_ n2_; clear ho hb hg hat))
           first | go_roundg k1 | (refine Handed.intro k1 ?measure ?_; rotate_left; go_step; (try simp only [add_plain]); (repeat apply Exists.intro); refine ⟨?rel, rfl⟩)
           case measure => have := HK1.out; omega
           case rel => exact ⟨(y919), (wrap64 (x8_1 + 1)), (by first | rfl | (simp; done) | (simp [*]; done)), H', ⟨by have := HK1.out; omega⟩, ⟨by (with_reducible repeat (first | apply Kd.S_alloc | apply Kd.S_drewN | apply Kd.S_drew)); exact HO921.out⟩, ⟨by (with_reducible repeat (first | refine blk_drewN ?_ _ | refine blk_drew ?_ | refine blk_alloc ?_ _)); exact BK910.out⟩, ⟨by repeat (first | (with_reducible first | exact HB.out | apply below_alloc | apply pw_below_drewN | apply below_drew1 | refine below_set ?_ GE910.out) | exact HB.out)⟩⟩
          ·rw [if_neg c17] at H
           exact absurd H (by simp)
         ·rw [if_neg c15] at H
          exact absurd H (by simp)
        ·rw [if_neg c14] at H
         exact absurd H (by simp)
       ·rw [if_neg c13] at H
        have c13b0 : (a1 == 0) = false := beq_eq_false_iff_ne.mpr c13
        have c13b1 : (a1 != 0) = true := bne_iff_ne.mpr c13
        by_cases c24 : x7_1.length < 5864062014805
        ·rw [if_pos c24] at H
         have LMc24 := Aside0.mk c24
         clear c24
         obtain ⟨y922, hy922⟩ : ∃ y_ : List (List Int), y_ = (x7_1 ++ [y915]) := ⟨_, rfl⟩
         replace H : (spec_WalkMatrix.l0 k1 a1 y922 (wrap64 (x8_1 + 1)) a0_0 l0_1) = some (r1, r2) := by first | (rw [hy922]; with_reducible exact H) | (have H2_ := (Option.bind_some _ _).symm.trans H; rw [hy922]; with_reducible exact H2_) | (have H2_ := (Option.bind_some _ _).symm.trans H; with_reducible exact H2_) | with_reducible exact H | (rw [hy922]; exact H) | exact H
         have Ny922 := Aside0.mk hy922
         clear hy922
         have H' := Aside0.mk H
         clear H
         have hcz25_0 : wr.cell? ⟨gb910, 0, none⟩ = some (.int .i64 a0_0) := (blk_cell BK910.out 0).trans rfl
         have hcz25_1 : wr.cell? ⟨gb910, 1, none⟩ = some (.slice A0_1 l0_1.length c0_1) := (blk_cell BK910.out 1).trans rfl
         have hfz25_0 := blk_frozen BK910.out 0
         have hfz25_1 := blk_frozen BK910.out 1
         go_wp2_with (first | ((with_reducible refine gate_dst (N := 33) rfl ?_); refine Kd.R_make (Kd.int .i64) _ 2 rfl (N := 33) rfl 24 _ _ rfl a0_0 rfl rfl Try.underlying24 (.int .i64 0) 8 info2 rfl (by decide) (by omega) 0 (ok := fun _ => True) (okp := fun _ => True) rfl (fun _ hk => hk) trivial (of_decide_eq_true (by assumption)) (Nat.le_trans (Nat.mul_le_mul_right _ (of_decide_eq_true (by assumption) : a0_0.toNat ≤ 35184372088832)) (by omega)) (Below.refl _ _) (Nat.le_refl _) ?_; intro v916 w26 ho27 hb hg_ hnew_; clear hg_ hnew_; (first | rw [← Ny915.out] at ho27 | (simp only [Int.reduceToNat] at ho27; rw [← Ny915.out] at ho27)); have n0_ := Aside0.mk (Kd.S_elder' (by (with_reducible repeat (first | apply Kd.S_alloc | apply Kd.S_drewN | apply Kd.S_drew)); exact HO_7.out) (Kd.R_base ho27) hb); have n1_ := Aside0.mk (Kd.R_lower ho27 (below_size (by repeat (first | (with_reducible first | exact HB.out | apply below_alloc | apply pw_below_drewN | apply below_drew1 | refine below_set ?_ GE910.out) | exact HB.out)))); have n2_ := Aside0.mk (blk_below (g := gb910) (o := .cells #[.int .i64 a0_0, .slice A0_1 l0_1.length c0_1] 37 (0, 0)) (by (with_reducible repeat (first | refine blk_drewN ?_ _ | refine blk_drew ?_ | refine blk_alloc ?_ _)); exact BK910.out) hb); have n3_ := Aside0.mk (below_step (by repeat (first | (with_reducible first | exact HB.out | apply below_alloc | apply pw_below_drewN | apply below_drew1 | refine below_set ?_ GE910.out) | exact HB.out)) hb); clear HO_7; clear BK910; clear HB; have HO_7 := n0_; have HO917 := n1_; have BK910 := n2_; have HB := n3_; clear n0_ n1_ n2_ n3_; clear hb ho27; obtain ⟨Ao29, co29, eo29⟩ := Kd.R_slice HO917.out; subst eo29) | ((with_reducible refine gate_builtin (b := .append) (xs := #[.tmp 39, .tmp 41]) rfl ?_); at_builtin; refine Kd.S_append (Kd.slice 2 (Kd.int .i64)) (w0 := w) w.heap.size rfl (.tmp 39) (.tmp 41) 22 24 (.slice none 0 0) 24 rfl Try.underlying22 info24 rfl (by decide) (by omega) u7 x7_1 y915 [.slice Ao29 y915.length co29] (fun _ => True) (fun k_ => some k_ = (.slice Ao29 y915.length co29 : Value).ownBlock) rfl rfl ?aP (fun k_ hk_ => ((Kd.R_mono (ok' := fun k_ => ((fun _ => True)) k_ ∧ some k_ ≠ (u7 : Value).ownBlock) (Kd.R_apart' (HO917.out) (Kd.S_typed HO_7.out) (by decide)) (fun k_ hk => ⟨trivial, hk.2⟩))).1 k_ hk_.symm) ?aF ?aO ?aB ?aS ?aL ?_; (case aP => exact Kd.M_row (Kd.R_mono (Kd.R_tight rfl (Kd.R_mono (ok' := fun k_ => ((fun _ => True)) k_ ∧ some k_ ≠ (u7 : Value).ownBlock) (Kd.R_apart' (HO917.out) (Kd.S_typed HO_7.out) (by decide)) (fun k_ hk => ⟨trivial, hk.2⟩))) (fun _ h_ => h_))); (case aB => exact (by repeat (first | (with_reducible first | exact HB.out | apply below_alloc | apply pw_below_drewN | apply below_drew1 | refine below_set ?_ GE910.out) | exact HB.out))); (case aF => exact (fun _ _ => trivial)); (case aO => exact (by (with_reducible repeat (first | apply Kd.S_alloc | apply Kd.S_drewN | apply Kd.S_drew)); exact Kd.S_mono HO_7.out (fun k_ hk => ⟨trivial, fun e_ => hk.2 e_⟩))); (case aS => exact (below_size (by repeat (first | (with_reducible first | exact HB.out | apply below_alloc | apply pw_below_drewN | apply below_drew1 | refine below_set ?_ GE910.out) | exact HB.out)))); (case aL => have := LMc24.out; omega); intro v923 w28 ho hb hg hat; rw [← Ny922.out] at ho; have n0_ := Aside0.mk (blk_grown (g := gb910) (o := .cells #[.int .i64 a0_0, .slice A0_1 l0_1.length c0_1] 37 (0, 0)) (by (with_reducible repeat (first | refine blk_drewN ?_ _ | refine blk_drew ?_ | refine blk_alloc ?_ _)); exact BK910.out) hg (Kd.S_ne HO_7.out BK910.out (by decide))); have n1_ := Aside0.mk (hb); have n2_ := Aside0.mk (ho); clear BK910; clear HB; clear HO_7; clear HO917; have BK910 := n0_; have HB := n1_; have HO924 := n2_; clear n0_ n1_ n2_; clear ho hb hg hat))
         first | go_roundg k1 | (refine Handed.intro k1 ?measure ?_; rotate_left; go_step; (try simp only [add_plain]); (repeat apply Exists.intro); refine ⟨?rel, rfl⟩)
         case measure => have := HK1.out; omega
         case rel => exact ⟨(y922), (wrap64 (x8_1 + 1)), (by first | rfl | (simp; done) | (simp [*]; done)), H', ⟨by have := HK1.out; omega⟩, ⟨by (with_reducible repeat (first | apply Kd.S_alloc | apply Kd.S_drewN | apply Kd.S_drew)); exact HO924.out⟩, ⟨by (with_reducible repeat (first | refine blk_drewN ?_ _ | refine blk_drew ?_ | refine blk_alloc ?_ _)); exact BK910.out⟩, ⟨by repeat (first | (with_reducible first | exact HB.out | apply below_alloc | apply pw_below_drewN | apply below_drew1 | refine below_set ?_ GE910.out) | exact HB.out)⟩⟩
        ·rw [if_neg c24] at H
         exact absurd H (by simp)
      ·rw [if_neg c12] at H
       exact absurd H (by simp)
     ·rw [if_neg c11] at H
      exact absurd H (by simp)
    ·rw [if_neg c10] at H
     have c10b0 : decide (x8_1 < a0_0) = false := decide_eq_false c10
     clear c10
     by_cases c30 : a1 = 0
     ·rw [if_pos c30] at H
      have c30b0 : (a1 == 0) = true := beq_iff_eq.mpr c30
      have c30b1 : (a1 != 0) = false := bne_eq_false_iff_eq.mpr c30
      clear c30
      simp only [Option.some.injEq, Prod.mk.injEq] at H
      obtain ⟨rfl, rfl⟩ := H
      have hcz31_0 : wr.cell? ⟨gb910, 0, none⟩ = some (.int .i64 a0_0) := (blk_cell BK910.out 0).trans rfl
      have hcz31_1 : wr.cell? ⟨gb910, 1, none⟩ = some (.slice A0_1 l0_1.length c0_1) := (blk_cell BK910.out 1).trans rfl
      have hfz31_0 := blk_frozen BK910.out 0
      have hfz31_1 := blk_frozen BK910.out 1
      go_wp2
      go_ret2
      exact ⟨_, by first | rfl | (simp [errW_none, errW_some] <;> rfl) | (simp [*, errW_none, errW_some] <;> rfl), by (with_reducible repeat (first | apply Kd.S_alloc | apply Kd.S_drewN | apply Kd.S_drew)); exact HO_7.out, by repeat (first | (with_reducible first | exact HB.out | apply below_alloc | apply pw_below_drewN | apply below_drew1 | refine below_set ?_ GE910.out) | exact HB.out)⟩
     ·rw [if_neg c30] at H
      have c30b0 : (a1 == 0) = false := beq_eq_false_iff_ne.mpr c30
      have c30b1 : (a1 != 0) = true := bne_iff_ne.mpr c30
      replace H := Option.bind_eq_some_iff.mp H
      obtain ⟨t925, A320, H⟩ := H
      replace H : (spec_WalkMatrix.l1 k1 x7_1 t925 0 a0_0 l0_1) = some (r1, r2) := H
      have A32 := Aside0.mk A320
      clear A320
      have H' := Aside0.mk H
      clear H
      have hcz33_0 : wr.cell? ⟨gb910, 0, none⟩ = some (.int .i64 a0_0) := (blk_cell BK910.out 0).trans rfl
      have hcz33_1 : wr.cell? ⟨gb910, 1, none⟩ = some (.slice A0_1 l0_1.length c0_1) := (blk_cell BK910.out 1).trans rfl
      have hfz33_0 := blk_frozen BK910.out 0
      have hfz33_1 := blk_frozen BK910.out 1
      obtain ⟨bm9, hbm9⟩ : ∃ b_ : Nat, wr.heap.size = b_ := ⟨_, rfl⟩
      have HBM := Aside0.mk hbm9
      clear hbm9
      go_wp2_with (first | ((with_reducible refine gate_callee (f := 89) rfl ?_); refine goesL_ (some 48) rfl rfl Try.func89 (by kernel_rfl) rfl #[.agg #[.int .i64 a0_0, .slice A0_1 l0_1.length c0_1], .int .i64 a1] rfl (by (try simp only [List.map_toArray, List.map_cons, List.map_nil]); first | done | rfl | (simp only [List.length_drop, List.length_take]; rfl)) ?_; (with_reducible refine (spec_l03Rows.calls k1 a0_0 _ _ l0_1 a1 t925 _ ?side1 ?side2 A32.out).mono ?_); (case side1 => repeat (first | exact (Kd.C_below HR0_1.out HB.out) | (with_reducible refine Kd.C_alloc ?_ _) | (with_reducible refine Kd.C_drewN ?_ _) | (with_reducible refine Kd.C_drew ?_))); (case side2 => exact HC0_1.out); rintro e w34 ⟨v926, rfl, ho0, hb⟩; refine ⟨_, rfl, ?_⟩; have n0_ := Aside0.mk (Kd.S_elder' (ok := fun k_ => k_ < bm9) (by (with_reducible repeat (first | apply Kd.S_alloc | apply Kd.S_drewN | apply Kd.S_drew)); exact Kd.S_mono (Kd.S_bound HO_7.out) (fun k_ hk_ => by have h_ := hk_.2.2.1; have e_ := HBM.out; omega)) (Kd.S_base ho0) hb); have n1_ := Aside0.mk (Kd.S_lower (Kd.S_new' (Kd.S_mono (ok' := fun k_ => bm9 ≤ k_) (Kd.S_bound ho0) (fun k_ hk_ => by have h_ := hk_.2.1; have e_ := HBM.out; omega)) (Kd.S_lt (by (with_reducible repeat (first | apply Kd.S_alloc | apply Kd.S_drewN | apply Kd.S_drew)); exact HO_7.out))) (below_size (by repeat (first | (with_reducible first | exact HB.out | apply below_alloc | apply pw_below_drewN | apply below_drew1 | refine below_set ?_ GE910.out) | exact HB.out)))); have n2_ := Aside0.mk (blk_below (g := gb910) (o := .cells #[.int .i64 a0_0, .slice A0_1 l0_1.length c0_1] 37 (0, 0)) (by (with_reducible repeat (first | refine blk_drewN ?_ _ | refine blk_drew ?_ | refine blk_alloc ?_ _)); exact BK910.out) hb); have n3_ := Aside0.mk (below_step (by repeat (first | (with_reducible first | exact HB.out | apply below_alloc | apply pw_below_drewN | apply below_drew1 | refine below_set ?_ GE910.out) | exact HB.out)) hb); clear HO_7; clear BK910; clear HB; have HO_7 := n0_; have HO927 := n1_; have BK910 := n2_; have HB := n3_; clear n0_ n1_ n2_ n3_; (try clear hb); (try clear hb2); (try clear hk); (try clear hi); (try clear ho0)))
      go_loopg [11] k1 (fun kq v11 w' => ∃ (x11_2 : Int) (x7_2 : List (List Int)), v11 = .int .i64 x11_2 ∧ Aside0 (spec_WalkMatrix.l1 kq x7_2 t925 x11_2 a0_0 l0_1 = some (r1, r2)) ∧ Aside0 (kq ≤ k1) ∧ Aside0 (Kd.S (Kd.slice 2 (Kd.int .i64)) 24 w' w.heap.size (fun k_ => k_ < bm9) u7 x7_2) ∧ Aside0 (Kd.S (Kd.slice 2 (Kd.int .i64)) 24 w' w.heap.size (fun k_ => bm9 ≤ k_) v926 t925) ∧ Aside0 (w'.heap[gb910]? = some (.cells #[.int .i64 a0_0, (.slice A0_1 l0_1.length c0_1)] 37 (0, 0))) ∧ Aside0 (Below w.heap.size w w'))
      case atStart => exact ⟨(0), (x7_1), (by first | rfl | (simp; done) | (simp [*]; done)), H', ⟨Nat.le_refl _⟩, ⟨by (with_reducible repeat (first | apply Kd.S_alloc | apply Kd.S_drewN | apply Kd.S_drew)); exact Kd.S_mono HO_7.out (fun _ hk => hk.1)⟩, ⟨by (with_reducible repeat (first | apply Kd.S_alloc | apply Kd.S_drewN | apply Kd.S_drew)); exact Kd.S_mono HO927.out (fun _ hk => hk.1)⟩, ⟨by (with_reducible repeat (first | refine blk_drewN ?_ _ | refine blk_drew ?_ | refine blk_alloc ?_ _)); exact BK910.out⟩, ⟨by repeat (first | (with_reducible first | exact HB.out | apply below_alloc | apply pw_below_drewN | apply below_drew1 | refine below_set ?_ GE910.out) | exact HB.out)⟩⟩
      case round =>
       clear H'
       try clear c1
       try clear p1
       try clear q1
       try clear hx1
       try clear c2
       try clear p2
       try clear c3
       try clear c4
       try clear c4b0
       try clear c4b1
       try clear c6
       try clear p6
       try clear c8
       try clear c10
       try clear c10b0
       try clear c11
       try clear c11b0
       try clear c11b1
       try clear c12
       try clear c12b0
       try clear c12b1
       try clear c13
       try clear c13b0
       try clear c13b1
       try clear c14
       try clear c14b0
       try clear c15
       try clear c15b0
       try clear p16
       try clear q16
       try clear hx16
       try clear hf16
       try clear c17
       try clear c24
       try clear c30
       try clear c30b0
       try clear c30b1
       try clear hcz18_0
       try clear hcz18_1
       try clear hcz25_0
       try clear hcz25_1
       try clear hcz31_0
       try clear hcz31_1
       try clear hcz33_0
       try clear hcz33_1
       try clear hcz6_0
       try clear hcz6_1
       try clear hfz18_0
       try clear hfz18_1
       try clear hfz25_0
       try clear hfz25_1
       try clear hfz31_0
       try clear hfz31_1
       try clear hfz33_0
       try clear hfz33_1
       try clear hfz6_0
       try clear hfz6_1
       try clear hx16_0
       try clear p16
       try clear p2
       try clear q16
       clear HO_7 HO927
       obtain ⟨x11_2, x7_2, rfl, HA, HK2, HO_7, HO_10, BK910, HB⟩ := hrel
       cases gk with
       | zero => exact absurd HA.out (by simp [spec_WalkMatrix.l1])
       | succ k2 =>
        have H := HA.out
        clear HA
        simp only [spec_WalkMatrix.l1] at H
        by_cases c35 : x11_2 < (t925.length : Int)
        ·rw [if_pos c35] at H
         have c35b0 : decide (x11_2 < (t925.length : Int)) = true := decide_eq_true c35
         clear c35
         replace H := Option.bind_eq_some_iff.mp H
         obtain ⟨⟨t928, t929⟩, A360, H⟩ := H
         replace H : (if 0 ≤ t928 then (if t928 < (x7_2.length : Int) then (spec_WalkMatrix.l2 k2 x7_2 t925 x11_2 (rd_L1 x7_2 t928) 0 a0_0 l0_1) else (none)) else (none)) = some (r1, r2) := H
         have A36 := Aside0.mk A360
         clear A360
         have c91 : 0 ≤ t928 := Decidable.byContradiction (fun c_ => by rw [if_neg c_] at H; exact absurd H (by simp))
         rw [if_pos c91] at H
         have c92 : t928 < (x7_2.length : Int) := Decidable.byContradiction (fun c_ => by rw [if_neg c_] at H; exact absurd H (by simp))
         rw [if_pos c92] at H
         have c91p := Aside0.mk c91
         have c92p := Aside0.mk c92
         clear c91 c92
         obtain ⟨y930, hy930⟩ : ∃ y_ : List Int, y_ = rd_L1 x7_2 t928 := ⟨_, rfl⟩
         rw [← hy930] at H
         have Ny930 := Aside0.mk hy930
         clear hy930
         have H' := Aside0.mk H
         clear H
         obtain ⟨Ao39, co39, eo39⟩ := Kd.S_slice HO_10.out
         subst eo39
         obtain ⟨Ao13, co13, eo13⟩ := Kd.S_slice HO_7.out
         subst eo13
         have hcz40_0 : wr.cell? ⟨gb910, 0, none⟩ = some (.int .i64 a0_0) := (blk_cell BK910.out 0).trans rfl
         have hcz40_1 : wr.cell? ⟨gb910, 1, none⟩ = some (.slice A0_1 l0_1.length c0_1) := (blk_cell BK910.out 1).trans rfl
         have hfz40_0 := blk_frozen BK910.out 0
         have hfz40_1 := blk_frozen BK910.out 1
         go_wp2_with (first | ((with_reducible refine gate_callee (f := 90) rfl ?_); refine goesL_ (some 58) rfl rfl Try.func90 (by kernel_rfl) rfl #[.agg #[.int .i64 a0_0, .slice A0_1 l0_1.length c0_1], .int .i64 x11_2] rfl (by (try simp only [List.map_toArray, List.map_cons, List.map_nil]); first | done | rfl | (simp only [List.length_drop, List.length_take]; rfl)) ?_; (with_reducible refine (spec_l01Ends.calls a0_0 _ _ l0_1 x11_2 t928 t929 _ ?side1 ?side2 A36.out).mono ?_); (case side1 => repeat (first | exact (Kd.C_below HR0_1.out HB.out) | (with_reducible refine Kd.C_alloc ?_ _) | (with_reducible refine Kd.C_drewN ?_ _) | (with_reducible refine Kd.C_drew ?_))); (case side2 => exact HC0_1.out); rintro e w41 ⟨rfl, hb⟩; refine ⟨_, rfl, ?_⟩; have n0_ := Aside0.mk (Kd.S_below (by (with_reducible repeat (first | apply Kd.S_alloc | apply Kd.S_drewN | apply Kd.S_drew)); exact HO_7.out) hb); have n1_ := Aside0.mk (Kd.S_below (by (with_reducible repeat (first | apply Kd.S_alloc | apply Kd.S_drewN | apply Kd.S_drew)); exact HO_10.out) hb); have n2_ := Aside0.mk (blk_below (g := gb910) (o := .cells #[.int .i64 a0_0, .slice A0_1 l0_1.length c0_1] 37 (0, 0)) (by (with_reducible repeat (first | refine blk_drewN ?_ _ | refine blk_drew ?_ | refine blk_alloc ?_ _)); exact BK910.out) hb); have n3_ := Aside0.mk (below_step (by repeat (first | (with_reducible first | exact HB.out | apply below_alloc | apply pw_below_drewN | apply below_drew1 | refine below_set ?_ GE910.out) | exact HB.out)) hb); clear HO_7; clear HO_10; clear BK910; clear HB; have HO_7 := n0_; have HO_10 := n1_; have BK910 := n2_; have HB := n3_; clear n0_ n1_ n2_ n3_; (try clear hb); (try clear hb2); (try clear hk); (try clear hi); have hcz42_0 : w41.cell? ⟨gb910, 0, none⟩ = some (.int .i64 a0_0) := (blk_cell BK910.out 0).trans rfl; have hcz42_1 : w41.cell? ⟨gb910, 1, none⟩ = some (.slice A0_1 l0_1.length c0_1) := (blk_cell BK910.out 1).trans rfl; have hfz42_0 := blk_frozen BK910.out 0; have hfz42_1 := blk_frozen BK910.out 1; obtain ⟨ad928, A928, c928, e928, hx928, hl928, hi928⟩ := at_L1 (Kd.S_reads' HO_7.out).2.2 t928 c91p.out c92p.out; cases e928; obtain ⟨oki9, ce9, hcl9, hM9, hcc9, hok9, hbk9⟩ := Kd.S_borrow HO_7.out [] t928 c91p.out c92p.out; obtain ⟨v931, rfl, ge9⟩ := hM9; have hv9 := hcc9 0 _ rfl; rw [Nat.add_zero, show ((Kd.slice 2 (Kd.int .i64))).sz = 1 from rfl, Nat.mul_one] at hv9; have HO932 := Aside0.mk (show Kd.R (Kd.int .i64) 2 _ _ _ _ (rd_L1 x7_2 t928) from ge9); rw [← Ny930.out] at HO932; have HBK := Aside0.mk @hbk9; have HOK9 := Aside0.mk hok9; clear hbk9 ge9 hx928 hcc9 hl928 hi928 hok9 hcl9; have p928 := eq_true c91p.out; have q928 := eq_true c92p.out))
         go_loopg [15] k2 (fun kq v15 w' => ∃ (x14_3 : List Int) (x15_3 : Int), v15 = .int .i64 x15_3 ∧ Aside0 (spec_WalkMatrix.l2 kq x7_2 t925 x11_2 x14_3 x15_3 a0_0 l0_1 = some (r1, r2)) ∧ Aside0 (kq ≤ k2) ∧ Aside0 (World.grownBy w41 w' (Value.ownBlock v931)) ∧ Aside0 (Kd.S (Kd.slice 2 (Kd.int .i64)) 24 w' w.heap.size (fun k_ => bm9 ≤ k_) (.slice Ao39 t925.length co39) t925) ∧ Aside0 (Kd.R (Kd.int .i64) 2 w' w.heap.size oki9 v931 x14_3) ∧ Aside0 (w'.heap[gb910]? = some (.cells #[.int .i64 a0_0, (.slice A0_1 l0_1.length c0_1)] 37 (0, 0))) ∧ Aside0 (Below w.heap.size w w'))
         case atStart => exact ⟨(y930), (0), (by first | rfl | (simp; done) | (simp [*]; done)), H', ⟨Nat.le_refl _⟩, ⟨World.grownBy.refl _ _⟩, ⟨by (with_reducible repeat (first | apply Kd.S_alloc | apply Kd.S_drewN | apply Kd.S_drew)); exact HO_10.out⟩, ⟨by (with_reducible repeat (first | apply Kd.R_alloc | apply Kd.R_drewN | apply Kd.R_drew)); exact HO932.out⟩, ⟨by (with_reducible repeat (first | refine blk_drewN ?_ _ | refine blk_drew ?_ | refine blk_alloc ?_ _)); exact BK910.out⟩, ⟨by repeat (first | (with_reducible first | exact HB.out | apply below_alloc | apply pw_below_drewN | apply below_drew1 | refine below_set ?_ GE910.out) | exact HB.out)⟩⟩
         case round =>
          clear H'
          try clear c1
          try clear p1
          try clear q1
          try clear hx1
          try clear c2
          try clear p2
          try clear c3
          try clear c4
          try clear c4b0
          try clear c4b1
          try clear c6
          try clear p6
          try clear c8
          try clear c9
          try clear c10
          try clear c10b0
          try clear c11
          try clear c11b0
          try clear c11b1
          try clear c12
          try clear c12b0
          try clear c12b1
          try clear c13
          try clear c13b0
          try clear c13b1
          try clear c14
          try clear c14b0
          try clear c15
          try clear c15b0
          try clear p16
          try clear q16
          try clear hx16
          try clear hf16
          try clear c17
          try clear c24
          try clear c30
          try clear c30b0
          try clear c30b1
          try clear c35
          try clear c35b0
          try clear c37
          try clear c37b0
          try clear c37b1
          try clear c38
          try clear c38b0
          try clear c38b1
          try clear c43
          try clear hcz18_0
          try clear hcz18_1
          try clear hcz25_0
          try clear hcz25_1
          try clear hcz31_0
          try clear hcz31_1
          try clear hcz33_0
          try clear hcz33_1
          try clear hcz40_0
          try clear hcz40_1
          try clear hcz42_0
          try clear hcz42_1
          try clear hcz6_0
          try clear hcz6_1
          try clear hfz18_0
          try clear hfz18_1
          try clear hfz25_0
          try clear hfz25_1
          try clear hfz31_0
          try clear hfz31_1
          try clear hfz33_0
          try clear hfz33_1
          try clear hfz40_0
          try clear hfz40_1
          try clear hfz42_0
          try clear hfz42_1
          try clear hfz6_0
          try clear hfz6_1
          try clear hx16_0
          try clear p1
          try clear p16
          try clear p2
          try clear p6
          try clear q1
          try clear q16
          obtain ⟨x14_3, x15_3, rfl, HA, HK3, HO_7, HO_10, HO_14, BK910, HB⟩ := hrel
          cases gk with
          | zero => exact absurd HA.out (by simp [spec_WalkMatrix.l2])
          | succ k3 =>
           have H := HA.out
           clear HA
           simp only [spec_WalkMatrix.l2] at H
           by_cases c45 : x15_3 < (t925.length : Int)
           ·rw [if_pos c45] at H
            have c45b0 : decide (x15_3 < (t925.length : Int)) = true := decide_eq_true c45
            clear c45
            replace H := Option.bind_eq_some_iff.mp H
            obtain ⟨⟨t933, t934⟩, A460, H⟩ := H
            replace H : (if 0 ≤ t934 then (if t934 < (x14_3.length : Int) then (if 0 ≤ x11_2 then (if x11_2 < (t925.length : Int) then (if 0 ≤ x15_3 then (if x15_3 < ((rd_L1 t925 x11_2).length : Int) then (spec_WalkMatrix.l2 k3 x7_2 t925 x11_2 (x14_3.set (t934 : Int).toNat (wrap64 ((rd x14_3 t934) + (rd (rd_L1 t925 x11_2) x15_3)))) (wrap64 (x15_3 + 1)) a0_0 l0_1) else (none)) else (none)) else (none)) else (none)) else (none)) else (none)) = some (r1, r2) := H
            have A46 := Aside0.mk A460
            clear A460
            by_cases c47 : 0 ≤ t934
            ·rw [if_pos c47] at H
             have c47b0 : decide (0 ≤ t934) = true := decide_eq_true c47
             clear c47
             by_cases c48 : t934 < (x14_3.length : Int)
             ·rw [if_pos c48] at H
              have c48b0 : decide (t934 < (x14_3.length : Int)) = true := decide_eq_true c48
              clear c48
              by_cases c49 : 0 ≤ x11_2
              ·rw [if_pos c49] at H
               have c49b0 : decide (0 ≤ x11_2) = true := decide_eq_true c49
               clear c49
               by_cases c50 : x11_2 < (t925.length : Int)
               ·rw [if_pos c50] at H
                have c50b0 : decide (x11_2 < (t925.length : Int)) = true := decide_eq_true c50
                clear c50
                by_cases c51 : 0 ≤ x15_3
                ·rw [if_pos c51] at H
                 have c51b0 : decide (0 ≤ x15_3) = true := decide_eq_true c51
                 clear c51
                 by_cases c52 : x15_3 < ((rd_L1 t925 x11_2).length : Int)
                 ·rw [if_pos c52] at H
                  have c52b0 : decide (x15_3 < ((rd_L1 t925 x11_2).length : Int)) = true := decide_eq_true c52
                  clear c52
                  obtain ⟨y938, hy938⟩ : ∃ y_ : List Int, y_ = (x14_3.set (t934 : Int).toNat (wrap64 ((rd x14_3 t934) + (rd (rd_L1 t925 x11_2) x15_3)))) := ⟨_, rfl⟩
                  replace H : (spec_WalkMatrix.l2 k3 x7_2 t925 x11_2 y938 (wrap64 (x15_3 + 1)) a0_0 l0_1) = some (r1, r2) := by first | (rw [hy938]; with_reducible exact H) | (have H2_ := (Option.bind_some _ _).symm.trans H; rw [hy938]; with_reducible exact H2_) | (have H2_ := (Option.bind_some _ _).symm.trans H; with_reducible exact H2_) | with_reducible exact H | (rw [hy938]; exact H) | exact H
                  have Ny938 := Aside0.mk hy938
                  clear hy938
                  have H' := Aside0.mk H
                  clear H
                  have hcz54_0 : wr.cell? ⟨gb910, 0, none⟩ = some (.int .i64 a0_0) := (blk_cell BK910.out 0).trans rfl
                  have hcz54_1 : wr.cell? ⟨gb910, 1, none⟩ = some (.slice A0_1 l0_1.length c0_1) := (blk_cell BK910.out 1).trans rfl
                  have hfz54_0 := blk_frozen BK910.out 0
                  have hfz54_1 := blk_frozen BK910.out 1
                  try go_wp2_with (first | ((with_reducible refine gate_callee (f := 90) rfl ?_); refine goesL_ (some 74) rfl rfl Try.func90 (by kernel_rfl) rfl #[.agg #[.int .i64 a0_0, .slice A0_1 l0_1.length c0_1], .int .i64 x15_3] rfl (by (try simp only [List.map_toArray, List.map_cons, List.map_nil]); first | done | rfl | (simp only [List.length_drop, List.length_take]; rfl)) ?_; (with_reducible refine (spec_l01Ends.calls a0_0 _ _ l0_1 x15_3 t933 t934 _ ?side1 ?side2 A46.out).mono ?_); (case side1 => repeat (first | exact (Kd.C_below HR0_1.out HB.out) | (with_reducible refine Kd.C_alloc ?_ _) | (with_reducible refine Kd.C_drewN ?_ _) | (with_reducible refine Kd.C_drew ?_))); (case side2 => exact HC0_1.out); rintro e w55 ⟨rfl, hb⟩; refine ⟨_, rfl, ?_⟩; have n0_ := Aside0.mk (spec_WalkMatrix.grown_below_ HO_7.out hb); have n1_ := Aside0.mk (Kd.S_below (by (with_reducible repeat (first | apply Kd.S_alloc | apply Kd.S_drewN | apply Kd.S_drew)); exact HO_10.out) hb); have n2_ := Aside0.mk (Kd.R_below (by (with_reducible repeat (first | apply Kd.R_alloc | apply Kd.R_drewN | apply Kd.R_drew)); exact HO_14.out) hb); have n3_ := Aside0.mk (blk_below (g := gb910) (o := .cells #[.int .i64 a0_0, .slice A0_1 l0_1.length c0_1] 37 (0, 0)) (by (with_reducible repeat (first | refine blk_drewN ?_ _ | refine blk_drew ?_ | refine blk_alloc ?_ _)); exact BK910.out) hb); have n4_ := Aside0.mk (below_step (by repeat (first | (with_reducible first | exact HB.out | apply below_alloc | apply pw_below_drewN | apply below_drew1 | refine below_set ?_ GE910.out) | exact HB.out)) hb); clear HO_7; clear HO_10; clear HO_14; clear BK910; clear HB; have HO_7 := n0_; have HO_10 := n1_; have HO_14 := n2_; have BK910 := n3_; have HB := n4_; clear n0_ n1_ n2_ n3_ n4_; (try clear hb); (try clear hb2); (try clear hk); (try clear hi)))
                  have n0_ := Aside0.mk (spec_WalkMatrix.grown_drew_ HO_7.out)
                  have n1_ := Aside0.mk (Kd.S_drew HO_10.out)
                  have n2_ := Aside0.mk (Kd.R_drew HO_14.out)
                  have n3_ := Aside0.mk (blk_drew BK910.out)
                  have n4_ := Aside0.mk (below_drew1 HB.out)
                  clear HO_7
                  clear HO_10
                  clear HO_14
                  clear BK910
                  clear HB
                  have HO_7 := n0_
                  have HO_10 := n1_
                  have HO_14 := n2_
                  have BK910 := n3_
                  have HB := n4_
                  clear n0_ n1_ n2_ n3_ n4_
                  obtain ⟨Ao57, co57, eo57⟩ := Kd.R_slice HO_14.out
                  (first | subst eo57 | (injection eo57 with f1_ f2_ f3_; have f4_ := f1_.symm; have f5_ := f3_.symm; clear f1_ f2_ f3_; subst f4_; subst f5_))
                  have p935 : 0 ≤ (t934 : Int) := of_decide_eq_true (by assumption)
                  have q935 : t934 < (x14_3.length : Int) := of_decide_eq_true (by assumption)
                  obtain ⟨ad935, e935, hx935_0⟩ := Kd.at_int (Kd.R_reads' HO_14.out).2.2 t934 p935 q935
                  cases e935
                  replace p935 := eq_true p935
                  replace q935 := eq_true q935
                  have p936 : 0 ≤ (x11_2 : Int) := of_decide_eq_true (by assumption)
                  have q936 : x11_2 < (t925.length : Int) := of_decide_eq_true (by assumption)
                  obtain ⟨ad936, A936_0, c936_0, e936, hx936_0, hl936_0, hi936_0⟩ := at_L1 (Kd.S_reads' HO_10.out).2.2 x11_2 p936 q936
                  cases e936
                  obtain ⟨ce936, hce936, hMe936, hcc936⟩ := Kd.S_get HO_10.out [] x11_2 p936 (by first | exact q936 | exact of_decide_eq_true (by assumption) | (have e_ := (Kd.S_reads' HO_10.out).1; omega))
                  obtain ⟨ve936_0, rfl, ge936_0⟩ := hMe936
                  have hv936_0 := hcc936 0 _ rfl
                  rw [Nat.add_zero, show ((Kd.slice 2 (Kd.int .i64))).sz = 1 from rfl, Nat.mul_one] at hv936_0
                  replace hv936_0 := Option.some.inj (hv936_0.symm.trans hx936_0)
                  rw [hv936_0] at ge936_0
                  have HL936_0 := Aside0.mk (show Kd.R (Kd.int .i64) 2 _ _ _ _ (rd_L1 t925 x11_2) from ge936_0)
                  clear hv936_0 ge936_0
                  clear hcc936 hce936
                  have HR936_0 := Aside0.mk hi936_0
                  have HC936_0 := Aside0.mk hl936_0
                  clear hi936_0 hl936_0
                  replace p936 := eq_true p936
                  replace q936 := eq_true q936
                  have p937 : 0 ≤ (x15_3 : Int) := of_decide_eq_true (by assumption)
                  have q937 : x15_3 < ((rd_L1 t925 x11_2).length : Int) := of_decide_eq_true (by assumption)
                  obtain ⟨ad937, e937, hx937_0⟩ := Kd.at_int (by repeat (first | (with_reducible exact HR936_0.out) | (with_reducible refine Kd.C_alloc ?_ _) | (with_reducible refine Kd.C_drewN ?_ _) | (with_reducible refine Kd.C_drew ?_) | exact HR936_0.out)) x15_3 p937 q937
                  cases e937
                  replace p937 := eq_true p937
                  replace q937 := eq_true q937
                  have p53 : 0 ≤ (t934 : Int) := of_decide_eq_true (by assumption)
                  have q53 : (t934 : Int) < ((x14_3.length : Int) : Int) := of_decide_eq_true (by assumption)
                  obtain ⟨go53, co53, eo53, gb53, gl53, cl53, HG53⟩ := Kd.R_form HO_14.out (by omega)
                  (first | cases eo53 | (injection eo53 with ea_ en_ ec_; (first | subst ea_ | (injection ea_ with ea_; subst ea_)); subst ec_; clear en_))
                  have GB53 := Aside0.mk gb53
                  have GG53 := Aside0.mk HG53
                  clear gb53 gl53 HG53
                  (first | simp only [add_plain] at hx935_0 | skip)
                  obtain ⟨hx53_0, hf53_0⟩ := Kd.R_celln 0 HO_14.out (t934 : Int) p53 q53
                  replace p53 := eq_true p53
                  replace q53 := eq_true q53
                  have HP58 := Kd.R_putn HO_14.out (t934 : Int) (wrap64 ((rd x14_3 t934) + (rd (rd_L1 t925 x11_2) x15_3)))
                  rw [← Ny938.out] at HP58
                  have HQ58 := Aside0.mk HP58
                  clear HP58
                  refine start_ (n := 16) (S := fun w' => w'.cell? ⟨go53, (t934).toNat, none⟩ = some (.int .i64 (rd x14_3 t934)) ∧ w'.cell? (ad936.add (x11_2).toNat) = some (.slice (some ad937) (rd_L1 t925 x11_2).length c936_0) ∧ w'.cell? (ad937.add (x15_3).toNat) = some (.int .i64 (rd (rd_L1 t925 x11_2) x15_3))) (ds := [15]) #[false, false, false, false, false, false, false, false, false, false, false, false, false, false, false, false] (by kernel_rfl) rfl rfl ⟨hx935_0, hx936_0, hx937_0⟩ (fun hHeld => ?_); refine with_tabW spec_WalkMatrix.tab24 spec_WalkMatrix.bits24 (fun HT_ HW_ => ?_)
                  generalize w55.drew = w56 at HO_7 HO_10 HO_14 BK910 HB GG53 HL936_0 HQ58 HR936_0 hf53_0 hx53_0 hx935_0 hx936_0 hx937_0 hHeld ⊢
                  refine pure_ (i := 0) (N := some 77) (v := ?_) (a' := ?_) #[true, false, false, false, false, false, false, false, false, false, false, false, false, false, false, false] rfl rfl (any_of HT_.out (by kernel_rfl)) (fun _ _ _ h => h) (Or.inl ⟨by rfl, ?_⟩) ?_ ?_
                  rotate_left
                  ·intro w'
                   go_simp
                   with_reducible rfl
                  rotate_left
                  ·simp only [Act.put, nf_]
                   rfl
                  refine pure_ (i := 1) (N := some 78) (v := ?_) (a' := ?_) #[true, true, false, false, false, false, false, false, false, false, false, false, false, false, false, false] rfl rfl (any_of HT_.out (by kernel_rfl)) (fun _ _ _ h => h) (Or.inl ⟨by rfl, ?_⟩) ?_ ?_
                  rotate_left
                  ·intro w'
                   go_simp
                   with_reducible rfl
                  rotate_left
                  ·simp only [Act.put, nf_]
                   rfl
                  refine pure_ (i := 2) (N := some 79) (v := ?_) (a' := ?_) #[true, true, true, false, false, false, false, false, false, false, false, false, false, false, false, false] rfl rfl (any_of HT_.out (by kernel_rfl)) (fun _ _ _ h => h) (Or.inl ⟨by rfl, ?_⟩) ?_ ?_
                  rotate_left
                  ·intro w'
                   go_simp
                   with_reducible rfl
                  rotate_left
                  ·simp only [Act.put, nf_]
                   rfl
                  refine pure_ (i := 3) (N := some 80) (v := ?_) (a' := ?_) #[true, true, true, true, false, false, false, false, false, false, false, false, false, false, false, false] rfl rfl (any_of HT_.out (by kernel_rfl)) (fun _ _ _ h => h) (Or.inl ⟨by rfl, ?_⟩) ?_ ?_
                  rotate_left
                  ·intro w'
                   go_simp
                   with_reducible rfl
                  rotate_left
                  ·simp only [Act.put, nf_]
                   rfl
                  refine pure_ (i := 4) (N := some 81) (v := ?_) (a' := ?_) #[true, true, true, true, true, false, false, false, false, false, false, false, false, false, false, false] rfl rfl (any_of HT_.out (by kernel_rfl)) (fun _ _ _ h => h) (Or.inl ⟨by rfl, ?_⟩) ?_ ?_
                  rotate_left
                  ·intro w'
                   go_simp
                   with_reducible rfl
                  rotate_left
                  ·simp only [Act.put, nf_]
                   rfl
                  refine pure_ (i := 6) (N := some 83) (v := ?_) (a' := ?_) #[true, true, true, true, true, false, true, false, false, false, false, false, false, false, false, false] rfl rfl (any_of HT_.out (by kernel_rfl)) (fun _ _ _ h => h) (Or.inl ⟨by rfl, ?_⟩) ?_ ?_
                  rotate_left
                  ·intro w'
                   go_simp
                   with_reducible rfl
                  rotate_left
                  ·simp only [Act.put, nf_]
                   rfl
                  refine pure_ (i := 7) (N := some 84) (v := ?_) (a' := ?_) #[true, true, true, true, true, false, true, true, false, false, false, false, false, false, false, false] rfl rfl (any_of HT_.out (by kernel_rfl)) (fun _ _ _ h => h) (Or.inl ⟨by rfl, ?_⟩) ?_ ?_
                  rotate_left
                  ·intro w'
                   go_simp
                   with_reducible rfl
                  rotate_left
                  ·simp only [Act.put, nf_]
                   rfl
                  refine pure_ (i := 8) (N := some 85) (v := ?_) (a' := ?_) #[true, true, true, true, true, false, true, true, true, false, false, false, false, false, false, false] rfl rfl (any_of HT_.out (by kernel_rfl)) (fun _ _ _ h => h) (Or.inl ⟨by rfl, ?_⟩) ?_ ?_
                  rotate_left
                  ·intro w'
                   go_simp
                   with_reducible rfl
                  rotate_left
                  ·simp only [Act.put, nf_]
                   rfl
                  refine pure_ (i := 10) (N := some 87) (v := ?_) (a' := ?_) #[true, true, true, true, true, false, true, true, true, false, true, false, false, false, false, false] rfl rfl (any_of HT_.out (by kernel_rfl)) (fun _ _ _ h => h) (Or.inl ⟨by rfl, ?_⟩) ?_ ?_
                  rotate_left
                  ·intro w'
                   go_simp
                   with_reducible rfl
                  rotate_left
                  ·simp only [Act.put, nf_]
                   rfl
                  refine take_ (i := 5) (N := some 82) (v := ?_) (a' := ?_) #[true, true, true, true, true, true, true, true, true, false, true, false, false, false, false, false] rfl rfl (take_ofW HT_.out HW_.out (by kernel_rfl)) (fun _ _ _ h => h) (Or.inl ⟨by rfl, ?_⟩) hHeld ?_ ?_
                  rotate_left
                  ·rintro w' ⟨s0, s1, s2⟩
                   go_simp
                   with_reducible rfl
                  rotate_left
                  ·simp only [Act.put, nf_]
                   rfl
                  refine take_ (i := 9) (N := some 86) (v := ?_) (a' := ?_) #[true, true, true, true, true, true, true, true, true, true, true, false, false, false, false, false] rfl rfl (take_ofW HT_.out HW_.out (by kernel_rfl)) (fun _ _ _ h => h) (Or.inl ⟨by rfl, ?_⟩) hHeld ?_ ?_
                  rotate_left
                  ·rintro w' ⟨s0, s1, s2⟩
                   go_simp
                   with_reducible rfl
                  rotate_left
                  ·simp only [Act.put, nf_]
                   rfl
                  refine pure_ (i := 11) (N := some 88) (v := ?_) (a' := ?_) #[true, true, true, true, true, true, true, true, true, true, true, true, false, false, false, false] rfl rfl (any_of HT_.out (by kernel_rfl)) (fun _ _ _ h => h) (Or.inl ⟨by rfl, ?_⟩) ?_ ?_
                  rotate_left
                  ·intro w'
                   go_simp
                   with_reducible rfl
                  rotate_left
                  ·simp only [Act.put, nf_]
                   rfl
                  refine take_ (i := 12) (N := some 89) (v := ?_) (a' := ?_) #[true, true, true, true, true, true, true, true, true, true, true, true, true, false, false, false] rfl rfl (take_ofW HT_.out HW_.out (by kernel_rfl)) (fun _ _ _ h => h) (Or.inl ⟨by rfl, ?_⟩) hHeld ?_ ?_
                  rotate_left
                  ·rintro w' ⟨s0, s1, s2⟩
                   go_simp
                   with_reducible rfl
                  rotate_left
                  ·simp only [Act.put, nf_]
                   rfl
                  refine pure_ (i := 13) (N := some 90) (v := ?_) (a' := ?_) #[true, true, true, true, true, true, true, true, true, true, true, true, true, true, false, false] rfl rfl (any_of HT_.out (by kernel_rfl)) (fun _ _ _ h => h) (Or.inl ⟨by rfl, ?_⟩) ?_ ?_
                  rotate_left
                  ·intro w'
                   go_simp
                   with_reducible rfl
                  rotate_left
                  ·simp only [Act.put, nf_]
                   rfl
                  refine pure_ (i := 14) (N := some 91) (v := ?_) (a' := ?_) #[true, true, true, true, true, true, true, true, true, true, true, true, true, true, true, false] rfl rfl (any_of HT_.out (by kernel_rfl)) (fun _ _ _ h => h) (Or.inl ⟨by rfl, ?_⟩) ?_ ?_
                  rotate_left
                  ·intro w'
                   go_simp
                   with_reducible rfl
                  rotate_left
                  ·simp only [Act.put, nf_]
                   rfl
                  refine last_ (i := 15) (N := none) #[true, true, true, true, true, true, true, true, true, true, true, true, true, true, true, true] rfl rfl (one_of HT_.out (by kernel_rfl)) (by decide) (fun K hK => ?_)
                  refine skip_ (w1 := ?_) (by rfl) rfl ?_ ?_
                  rotate_left
                  ·go_simp
                   rfl
                  refine hK.out _ _ ?_
                  clear hK K
                  refine done_ (done_of HT_.out (by kernel_rfl)) ?_
                  try go_wp2
                  first | go_roundg k3 | (refine Handed.intro k3 ?measure ?_; rotate_left; go_step; (try simp only [add_plain]); (repeat apply Exists.intro); refine ⟨?rel, rfl⟩)
                  case measure => have := HK1.out; have := HK2.out; have := HK3.out; omega
                  case rel => exact ⟨(y938), (wrap64 (x15_3 + 1)), (by first | rfl | (simp; done) | (simp [*]; done)), H', ⟨by have := HK1.out; have := HK2.out; have := HK3.out; omega⟩, ⟨HO_7.out.trans (spec_WalkMatrix.grown_set_ _ ⟨go53, (t934 : Int).toNat, none⟩ _)⟩, ⟨by (with_reducible repeat (first | apply Kd.S_alloc | apply Kd.S_drewN | apply Kd.S_drew)); exact Kd.S_mono (Kd.S_far (p := ⟨go53, (t934 : Int).toNat, none⟩) (Kd.S_mono HO_10.out (fun k_ hk => (⟨hk, fun e_ => by have h_ := (HOK9.out _ (HO_14.out.1 _ rfl)).1; have g_ : bm9 ≤ k_ := hk; rw [e_] at g_; exact absurd h_ (Nat.not_lt_of_le g_)⟩ : _ ∧ k_ ≠ go53))) (fun _ hk => hk.2) (.int .i64 (wrap64 ((rd x14_3 t934) + (rd (rd_L1 t925 x11_2) x15_3))))) (fun _ hk => hk.1)⟩, ⟨by (with_reducible repeat (first | apply Kd.R_alloc | apply Kd.R_drewN | apply Kd.R_drew)); exact HQ58.out⟩, ⟨by (with_reducible repeat (first | refine blk_drewN ?_ _ | refine blk_drew ?_ | refine blk_alloc ?_ _)); refine blk_far ?_ (by have h_ := Kd.R_ne HO_14.out BK910.out (by decide); intro e_; exact h_ (by rw [e_]; rfl)) _; (with_reducible repeat (first | refine blk_drewN ?_ _ | refine blk_drew ?_ | refine blk_alloc ?_ _)); exact BK910.out⟩, ⟨by repeat (first | (with_reducible first | exact HB.out | apply below_alloc | apply pw_below_drewN | apply below_drew1 | refine below_set ?_ GB53.out | refine below_set ?_ GE910.out) | exact HB.out)⟩⟩
                 ·rw [if_neg c52] at H
                  exact absurd H (by simp)
                ·rw [if_neg c51] at H
                 exact absurd H (by simp)
               ·rw [if_neg c50] at H
                exact absurd H (by simp)
              ·rw [if_neg c49] at H
               exact absurd H (by simp)
             ·rw [if_neg c48] at H
              exact absurd H (by simp)
            ·rw [if_neg c47] at H
             exact absurd H (by simp)
           ·rw [if_neg c45] at H
            have c45b0 : decide (x15_3 < (t925.length : Int)) = false := decide_eq_false c45
            clear c45
            rw [A36.out] at H
            replace H : (spec_WalkMatrix.l1 k3 (x7_2.set (t928 : Int).toNat x14_3) t925 (wrap64 (x11_2 + 1)) a0_0 l0_1) = some (r1, r2) := H
            have H' := Aside0.mk H
            clear H
            go_wp2
            first | go_roundg k3 | (refine Handed.intro k3 ?measure ?_; rotate_left; go_step; (try simp only [add_plain]); (repeat apply Exists.intro); refine ⟨?rel, rfl⟩)
            case measure => have := HK1.out; have := HK2.out; have := HK3.out; omega
            case rel => exact ⟨(wrap64 (x11_2 + 1)), (x7_2.set (t928 : Int).toNat x14_3), (by first | rfl | (simp; done) | (simp [*]; done)), H', ⟨by have := HK1.out; have := HK2.out; have := HK3.out; omega⟩, ⟨HBK.out HO_7.out (fun k_ e_ => HO_14.out.1 k_ e_) (Kd.M_row HO_14.out)⟩, ⟨by (with_reducible repeat (first | apply Kd.S_alloc | apply Kd.S_drewN | apply Kd.S_drew)); exact HO_10.out⟩, ⟨by (with_reducible repeat (first | refine blk_drewN ?_ _ | refine blk_drew ?_ | refine blk_alloc ?_ _)); exact BK910.out⟩, ⟨by repeat (first | (with_reducible first | exact HB.out | apply below_alloc | apply pw_below_drewN | apply below_drew1 | refine below_set ?_ GE910.out) | exact HB.out)⟩⟩
        ·rw [if_neg c35] at H
         have c35b0 : decide (x11_2 < (t925.length : Int)) = false := decide_eq_false c35
         clear c35
         simp only [Option.some.injEq, Prod.mk.injEq] at H
         obtain ⟨rfl, rfl⟩ := H
         obtain ⟨Ao59, co59, eo59⟩ := Kd.S_slice HO_10.out
         subst eo59
         go_wp2
         go_ret2
         exact ⟨_, by first | rfl | (simp [errW_none, errW_some] <;> rfl) | (simp [*, errW_none, errW_some] <;> rfl), by (with_reducible repeat (first | apply Kd.S_alloc | apply Kd.S_drewN | apply Kd.S_drew)); exact Kd.S_mono HO_7.out (fun _ hk => trivial), by repeat (first | (with_reducible first | exact HB.out | apply below_alloc | apply pw_below_drewN | apply below_drew1 | refine below_set ?_ GE910.out) | exact HB.out)⟩
 ·rw [if_neg c4] at H
  have c4b0 : (t911 == 0) = false := beq_eq_false_iff_ne.mpr c4
  have c4b1 : (t911 != 0) = true := bne_iff_ne.mpr c4
  simp only [Option.some.injEq, Prod.mk.injEq] at H
  obtain ⟨rfl, rfl⟩ := H
  go_enter Try.func43, Try.ntmps43
  go_wp2_with (first | ((with_reducible refine gate_dst (N := 2) rfl ?_); refine box_event ?hg (N := 2) ?hd (cs := #[.int .i64 a0_0, .slice A0_1 l0_1.length c0_1]) (t := 37) ?hr ?_; (case hd => rfl); (case hg => rfl); (case hr => first | (go_simp; done) | (go_simp; rfl)); intro gb910 hg w60 hbox hb; have n0_ := Aside0.mk (below_step (by repeat (first | (with_reducible first | exact HB.out | apply below_alloc | apply pw_below_drewN | apply below_drew1) | exact HB.out)) hb); have n1_ := Aside0.mk (hbox); have n2_ := Aside0.mk ((by rw [hg]; exact (below_size (by repeat (first | (with_reducible first | exact HB.out | apply below_alloc | apply pw_below_drewN | apply below_drew1) | exact HB.out))) : w.heap.size ≤ gb910)); have n3_ := Aside0.mk ((by rw [hg]; exact (below_size (by repeat (first | (with_reducible first | exact HB.out | apply below_alloc | apply pw_below_drewN | apply below_drew1) | exact HB.out))) : w.heap.size ≤ gb910)); clear HB; have HB := n0_; have BK910 := n1_; have GW910 := n2_; have GE910 := n3_; clear n0_ n1_ n2_ n3_; clear hb hbox hg; have hcz61_0 : w60.cell? ⟨gb910, 0, none⟩ = some (.int .i64 a0_0) := (blk_cell BK910.out 0).trans rfl; have hcz61_1 : w60.cell? ⟨gb910, 1, none⟩ = some (.slice A0_1 l0_1.length c0_1) := (blk_cell BK910.out 1).trans rfl; have hfz61_0 := blk_frozen BK910.out 0; have hfz61_1 := blk_frozen BK910.out 1) | ((with_reducible refine gate_callee (f := 64) rfl ?_); refine goesL_ (some 20) rfl rfl Try.func64 (by kernel_rfl) rfl #[.agg #[.int .i64 a0_0, .slice A0_1 l0_1.length c0_1], .int .i64 a1, .int .i64 0] rfl (by (try simp only [List.map_toArray, List.map_cons, List.map_nil]); first | done | rfl | (simp only [List.length_drop, List.length_take]; rfl)) ?_; (with_reducible refine (spec_l03Length.calls k a0_0 _ _ l0_1 a1 0 t911 _ ?side1 ?side2 A3.out).mono ?_); (case side1 => repeat (first | exact (Kd.C_below HR0_1.out HB.out) | (with_reducible refine Kd.C_alloc ?_ _) | (with_reducible refine Kd.C_drewN ?_ _) | (with_reducible refine Kd.C_drew ?_))); (case side2 => exact HC0_1.out); rintro e w62 ⟨rfl, hb⟩; refine ⟨_, rfl, ?_⟩; have n0_ := Aside0.mk (blk_below (g := gb910) (o := .cells #[.int .i64 a0_0, .slice A0_1 l0_1.length c0_1] 37 (0, 0)) (by (with_reducible repeat (first | refine blk_drewN ?_ _ | refine blk_drew ?_ | refine blk_alloc ?_ _)); exact BK910.out) hb); have n1_ := Aside0.mk (below_step (by repeat (first | (with_reducible first | exact HB.out | apply below_alloc | apply pw_below_drewN | apply below_drew1 | refine below_set ?_ GE910.out) | exact HB.out)) hb); clear BK910; clear HB; have BK910 := n0_; have HB := n1_; clear n0_ n1_; (try clear hb); (try clear hb2); (try clear hk); (try clear hi)))
  go_ret2
  exact ⟨_, by first | rfl | (simp [errW_none, errW_some] <;> rfl) | (simp [*, errW_none, errW_some] <;> rfl), by first | exact Kd.S_nil _ _ _ _ _ | exact Kd.N_nil _ _ _ _ _ | exact Kd.V_nil _ _ _ _ _ | exact Kd.Q_nil _ _ _ _ _ | exact Kd.R_nil _ _ _ _ _, by repeat (first | (with_reducible first | exact HB.out | apply below_alloc | apply pw_below_drewN | apply below_drew1 | refine below_set ?_ GE910.out) | exact HB.out)⟩


/-! ### impl_Graph_walkMatrix: function 92 -/
mutual
def impl_Graph_walkMatrix.l0 : Nat → List (List Int) → Int → Int → Option ((List (List Int)))
 | 0, _, _, _ => none
 | k + 1, x5, x24, x25 => if x25 < x24 then (if 0 ≤ x25 then (if x25 < (x5.length : Int) then (if x25 < ((rd_L1 x5 x25).length : Int) then (impl_Graph_walkMatrix.l0 k (x5.set (x25 : Int).toNat ((rd_L1 x5 x25).set (x25 : Int).toNat 1)) x24 (wrap64 (x25 + 1))) else (none)) else (none)) else (none)) else (some x5)
def impl_Graph_walkMatrix.l1 : Nat → Int → List (List Int) → List (List Int) → List (List Int) → Int → Int → Int → List (List Int) → Option ((List (List Int)))
 | 0, _, _, _, _, _, _, _, _ => none
 | k + 1, x1, x5, x7, x8, x43, x44, x911000, x911001 => if x44 < x43 then (if 0 ≤ x44 then (if x44 < (x8.length : Int) then (if x44 < ((rd_L1 x8 x44).length : Int) then (impl_Graph_walkMatrix.l1 k x1 x5 x7 (x8.set (x44 : Int).toNat ((rd_L1 x8 x44).set (x44 : Int).toNat 1)) x43 (wrap64 (x44 + 1)) x911000 x911001) else (none)) else (none)) else (none)) else (impl_Graph_walkMatrix.l2 k x5 x7 x8 (wrap64 (x1 - 1)) 0 x911000 x911001)
def impl_Graph_walkMatrix.l2 : Nat → List (List Int) → List (List Int) → List (List Int) → Int → Int → Int → List (List Int) → Option ((List (List Int)))
 | 0, _, _, _, _, _, _, _ => none
 | k + 1, x5, x7, x8, x55, x56, x911000, x911001 => if x56 < x55 then ((impl_rowsTimes.f k x8 x7).bind fun t929 => (impl_Graph_walkMatrix.l2 k x5 x7 t929 x55 (wrap64 (x56 + 1)) x911000 x911001)) else (impl_Graph_walkMatrix.l3 k x5 x8 (x8.length : Int) 0 x911000 x911001)
def impl_Graph_walkMatrix.l3 : Nat → List (List Int) → List (List Int) → Int → Int → Int → List (List Int) → Option ((List (List Int)))
 | 0, _, _, _, _, _, _ => none
 | k + 1, x5, x8, x63, x64, x911000, x911001 => if x64 < x63 then (if 0 ≤ x64 then (if x64 < (x8.length : Int) then ((impl_Graph_ends.f x911000 x911001 x64).bind fun bt933 => (impl_Graph_walkMatrix.l4 k x5 x8 bt933.1 x63 x64 (rd_L1 x8 x64) ((rd_L1 x8 x64).length : Int) 0 x911000 x911001)) else (none)) else (none)) else (some x5)
def impl_Graph_walkMatrix.l4 : Nat → List (List Int) → List (List Int) → Int → Int → Int → List Int → Int → Int → Int → List (List Int) → Option ((List (List Int)))
 | 0, _, _, _, _, _, _, _, _, _, _ => none
 | k + 1, x5, x8, x12, x63, x64, x75, x76, x77, x911000, x911001 => if x77 < x76 then (if 0 ≤ x77 then (if x77 < (x75.length : Int) then ((impl_Graph_ends.f x911000 x911001 x77).bind fun bt936 => (if 0 ≤ x12 then (if x12 < (x5.length : Int) then (if 0 ≤ bt936.2 then (if bt936.2 < ((rd_L1 x5 x12).length : Int) then (impl_Graph_walkMatrix.l4 k (x5.set (x12 : Int).toNat ((rd_L1 x5 x12).set (bt936.2 : Int).toNat (wrap64 ((rd (rd_L1 x5 x12) bt936.2) + (rd x75 x77))))) x8 x12 x63 x64 x75 x76 (wrap64 (x77 + 1)) x911000 x911001) else (none)) else (none)) else (none)) else (none))) else (none)) else (none)) else (impl_Graph_walkMatrix.l3 k x5 x8 x63 (wrap64 (x64 + 1)) x911000 x911001)
end
def impl_Graph_walkMatrix.f (k : Nat) (a0_0 : Int) (l0_1 : List (List Int)) (a1 : Int) : Option ((List (List Int))) := (impl_square.f k a0_0).bind fun t911 => (if a1 = 0 then (impl_Graph_walkMatrix.l0 k t911 (t911.length : Int) 0) else ((impl_Graph_edgeMatrix.f k a0_0 l0_1).bind fun t918 => ((impl_Graph_size.f a0_0 l0_1).bind fun t921 => ((impl_square.f k (wrap64 (2 * t921))).bind fun t922 => (impl_Graph_walkMatrix.l1 k a1 t911 t918 t922 (t922.length : Int) 0 a0_0 l0_1)))))
theorem impl_Graph_walkMatrix.mono_l : ∀ k, (∀ y0 y1 y2, LeO (impl_Graph_walkMatrix.l0 k y0 y1 y2) (impl_Graph_walkMatrix.l0 (k + 1) y0 y1 y2)) ∧ (∀ y0 y1 y2 y3 y4 y5 y6 y7, LeO (impl_Graph_walkMatrix.l1 k y0 y1 y2 y3 y4 y5 y6 y7) (impl_Graph_walkMatrix.l1 (k + 1) y0 y1 y2 y3 y4 y5 y6 y7)) ∧ (∀ y0 y1 y2 y3 y4 y5 y6, LeO (impl_Graph_walkMatrix.l2 k y0 y1 y2 y3 y4 y5 y6) (impl_Graph_walkMatrix.l2 (k + 1) y0 y1 y2 y3 y4 y5 y6)) ∧ (∀ y0 y1 y2 y3 y4 y5, LeO (impl_Graph_walkMatrix.l3 k y0 y1 y2 y3 y4 y5) (impl_Graph_walkMatrix.l3 (k + 1) y0 y1 y2 y3 y4 y5)) ∧ (∀ y0 y1 y2 y3 y4 y5 y6 y7 y8 y9, LeO (impl_Graph_walkMatrix.l4 k y0 y1 y2 y3 y4 y5 y6 y7 y8 y9) (impl_Graph_walkMatrix.l4 (k + 1) y0 y1 y2 y3 y4 y5 y6 y7 y8 y9))
 | 0 => ⟨fun _ _ _ r h => by simp [impl_Graph_walkMatrix.l0] at h, fun _ _ _ _ _ _ _ _ r h => by simp [impl_Graph_walkMatrix.l1] at h, fun _ _ _ _ _ _ _ r h => by simp [impl_Graph_walkMatrix.l2] at h, fun _ _ _ _ _ _ r h => by simp [impl_Graph_walkMatrix.l3] at h, fun _ _ _ _ _ _ _ _ _ _ r h => by simp [impl_Graph_walkMatrix.l4] at h⟩
 | k + 1 => by
  obtain ⟨ih0, ih1, ih2, ih3, ih4⟩ := impl_Graph_walkMatrix.mono_l k
  refine ⟨?_, ?_, ?_, ?_, ?_⟩
  ·intro y0 y1 y2
   unfold impl_Graph_walkMatrix.l0
   repeat' first
   | (with_reducible exact ih0 _ _ _)
   | (with_reducible exact ih1 _ _ _ _ _ _ _ _)
   | (with_reducible exact ih2 _ _ _ _ _ _ _)
   | (with_reducible exact ih3 _ _ _ _ _ _)
   | (with_reducible exact ih4 _ _ _ _ _ _ _ _ _ _)
   | (with_reducible exact impl_Graph_edgeMatrix.mono _ _ _)
   | (with_reducible exact impl_rowsTimes.mono _ _ _)
   | (with_reducible exact impl_square.mono _ _)
   | (with_reducible exact LeO.refl _)
   | (with_reducible exact LeO.none _)
   | (with_reducible refine LeO.ite ?_ ?_)
   | (with_reducible refine LeO.bind ?_ (fun _ => ?_))
  ·intro y0 y1 y2 y3 y4 y5 y6 y7
   unfold impl_Graph_walkMatrix.l1
   repeat' first
   | (with_reducible exact ih0 _ _ _)
   | (with_reducible exact ih1 _ _ _ _ _ _ _ _)
   | (with_reducible exact ih2 _ _ _ _ _ _ _)
   | (with_reducible exact ih3 _ _ _ _ _ _)
   | (with_reducible exact ih4 _ _ _ _ _ _ _ _ _ _)
   | (with_reducible exact impl_Graph_edgeMatrix.mono _ _ _)
   | (with_reducible exact impl_rowsTimes.mono _ _ _)
   | (with_reducible exact impl_square.mono _ _)
   | (with_reducible exact LeO.refl _)
   | (with_reducible exact LeO.none _)
   | (with_reducible refine LeO.ite ?_ ?_)
   | (with_reducible refine LeO.bind ?_ (fun _ => ?_))
  ·intro y0 y1 y2 y3 y4 y5 y6
   unfold impl_Graph_walkMatrix.l2
   repeat' first
   | (with_reducible exact ih0 _ _ _)
   | (with_reducible exact ih1 _ _ _ _ _ _ _ _)
   | (with_reducible exact ih2 _ _ _ _ _ _ _)
   | (with_reducible exact ih3 _ _ _ _ _ _)
   | (with_reducible exact ih4 _ _ _ _ _ _ _ _ _ _)
   | (with_reducible exact impl_Graph_edgeMatrix.mono _ _ _)
   | (with_reducible exact impl_rowsTimes.mono _ _ _)
   | (with_reducible exact impl_square.mono _ _)
   | (with_reducible exact LeO.refl _)
   | (with_reducible exact LeO.none _)
   | (with_reducible refine LeO.ite ?_ ?_)
   | (with_reducible refine LeO.bind ?_ (fun _ => ?_))
  ·intro y0 y1 y2 y3 y4 y5
   unfold impl_Graph_walkMatrix.l3
   repeat' first
   | (with_reducible exact ih0 _ _ _)
   | (with_reducible exact ih1 _ _ _ _ _ _ _ _)
   | (with_reducible exact ih2 _ _ _ _ _ _ _)
   | (with_reducible exact ih3 _ _ _ _ _ _)
   | (with_reducible exact ih4 _ _ _ _ _ _ _ _ _ _)
   | (with_reducible exact impl_Graph_edgeMatrix.mono _ _ _)
   | (with_reducible exact impl_rowsTimes.mono _ _ _)
   | (with_reducible exact impl_square.mono _ _)
   | (with_reducible exact LeO.refl _)
   | (with_reducible exact LeO.none _)
   | (with_reducible refine LeO.ite ?_ ?_)
   | (with_reducible refine LeO.bind ?_ (fun _ => ?_))
  ·intro y0 y1 y2 y3 y4 y5 y6 y7 y8 y9
   unfold impl_Graph_walkMatrix.l4
   repeat' first
   | (with_reducible exact ih0 _ _ _)
   | (with_reducible exact ih1 _ _ _ _ _ _ _ _)
   | (with_reducible exact ih2 _ _ _ _ _ _ _)
   | (with_reducible exact ih3 _ _ _ _ _ _)
   | (with_reducible exact ih4 _ _ _ _ _ _ _ _ _ _)
   | (with_reducible exact impl_Graph_edgeMatrix.mono _ _ _)
   | (with_reducible exact impl_rowsTimes.mono _ _ _)
   | (with_reducible exact impl_square.mono _ _)
   | (with_reducible exact LeO.refl _)
   | (with_reducible exact LeO.none _)
   | (with_reducible refine LeO.ite ?_ ?_)
   | (with_reducible refine LeO.bind ?_ (fun _ => ?_))
theorem impl_Graph_walkMatrix.mono : ∀ a0 a1 a2 k, LeO (impl_Graph_walkMatrix.f k a0 a1 a2) (impl_Graph_walkMatrix.f (k + 1) a0 a1 a2) := by
 intro a0 a1 a2 k
 obtain ⟨ih0, ih1, ih2, ih3, ih4⟩ := impl_Graph_walkMatrix.mono_l k
 unfold impl_Graph_walkMatrix.f
 repeat' first
   | (with_reducible exact ih0 _ _ _)
   | (with_reducible exact ih1 _ _ _ _ _ _ _ _)
   | (with_reducible exact ih2 _ _ _ _ _ _ _)
   | (with_reducible exact ih3 _ _ _ _ _ _)
   | (with_reducible exact ih4 _ _ _ _ _ _ _ _ _ _)
   | (with_reducible exact impl_Graph_edgeMatrix.mono _ _ _)
   | (with_reducible exact impl_rowsTimes.mono _ _ _)
   | (with_reducible exact impl_square.mono _ _)
   | (with_reducible exact LeO.refl _)
   | (with_reducible exact LeO.none _)
   | (with_reducible refine LeO.ite ?_ ?_)
   | (with_reducible refine LeO.bind ?_ (fun _ => ?_))
set_option maxHeartbeats 8000000 in
set_option maxRecDepth 100000 in
theorem impl_Graph_walkMatrix.calls (k : Nat) (a0_0 : Int) (A0_1 : Option Addr) (c0_1 : Nat) (l0_1 : List (List Int)) (a1 : Int) (r : List (List Int)) (w : World) (hr0_1 : Kd.C (Kd.slice 2 (Kd.int .i64)) w A0_1 l0_1.length l0_1) (hc0_1 : l0_1.length ≤ c0_1) (h : impl_Graph_walkMatrix.f k a0_0 l0_1 a1 = some r) :
  Calls Try.prog 92 #[.agg #[.int .i64 a0_0, .slice A0_1 l0_1.length c0_1], .int .i64 a1] w fun e w' => ∃ v0_ : Value, e = .returned (v0_) ∧ Kd.S (Kd.slice 2 (Kd.int .i64)) 24 w' w.heap.size (fun _ => True) v0_ r ∧ Below w.heap.size w w' := by
 have hu37 := Try.underlying37
 have HR0_1 := Aside0.mk hr0_1
 have HC0_1 := Aside0.mk hc0_1
 clear hr0_1 hc0_1
 have HB := Aside0.mk (Below.refl w.heap.size w)
 have H : ((impl_square.f k a0_0).bind fun t911 => (if a1 = 0 then (impl_Graph_walkMatrix.l0 k t911 (t911.length : Int) 0) else ((impl_Graph_edgeMatrix.f k a0_0 l0_1).bind fun t918 => ((impl_Graph_size.f a0_0 l0_1).bind fun t921 => ((impl_square.f k (wrap64 (2 * t921))).bind fun t922 => (impl_Graph_walkMatrix.l1 k a1 t911 t918 t922 (t922.length : Int) 0 a0_0 l0_1)))))) = some r := h
 clear h
 replace H := Option.bind_eq_some_iff.mp H
 obtain ⟨t911, A30, H⟩ := H
 replace H : (if a1 = 0 then (impl_Graph_walkMatrix.l0 k t911 (t911.length : Int) 0) else ((impl_Graph_edgeMatrix.f k a0_0 l0_1).bind fun t918 => ((impl_Graph_size.f a0_0 l0_1).bind fun t921 => ((impl_square.f k (wrap64 (2 * t921))).bind fun t922 => (impl_Graph_walkMatrix.l1 k a1 t911 t918 t922 (t922.length : Int) 0 a0_0 l0_1))))) = some r := H
 have A3 := Aside0.mk A30
 clear A30
 by_cases c4 : a1 = 0
 ·rw [if_pos c4] at H
  have c4b0 : (a1 == 0) = true := beq_iff_eq.mpr c4
  have c4b1 : (a1 != 0) = false := bne_eq_false_iff_eq.mpr c4
  clear c4
  have H' := Aside0.mk H
  clear H
  go_enter Try.func92, Try.ntmps92
  go_wp2_with (first | ((with_reducible refine gate_dst (N := 2) rfl ?_); refine box_event ?hg (N := 2) ?hd (cs := #[.int .i64 a0_0, .slice A0_1 l0_1.length c0_1]) (t := 37) ?hr ?_; (case hd => rfl); (case hg => rfl); (case hr => first | (go_simp; done) | (go_simp; rfl)); intro gb910 hg w5 hbox hb; have n0_ := Aside0.mk (below_step (by repeat (first | (with_reducible first | exact HB.out | apply below_alloc | apply pw_below_drewN | apply below_drew1) | exact HB.out)) hb); have n1_ := Aside0.mk (hbox); have n2_ := Aside0.mk ((by rw [hg]; exact (below_size (by repeat (first | (with_reducible first | exact HB.out | apply below_alloc | apply pw_below_drewN | apply below_drew1) | exact HB.out))) : w.heap.size ≤ gb910)); have n3_ := Aside0.mk ((by rw [hg]; exact (below_size (by repeat (first | (with_reducible first | exact HB.out | apply below_alloc | apply pw_below_drewN | apply below_drew1) | exact HB.out))) : w.heap.size ≤ gb910)); clear HB; have HB := n0_; have BK910 := n1_; have GW910 := n2_; have GE910 := n3_; clear n0_ n1_ n2_ n3_; clear hb hbox hg; have hcz6_0 : w5.cell? ⟨gb910, 0, none⟩ = some (.int .i64 a0_0) := (blk_cell BK910.out 0).trans rfl; have hcz6_1 : w5.cell? ⟨gb910, 1, none⟩ = some (.slice A0_1 l0_1.length c0_1) := (blk_cell BK910.out 1).trans rfl; have hfz6_0 := blk_frozen BK910.out 0; have hfz6_1 := blk_frozen BK910.out 1) | ((with_reducible refine gate_callee (f := 100) rfl ?_); refine goesL_ (some 20) rfl rfl Try.func100 (by kernel_rfl) rfl #[.int .i64 a0_0] rfl (by (try simp only [List.map_toArray, List.map_cons, List.map_nil]); first | done | rfl | (simp only [List.length_drop, List.length_take]; rfl)) ?_; (with_reducible refine (impl_square.calls k a0_0 t911 _ A3.out).mono ?_); rintro e w7 ⟨v912, rfl, ho0, hb⟩; refine ⟨_, rfl, ?_⟩; have n0_ := Aside0.mk (Kd.S_lower ho0 (below_size (by repeat (first | (with_reducible first | exact HB.out | apply below_alloc | apply pw_below_drewN | apply below_drew1 | refine below_set ?_ GE910.out) | exact HB.out)))); have n1_ := Aside0.mk (blk_below (g := gb910) (o := .cells #[.int .i64 a0_0, .slice A0_1 l0_1.length c0_1] 37 (0, 0)) (by (with_reducible repeat (first | refine blk_drewN ?_ _ | refine blk_drew ?_ | refine blk_alloc ?_ _)); exact BK910.out) hb); have n2_ := Aside0.mk (below_step (by repeat (first | (with_reducible first | exact HB.out | apply below_alloc | apply pw_below_drewN | apply below_drew1 | refine below_set ?_ GE910.out) | exact HB.out)) hb); clear BK910; clear HB; have HO913 := n0_; have BK910 := n1_; have HB := n2_; clear n0_ n1_ n2_; (try clear hb); (try clear hb2); (try clear hk); (try clear hi); (try clear ho0); obtain ⟨Ao8, co8, eo8⟩ := Kd.S_slice HO913.out; subst eo8))
  go_loopg [25] k (fun kq v25 w' => ∃ (x5_1 : List (List Int)) (x25_1 : Int), v25 = .int .i64 x25_1 ∧ Aside0 (impl_Graph_walkMatrix.l0 kq x5_1 (t911.length : Int) x25_1 = some r) ∧ Aside0 (kq ≤ k) ∧ Aside0 (Kd.S (Kd.slice 2 (Kd.int .i64)) 24 w' w.heap.size (fun _ => True) (.slice Ao8 t911.length co8) x5_1) ∧ Aside0 (w'.heap[gb910]? = some (.cells #[.int .i64 a0_0, (.slice A0_1 l0_1.length c0_1)] 37 (0, 0))) ∧ Aside0 (Below w.heap.size w w'))
  case atStart => exact ⟨(t911), (0), (by first | rfl | (simp; done) | (simp [*]; done)), H', ⟨Nat.le_refl _⟩, ⟨by (with_reducible repeat (first | apply Kd.S_alloc | apply Kd.S_drewN | apply Kd.S_drew)); exact HO913.out⟩, ⟨by (with_reducible repeat (first | refine blk_drewN ?_ _ | refine blk_drew ?_ | refine blk_alloc ?_ _)); exact BK910.out⟩, ⟨by repeat (first | (with_reducible first | exact HB.out | apply below_alloc | apply pw_below_drewN | apply below_drew1 | refine below_set ?_ GE910.out) | exact HB.out)⟩⟩
  case round =>
   clear H'
   try clear c1
   try clear p2
   try clear c4
   try clear c4b0
   try clear c4b1
   try clear p6
   try clear hcz6_0
   try clear hcz6_1
   try clear hfz6_0
   try clear hfz6_1
   obtain ⟨x5_1, x25_1, rfl, HA, HK1, HO_5, BK910, HB⟩ := hrel
   have hl5_1 := (Kd.S_reads' HO_5.out).1
   rw [hl5_1] at HO_5
   (try simp only [hl5_1])
   (try simp only [hl5_1] at BK910)
   cases gk with
   | zero => exact absurd HA.out (by simp [impl_Graph_walkMatrix.l0])
   | succ k1 =>
    have H := HA.out
    clear HA
    simp only [impl_Graph_walkMatrix.l0] at H
    by_cases c9 : x25_1 < (t911.length : Int)
    ·rw [if_pos c9] at H
     have c9b0 : decide (x25_1 < (t911.length : Int)) = true := decide_eq_true c9
     (try (have c9z0 := c9b0; simp only [hl5_1] at c9z0))
     clear c9
     by_cases c10 : 0 ≤ x25_1
     ·rw [if_pos c10] at H
      have c10b0 : decide (0 ≤ x25_1) = true := decide_eq_true c10
      clear c10
      by_cases c11 : x25_1 < (x5_1.length : Int)
      ·rw [if_pos c11] at H
       have c11b0 : decide (x25_1 < (x5_1.length : Int)) = true := decide_eq_true c11
       (try (have c11z0 := c11b0; simp only [hl5_1] at c11z0))
       clear c11
       by_cases c12 : x25_1 < ((rd_L1 x5_1 x25_1).length : Int)
       ·rw [if_pos c12] at H
        have c12b0 : decide (x25_1 < ((rd_L1 x5_1 x25_1).length : Int)) = true := decide_eq_true c12
        (try (have c12z0 := c12b0; simp only [hl5_1] at c12z0))
        clear c12
        obtain ⟨y915, hy915⟩ : ∃ y_ : List Int, y_ = ((rd_L1 x5_1 x25_1).set (x25_1 : Int).toNat 1) := ⟨_, rfl⟩
        replace H : (impl_Graph_walkMatrix.l0 k1 (x5_1.set (x25_1 : Int).toNat y915) (t911.length : Int) (wrap64 (x25_1 + 1))) = some r := by first | (rw [hy915]; with_reducible exact H) | (have H2_ := (Option.bind_some _ _).symm.trans H; rw [hy915]; with_reducible exact H2_) | (have H2_ := (Option.bind_some _ _).symm.trans H; with_reducible exact H2_) | with_reducible exact H | (rw [hy915]; exact H) | exact H
        have Ny915 := Aside0.mk hy915
        clear hy915
        obtain ⟨y917, hy917⟩ : ∃ y_ : List (List Int), y_ = (x5_1.set (x25_1 : Int).toNat y915) := ⟨_, rfl⟩
        replace H : (impl_Graph_walkMatrix.l0 k1 y917 (t911.length : Int) (wrap64 (x25_1 + 1))) = some r := by first | (rw [hy917]; with_reducible exact H) | (have H2_ := (Option.bind_some _ _).symm.trans H; rw [hy917]; with_reducible exact H2_) | (have H2_ := (Option.bind_some _ _).symm.trans H; with_reducible exact H2_) | with_reducible exact H | (rw [hy917]; exact H) | exact H
        have Ny917 := Aside0.mk hy917
        clear hy917
        have H' := Aside0.mk H
        clear H
        have p914 : 0 ≤ (x25_1 : Int) := of_decide_eq_true (by assumption)
        have q914 : x25_1 < (x5_1.length : Int) := of_decide_eq_true (by assumption)
        obtain ⟨ad914, A914_0, c914_0, e914, hx914_0, hl914_0, hi914_0⟩ := at_L1 (Kd.S_reads' HO_5.out).2.2 x25_1 p914 q914
        cases e914
        obtain ⟨ce914, hce914, hMe914, hcc914⟩ := Kd.S_get HO_5.out [] x25_1 p914 (by first | exact q914 | exact of_decide_eq_true (by assumption) | (have e_ := (Kd.S_reads' HO_5.out).1; omega))
        obtain ⟨ve914_0, rfl, ge914_0⟩ := hMe914
        have hv914_0 := hcc914 0 _ rfl
        rw [Nat.add_zero, show ((Kd.slice 2 (Kd.int .i64))).sz = 1 from rfl, Nat.mul_one] at hv914_0
        replace hv914_0 := Option.some.inj (hv914_0.symm.trans hx914_0)
        rw [hv914_0] at ge914_0
        have HL914_0 := Aside0.mk (show Kd.R (Kd.int .i64) 2 _ _ _ _ (rd_L1 x5_1 x25_1) from ge914_0)
        clear hv914_0 ge914_0
        have HX914_0 := Aside0.mk hx914_0
        clear hcc914 hce914
        have HR914_0 := Aside0.mk hi914_0
        have HC914_0 := Aside0.mk hl914_0
        clear hi914_0 hl914_0
        replace p914 := eq_true p914
        replace q914 := eq_true q914
        have p13 : 0 ≤ (x25_1 : Int) := of_decide_eq_true (by assumption)
        have q13 : (x25_1 : Int) < (((rd_L1 x5_1 x25_1).length : Int) : Int) := of_decide_eq_true (by assumption)
        obtain ⟨go13, co13, eo13, gb13, gl13, cl13, HG13⟩ := Kd.R_form HL914_0.out (by omega)
        (first | cases eo13 | (injection eo13 with ea_ en_ ec_; (first | subst ea_ | (injection ea_ with ea_; subst ea_)); subst ec_; clear en_))
        have GB13 := Aside0.mk gb13
        have GG13 := Aside0.mk HG13
        clear gb13 gl13 HG13
        obtain ⟨hx13_0, hf13_0⟩ := Kd.R_celln 0 HL914_0.out (x25_1 : Int) p13 q13
        replace p13 := eq_true p13
        replace q13 := eq_true q13
        have hq14 : (x25_1 : Int) < (x5_1.length : Int) := (by have h_ : (x25_1 : Int) < ((x5_1.length : Int) : Int) := of_decide_eq_true (by assumption); first | exact h_ | (have e_ := (Kd.S_reads' HO_5.out).1; omega) | simpa only [List.length_set, List.length_set] using h_)
        obtain ⟨oki14, ce14, hcl14, hM14, hcc14, hok14, hbk14⟩ := Kd.S_borrow HO_5.out [] (x25_1 : Int) (of_decide_eq_true (by assumption)) (by first | exact hq14 | (have e_ := (Kd.S_reads' HO_5.out).1; have h_ := hq14; omega))
        obtain ⟨ve14_0, rfl, ge14_0⟩ := hM14
        have hv14 := hcc14 0 _ rfl
        rw [Nat.add_zero, show ((Kd.slice 2 (Kd.int .i64))).sz = 1 from rfl, Nat.mul_one] at hv14
        replace hv14 := Option.some.inj (hv14.symm.trans HX914_0.out)
        subst hv14
        clear hcc14 hcl14
        replace ge14_0 := (show Kd.R (Kd.int .i64) 2 _ _ _ _ (rd_L1 x5_1 x25_1) from ge14_0)
        have HP14 := Kd.R_putg ge14_0 (x25_1 : Int) 1
        go_wp2_with (first | ((with_reducible refine gate_store (t := 2) (p := 33) rfl ?_); refine store_event (t := 2) (p := 33) (v := ?vo_w15) (w1 := (wr.setCell ⟨go13, (x25_1 : Int).toNat, none⟩ (.int .i64 1))) ?hg ?ho ?hn ?hr ?_; (case ho => rfl); (case hg => rfl); (case hn => rfl); (case hr => first | (go_simp; done) | (go_simp; rfl)); intro w15 hw; have hg : wr.grownBy w15 (some go13) := (by rw [hw]; exact HP14.2); have hz_ : Kd.R (Kd.int .i64) 2 w15 w.heap.size oki14 (.slice (some ⟨go13, 0, none⟩) (rd_L1 x5_1 x25_1).length c914_0) y915 := (by rw [hw, Ny915.out]; exact HP14.1); have hp_ : Kd.S (Kd.slice 2 (Kd.int .i64)) 24 w15 w.heap.size (fun _ => True) (.slice (some ad914) x5_1.length co8) y917 := (by rw [Ny917.out]; exact hbk14 hg (fun k_ e_ => by injection e_ with e_; subst e_; exact ge14_0.1 _ rfl) (Kd.M_row hz_)); have hm_ := Kd.R_mono hz_ hok14; clear HP14 hbk14; have n0_ := Aside0.mk (hp_); have n1_ := Aside0.mk (blk_grown (g := gb910) (o := .cells #[.int .i64 a0_0, .slice A0_1 l0_1.length c0_1] 37 (0, 0)) (by (with_reducible repeat (first | refine blk_drewN ?_ _ | refine blk_drew ?_ | refine blk_alloc ?_ _)); exact BK910.out) hg (Kd.R_ne HL914_0.out BK910.out (by decide))); have n2_ := Aside0.mk ((by rw [hw]; exact below_set (HB.out) GB13.out : Below w.heap.size w w15)); have n3_ := Aside0.mk (hm_); have n4_ := Aside0.mk ((Kd.R_reads' hm_).2.1); clear HO_5; clear BK910; clear HB; clear HL914_0; have HO_5 := n0_; have BK910 := n1_; have HB := n2_; have HL943 := n3_; have HC916 := n4_; clear n0_ n1_ n2_ n3_ n4_; clear hg hw hp_ hz_ hm_ hok14))
        (try simp only [← hl5_1])
        first | go_roundg k1 | (refine Handed.intro k1 ?measure ?_; rotate_left; go_step; (try simp only [add_plain]); (repeat apply Exists.intro); refine ⟨?rel, rfl⟩)
        case measure => have := HK1.out; omega
        case rel => exact ⟨(y917), (wrap64 (x25_1 + 1)), (by first | rfl | (simp; done) | (simp [*]; done)), H', ⟨by have := HK1.out; omega⟩, ⟨by (try simp only [hl5_1]); (with_reducible repeat (first | apply Kd.S_alloc | apply Kd.S_drewN | apply Kd.S_drew)); exact HO_5.out⟩, ⟨by (try simp only [hl5_1]); (with_reducible repeat (first | refine blk_drewN ?_ _ | refine blk_drew ?_ | refine blk_alloc ?_ _)); exact BK910.out⟩, ⟨by repeat (first | (with_reducible first | exact HB.out | apply below_alloc | apply pw_below_drewN | apply below_drew1 | refine below_set ?_ GE910.out) | exact HB.out)⟩⟩
       ·rw [if_neg c12] at H
        exact absurd H (by simp)
      ·rw [if_neg c11] at H
       exact absurd H (by simp)
     ·rw [if_neg c10] at H
      exact absurd H (by simp)
    ·rw [if_neg c9] at H
     have c9b0 : decide (x25_1 < (t911.length : Int)) = false := decide_eq_false c9
     (try (have c9z0 := c9b0; simp only [hl5_1] at c9z0))
     clear c9
     obtain rfl := Option.some.inj H
     go_wp2
     go_ret
     exact ⟨_, by first | rfl | (simp [errW_none, errW_some] <;> rfl) | (simp [*, errW_none, errW_some] <;> rfl), by (with_reducible repeat (first | apply Kd.S_alloc | apply Kd.S_drewN | apply Kd.S_drew)); exact HO_5.out, by repeat (first | (with_reducible first | exact HB.out | apply below_alloc | apply pw_below_drewN | apply below_drew1 | refine below_set ?_ GE910.out) | exact HB.out)⟩
 ·rw [if_neg c4] at H
  have c4b0 : (a1 == 0) = false := beq_eq_false_iff_ne.mpr c4
  have c4b1 : (a1 != 0) = true := bne_iff_ne.mpr c4
  replace H := Option.bind_eq_some_iff.mp H
  obtain ⟨t918, A160, H⟩ := H
  replace H : ((impl_Graph_size.f a0_0 l0_1).bind fun t921 => ((impl_square.f k (wrap64 (2 * t921))).bind fun t922 => (impl_Graph_walkMatrix.l1 k a1 t911 t918 t922 (t922.length : Int) 0 a0_0 l0_1))) = some r := H
  have A16 := Aside0.mk A160
  clear A160
  replace H := Option.bind_eq_some_iff.mp H
  obtain ⟨t921, A170, H⟩ := H
  replace H : ((impl_square.f k (wrap64 (2 * t921))).bind fun t922 => (impl_Graph_walkMatrix.l1 k a1 t911 t918 t922 (t922.length : Int) 0 a0_0 l0_1)) = some r := H
  have A17 := Aside0.mk A170
  clear A170
  replace H := Option.bind_eq_some_iff.mp H
  obtain ⟨t922, A180, H⟩ := H
  replace H : (impl_Graph_walkMatrix.l1 k a1 t911 t918 t922 (t922.length : Int) 0 a0_0 l0_1) = some r := H
  have A18 := Aside0.mk A180
  clear A180
  have H' := Aside0.mk H
  clear H
  go_enter Try.func92, Try.ntmps92
  go_wp2_with (first | ((with_reducible refine gate_dst (N := 2) rfl ?_); refine box_event ?hg (N := 2) ?hd (cs := #[.int .i64 a0_0, .slice A0_1 l0_1.length c0_1]) (t := 37) ?hr ?_; (case hd => rfl); (case hg => rfl); (case hr => first | (go_simp; done) | (go_simp; rfl)); intro gb910 hg w19 hbox hb; have n0_ := Aside0.mk (below_step (by repeat (first | (with_reducible first | exact HB.out | apply below_alloc | apply pw_below_drewN | apply below_drew1) | exact HB.out)) hb); have n1_ := Aside0.mk (hbox); have n2_ := Aside0.mk ((by rw [hg]; exact (below_size (by repeat (first | (with_reducible first | exact HB.out | apply below_alloc | apply pw_below_drewN | apply below_drew1) | exact HB.out))) : w.heap.size ≤ gb910)); have n3_ := Aside0.mk ((by rw [hg]; exact (below_size (by repeat (first | (with_reducible first | exact HB.out | apply below_alloc | apply pw_below_drewN | apply below_drew1) | exact HB.out))) : w.heap.size ≤ gb910)); clear HB; have HB := n0_; have BK910 := n1_; have GW910 := n2_; have GE910 := n3_; clear n0_ n1_ n2_ n3_; clear hb hbox hg; have hcz20_0 : w19.cell? ⟨gb910, 0, none⟩ = some (.int .i64 a0_0) := (blk_cell BK910.out 0).trans rfl; have hcz20_1 : w19.cell? ⟨gb910, 1, none⟩ = some (.slice A0_1 l0_1.length c0_1) := (blk_cell BK910.out 1).trans rfl; have hfz20_0 := blk_frozen BK910.out 0; have hfz20_1 := blk_frozen BK910.out 1) | ((with_reducible refine gate_callee (f := 100) rfl ?_); refine goesL_ (some 20) rfl rfl Try.func100 (by kernel_rfl) rfl #[.int .i64 a0_0] rfl (by (try simp only [List.map_toArray, List.map_cons, List.map_nil]); first | done | rfl | (simp only [List.length_drop, List.length_take]; rfl)) ?_; (with_reducible refine (impl_square.calls k a0_0 t911 _ A3.out).mono ?_); rintro e w21 ⟨v912, rfl, ho0, hb⟩; refine ⟨_, rfl, ?_⟩; have n0_ := Aside0.mk (Kd.S_lower ho0 (below_size (by repeat (first | (with_reducible first | exact HB.out | apply below_alloc | apply pw_below_drewN | apply below_drew1 | refine below_set ?_ GE910.out) | exact HB.out)))); have n1_ := Aside0.mk (blk_below (g := gb910) (o := .cells #[.int .i64 a0_0, .slice A0_1 l0_1.length c0_1] 37 (0, 0)) (by (with_reducible repeat (first | refine blk_drewN ?_ _ | refine blk_drew ?_ | refine blk_alloc ?_ _)); exact BK910.out) hb); have n2_ := Aside0.mk (below_step (by repeat (first | (with_reducible first | exact HB.out | apply below_alloc | apply pw_below_drewN | apply below_drew1 | refine below_set ?_ GE910.out) | exact HB.out)) hb); clear BK910; clear HB; have HO913 := n0_; have BK910 := n1_; have HB := n2_; clear n0_ n1_ n2_; (try clear hb); (try clear hb2); (try clear hk); (try clear hi); (try clear ho0); have hcz22_0 : w21.cell? ⟨gb910, 0, none⟩ = some (.int .i64 a0_0) := (blk_cell BK910.out 0).trans rfl; have hcz22_1 : w21.cell? ⟨gb910, 1, none⟩ = some (.slice A0_1 l0_1.length c0_1) := (blk_cell BK910.out 1).trans rfl; have hfz22_0 := blk_frozen BK910.out 0; have hfz22_1 := blk_frozen BK910.out 1) | ((with_reducible refine gate_callee (f := 63) rfl ?_); refine goesL_ (some 37) rfl rfl Try.func63 (by kernel_rfl) rfl #[.agg #[.int .i64 a0_0, .slice A0_1 l0_1.length c0_1]] rfl (by (try simp only [List.map_toArray, List.map_cons, List.map_nil]); first | done | rfl | (simp only [List.length_drop, List.length_take]; rfl)) ?_; (with_reducible refine (impl_Graph_edgeMatrix.calls k a0_0 _ _ l0_1 t918 _ ?side1 ?side2 A16.out).mono ?_); (case side1 => repeat (first | exact (Kd.C_below HR0_1.out HB.out) | (with_reducible refine Kd.C_alloc ?_ _) | (with_reducible refine Kd.C_drewN ?_ _) | (with_reducible refine Kd.C_drew ?_))); (case side2 => exact HC0_1.out); rintro e w23 ⟨v919, rfl, ho0, hb⟩; refine ⟨_, rfl, ?_⟩; have n0_ := Aside0.mk (Kd.S_elder' (by (with_reducible repeat (first | apply Kd.S_alloc | apply Kd.S_drewN | apply Kd.S_drew)); exact HO913.out) (Kd.S_base ho0) hb); have n1_ := Aside0.mk (Kd.S_lower (Kd.S_new' ho0 (Kd.S_lt (by (with_reducible repeat (first | apply Kd.S_alloc | apply Kd.S_drewN | apply Kd.S_drew)); exact HO913.out))) (below_size (by repeat (first | (with_reducible first | exact HB.out | apply below_alloc | apply pw_below_drewN | apply below_drew1 | refine below_set ?_ GE910.out) | exact HB.out)))); have n2_ := Aside0.mk (blk_below (g := gb910) (o := .cells #[.int .i64 a0_0, .slice A0_1 l0_1.length c0_1] 37 (0, 0)) (by (with_reducible repeat (first | refine blk_drewN ?_ _ | refine blk_drew ?_ | refine blk_alloc ?_ _)); exact BK910.out) hb); have n3_ := Aside0.mk (below_step (by repeat (first | (with_reducible first | exact HB.out | apply below_alloc | apply pw_below_drewN | apply below_drew1 | refine below_set ?_ GE910.out) | exact HB.out)) hb); clear HO913; clear BK910; clear HB; have HO913 := n0_; have HO920 := n1_; have BK910 := n2_; have HB := n3_; clear n0_ n1_ n2_ n3_; (try clear hb); (try clear hb2); (try clear hk); (try clear hi); (try clear ho0); have hcz24_0 : w23.cell? ⟨gb910, 0, none⟩ = some (.int .i64 a0_0) := (blk_cell BK910.out 0).trans rfl; have hcz24_1 : w23.cell? ⟨gb910, 1, none⟩ = some (.slice A0_1 l0_1.length c0_1) := (blk_cell BK910.out 1).trans rfl; have hfz24_0 := blk_frozen BK910.out 0; have hfz24_1 := blk_frozen BK910.out 1) | ((with_reducible refine gate_callee (f := 104) rfl ?_); refine goesL_ (some 39) rfl rfl Try.func104 (by kernel_rfl) rfl #[.agg #[.int .i64 a0_0, .slice A0_1 l0_1.length c0_1]] rfl (by (try simp only [List.map_toArray, List.map_cons, List.map_nil]); first | done | rfl | (simp only [List.length_drop, List.length_take]; rfl)) ?_; (with_reducible refine (impl_Graph_size.calls a0_0 _ _ l0_1 t921 _ ?side1 ?side2 A17.out).mono ?_); (case side1 => repeat (first | exact (Kd.C_below HR0_1.out HB.out) | (with_reducible refine Kd.C_alloc ?_ _) | (with_reducible refine Kd.C_drewN ?_ _) | (with_reducible refine Kd.C_drew ?_))); (case side2 => exact HC0_1.out); rintro e w25 ⟨rfl, hb⟩; refine ⟨_, rfl, ?_⟩; have n0_ := Aside0.mk (Kd.S_below (by (with_reducible repeat (first | apply Kd.S_alloc | apply Kd.S_drewN | apply Kd.S_drew)); exact HO913.out) hb); have n1_ := Aside0.mk (Kd.S_below (by (with_reducible repeat (first | apply Kd.S_alloc | apply Kd.S_drewN | apply Kd.S_drew)); exact HO920.out) hb); have n2_ := Aside0.mk (blk_below (g := gb910) (o := .cells #[.int .i64 a0_0, .slice A0_1 l0_1.length c0_1] 37 (0, 0)) (by (with_reducible repeat (first | refine blk_drewN ?_ _ | refine blk_drew ?_ | refine blk_alloc ?_ _)); exact BK910.out) hb); have n3_ := Aside0.mk (below_step (by repeat (first | (with_reducible first | exact HB.out | apply below_alloc | apply pw_below_drewN | apply below_drew1 | refine below_set ?_ GE910.out) | exact HB.out)) hb); clear HO913; clear HO920; clear BK910; clear HB; have HO913 := n0_; have HO920 := n1_; have BK910 := n2_; have HB := n3_; clear n0_ n1_ n2_ n3_; (try clear hb); (try clear hb2); (try clear hk); (try clear hi)) | ((with_reducible refine gate_callee (f := 100) rfl ?_); refine goesL_ (some 41) rfl rfl Try.func100 (by kernel_rfl) rfl #[.int .i64 (wrap64 (2 * t921))] rfl (by (try simp only [List.map_toArray, List.map_cons, List.map_nil]); first | done | rfl | (simp only [List.length_drop, List.length_take]; rfl)) ?_; (with_reducible refine (impl_square.calls k (wrap64 (2 * t921)) t922 _ A18.out).mono ?_); rintro e w26 ⟨v923, rfl, ho0, hb⟩; refine ⟨_, rfl, ?_⟩; obtain ⟨bm9, hbm9⟩ : ∃ b_ : Nat, w25.heap.size = b_ := ⟨_, rfl⟩; have HBM := Aside0.mk hbm9; have HSZ := Aside0.mk (show bm9 ≤ w26.heap.size from by have h_ := hb.size; omega); clear hbm9; have n0_ := Aside0.mk (Kd.S_elder' (ok := fun k_ => k_ < bm9) (by (with_reducible repeat (first | apply Kd.S_alloc | apply Kd.S_drewN | apply Kd.S_drew)); exact Kd.S_mono (Kd.S_bound HO913.out) (fun k_ hk_ => by have h_ := hk_.2.2.1; have e_ := HBM.out; omega)) (Kd.S_base ho0) hb); have n1_ := Aside0.mk (Kd.S_elder' (ok := fun k_ => k_ < bm9) (by (with_reducible repeat (first | apply Kd.S_alloc | apply Kd.S_drewN | apply Kd.S_drew)); exact Kd.S_mono (Kd.S_bound HO920.out) (fun k_ hk_ => by have h_ := hk_.2.2.1; have e_ := HBM.out; omega)) (Kd.S_base ho0) hb); have n2_ := Aside0.mk (Kd.S_lower (Kd.S_new' (Kd.S_new' (Kd.S_mono (ok' := fun k_ => bm9 ≤ k_) (Kd.S_bound ho0) (fun k_ hk_ => by have h_ := hk_.2.1; have e_ := HBM.out; omega)) (Kd.S_lt (by (with_reducible repeat (first | apply Kd.S_alloc | apply Kd.S_drewN | apply Kd.S_drew)); exact HO913.out))) (Kd.S_lt (by (with_reducible repeat (first | apply Kd.S_alloc | apply Kd.S_drewN | apply Kd.S_drew)); exact HO920.out))) (below_size (by repeat (first | (with_reducible first | exact HB.out | apply below_alloc | apply pw_below_drewN | apply below_drew1 | refine below_set ?_ GE910.out) | exact HB.out)))); have n3_ := Aside0.mk (blk_below (g := gb910) (o := .cells #[.int .i64 a0_0, .slice A0_1 l0_1.length c0_1] 37 (0, 0)) (by (with_reducible repeat (first | refine blk_drewN ?_ _ | refine blk_drew ?_ | refine blk_alloc ?_ _)); exact BK910.out) hb); have n4_ := Aside0.mk (below_step (by repeat (first | (with_reducible first | exact HB.out | apply below_alloc | apply pw_below_drewN | apply below_drew1 | refine below_set ?_ GE910.out) | exact HB.out)) hb); clear HO913; clear HO920; clear BK910; clear HB; have HO913 := n0_; have HO920 := n1_; have HO924 := n2_; have BK910 := n3_; have HB := n4_; clear n0_ n1_ n2_ n3_ n4_; (try clear hb); (try clear hb2); (try clear hk); (try clear hi); (try clear ho0); obtain ⟨Ao27, co27, eo27⟩ := Kd.S_slice HO924.out; subst eo27))
  go_loopg [44] k (fun kq v44 w' => ∃ (x8_1 : List (List Int)) (x44_1 : Int), v44 = .int .i64 x44_1 ∧ Aside0 (impl_Graph_walkMatrix.l1 kq a1 t911 t918 x8_1 (t922.length : Int) x44_1 a0_0 l0_1 = some r) ∧ Aside0 (kq ≤ k) ∧ Aside0 (Kd.S (Kd.slice 2 (Kd.int .i64)) 24 w' w.heap.size (fun k_ => k_ < bm9) v912 t911) ∧ Aside0 (Kd.S (Kd.slice 2 (Kd.int .i64)) 24 w' w.heap.size (fun k_ => k_ < bm9) v919 t918) ∧ Aside0 (Kd.S (Kd.slice 2 (Kd.int .i64)) 24 w' w.heap.size (fun k_ => bm9 ≤ k_) (.slice Ao27 t922.length co27) x8_1) ∧ Aside0 (w'.heap[gb910]? = some (.cells #[.int .i64 a0_0, (.slice A0_1 l0_1.length c0_1)] 37 (0, 0))) ∧ Aside0 (Below w.heap.size w w') ∧ Aside0 (bm9 ≤ w'.heap.size))
  case atStart => exact ⟨(t922), (0), (by first | rfl | (simp; done) | (simp [*]; done)), H', ⟨Nat.le_refl _⟩, ⟨by (with_reducible repeat (first | apply Kd.S_alloc | apply Kd.S_drewN | apply Kd.S_drew)); exact Kd.S_mono HO913.out (fun _ hk => hk.1)⟩, ⟨by (with_reducible repeat (first | apply Kd.S_alloc | apply Kd.S_drewN | apply Kd.S_drew)); exact Kd.S_mono HO920.out (fun _ hk => hk.1)⟩, ⟨by (with_reducible repeat (first | apply Kd.S_alloc | apply Kd.S_drewN | apply Kd.S_drew)); exact Kd.S_mono HO924.out (fun _ hk => hk.1.1)⟩, ⟨by (with_reducible repeat (first | refine blk_drewN ?_ _ | refine blk_drew ?_ | refine blk_alloc ?_ _)); exact BK910.out⟩, ⟨by repeat (first | (with_reducible first | exact HB.out | apply below_alloc | apply pw_below_drewN | apply below_drew1 | refine below_set ?_ GE910.out) | exact HB.out)⟩, HSZ⟩
  case round =>
   clear H'
   try clear c1
   try clear p1
   try clear q1
   try clear hx1
   try clear p2
   try clear c4
   try clear c4b0
   try clear c4b1
   try clear c6
   try clear p6
   try clear c9
   try clear c9b0
   try clear p9
   try clear q9
   try clear hx9
   try clear c10
   try clear c10b0
   try clear c11
   try clear c11b0
   try clear c12
   try clear c12b0
   try clear p13
   try clear q13
   try clear hx13
   try clear hf13
   try clear c14
   try clear q14
   try clear hcz20_0
   try clear hcz20_1
   try clear hcz22_0
   try clear hcz22_1
   try clear hcz24_0
   try clear hcz24_1
   try clear hcz6_0
   try clear hcz6_1
   try clear hfz20_0
   try clear hfz20_1
   try clear hfz22_0
   try clear hfz22_1
   try clear hfz24_0
   try clear hfz24_1
   try clear hfz6_0
   try clear hfz6_1
   try clear hx13_0
   try clear hx914_0
   try clear p13
   try clear p2
   try clear p6
   try clear p914
   try clear q13
   try clear q914
   obtain ⟨x8_1, x44_1, rfl, HA, HK1, HO_5, HO_7, HO_8, BK910, HB, HSZ⟩ := hrel
   have hl8_1 := (Kd.S_reads' HO_8.out).1
   rw [hl8_1] at HO_8
   (try simp only [hl8_1])
   (try simp only [hl8_1] at BK910)
   (try simp only [hl8_1] at HO_5)
   (try simp only [hl8_1] at HO_7)
   cases gk with
   | zero => exact absurd HA.out (by simp [impl_Graph_walkMatrix.l1])
   | succ k1 =>
    have H := HA.out
    clear HA
    simp only [impl_Graph_walkMatrix.l1] at H
    by_cases c28 : x44_1 < (t922.length : Int)
    ·rw [if_pos c28] at H
     have c28b0 : decide (x44_1 < (t922.length : Int)) = true := decide_eq_true c28
     (try (have c28z0 := c28b0; simp only [hl8_1] at c28z0))
     clear c28
     by_cases c29 : 0 ≤ x44_1
     ·rw [if_pos c29] at H
      have c29b0 : decide (0 ≤ x44_1) = true := decide_eq_true c29
      clear c29
      by_cases c30 : x44_1 < (x8_1.length : Int)
      ·rw [if_pos c30] at H
       have c30b0 : decide (x44_1 < (x8_1.length : Int)) = true := decide_eq_true c30
       (try (have c30z0 := c30b0; simp only [hl8_1] at c30z0))
       clear c30
       by_cases c31 : x44_1 < ((rd_L1 x8_1 x44_1).length : Int)
       ·rw [if_pos c31] at H
        have c31b0 : decide (x44_1 < ((rd_L1 x8_1 x44_1).length : Int)) = true := decide_eq_true c31
        (try (have c31z0 := c31b0; simp only [hl8_1] at c31z0))
        clear c31
        obtain ⟨y926, hy926⟩ : ∃ y_ : List Int, y_ = ((rd_L1 x8_1 x44_1).set (x44_1 : Int).toNat 1) := ⟨_, rfl⟩
        replace H : (impl_Graph_walkMatrix.l1 k1 a1 t911 t918 (x8_1.set (x44_1 : Int).toNat y926) (t922.length : Int) (wrap64 (x44_1 + 1)) a0_0 l0_1) = some r := by first | (rw [hy926]; with_reducible exact H) | (have H2_ := (Option.bind_some _ _).symm.trans H; rw [hy926]; with_reducible exact H2_) | (have H2_ := (Option.bind_some _ _).symm.trans H; with_reducible exact H2_) | with_reducible exact H | (rw [hy926]; exact H) | exact H
        have Ny926 := Aside0.mk hy926
        clear hy926
        obtain ⟨y928, hy928⟩ : ∃ y_ : List (List Int), y_ = (x8_1.set (x44_1 : Int).toNat y926) := ⟨_, rfl⟩
        replace H : (impl_Graph_walkMatrix.l1 k1 a1 t911 t918 y928 (t922.length : Int) (wrap64 (x44_1 + 1)) a0_0 l0_1) = some r := by first | (rw [hy928]; with_reducible exact H) | (have H2_ := (Option.bind_some _ _).symm.trans H; rw [hy928]; with_reducible exact H2_) | (have H2_ := (Option.bind_some _ _).symm.trans H; with_reducible exact H2_) | with_reducible exact H | (rw [hy928]; exact H) | exact H
        have Ny928 := Aside0.mk hy928
        clear hy928
        have H' := Aside0.mk H
        clear H
        have p925 : 0 ≤ (x44_1 : Int) := of_decide_eq_true (by assumption)
        have q925 : x44_1 < (x8_1.length : Int) := of_decide_eq_true (by assumption)
        obtain ⟨ad925, A925_0, c925_0, e925, hx925_0, hl925_0, hi925_0⟩ := at_L1 (Kd.S_reads' HO_8.out).2.2 x44_1 p925 q925
        cases e925
        obtain ⟨ce925, hce925, hMe925, hcc925⟩ := Kd.S_get HO_8.out [] x44_1 p925 (by first | exact q925 | exact of_decide_eq_true (by assumption) | (have e_ := (Kd.S_reads' HO_8.out).1; omega))
        obtain ⟨ve925_0, rfl, ge925_0⟩ := hMe925
        have hv925_0 := hcc925 0 _ rfl
        rw [Nat.add_zero, show ((Kd.slice 2 (Kd.int .i64))).sz = 1 from rfl, Nat.mul_one] at hv925_0
        replace hv925_0 := Option.some.inj (hv925_0.symm.trans hx925_0)
        rw [hv925_0] at ge925_0
        have HL925_0 := Aside0.mk (show Kd.R (Kd.int .i64) 2 _ _ _ _ (rd_L1 x8_1 x44_1) from ge925_0)
        clear hv925_0 ge925_0
        have HX925_0 := Aside0.mk hx925_0
        clear hcc925 hce925
        have HR925_0 := Aside0.mk hi925_0
        have HC925_0 := Aside0.mk hl925_0
        clear hi925_0 hl925_0
        replace p925 := eq_true p925
        replace q925 := eq_true q925
        have p32 : 0 ≤ (x44_1 : Int) := of_decide_eq_true (by assumption)
        have q32 : (x44_1 : Int) < (((rd_L1 x8_1 x44_1).length : Int) : Int) := of_decide_eq_true (by assumption)
        obtain ⟨go32, co32, eo32, gb32, gl32, cl32, HG32⟩ := Kd.R_form HL925_0.out (by omega)
        (first | cases eo32 | (injection eo32 with ea_ en_ ec_; (first | subst ea_ | (injection ea_ with ea_; subst ea_)); subst ec_; clear en_))
        have GB32 := Aside0.mk gb32
        have GG32 := Aside0.mk HG32
        clear gb32 gl32 HG32
        obtain ⟨hx32_0, hf32_0⟩ := Kd.R_celln 0 HL925_0.out (x44_1 : Int) p32 q32
        replace p32 := eq_true p32
        replace q32 := eq_true q32
        have hq33 : (x44_1 : Int) < (x8_1.length : Int) := (by have h_ : (x44_1 : Int) < ((x8_1.length : Int) : Int) := of_decide_eq_true (by assumption); first | exact h_ | (have e_ := (Kd.S_reads' HO_8.out).1; omega) | simpa only [List.length_set, List.length_set] using h_)
        obtain ⟨oki33, ce33, hcl33, hM33, hcc33, hok33, hbk33⟩ := Kd.S_borrow HO_8.out [] (x44_1 : Int) (of_decide_eq_true (by assumption)) (by first | exact hq33 | (have e_ := (Kd.S_reads' HO_8.out).1; have h_ := hq33; omega))
        obtain ⟨ve33_0, rfl, ge33_0⟩ := hM33
        have hv33 := hcc33 0 _ rfl
        rw [Nat.add_zero, show ((Kd.slice 2 (Kd.int .i64))).sz = 1 from rfl, Nat.mul_one] at hv33
        replace hv33 := Option.some.inj (hv33.symm.trans HX925_0.out)
        subst hv33
        clear hcc33 hcl33
        replace ge33_0 := (show Kd.R (Kd.int .i64) 2 _ _ _ _ (rd_L1 x8_1 x44_1) from ge33_0)
        have HP33 := Kd.R_putg ge33_0 (x44_1 : Int) 1
        go_wp2_with (first | ((with_reducible refine gate_store (t := 2) (p := 52) rfl ?_); refine store_event (t := 2) (p := 52) (v := ?vo_w34) (w1 := (wr.setCell ⟨go32, (x44_1 : Int).toNat, none⟩ (.int .i64 1))) ?hg ?ho ?hn ?hr ?_; (case ho => rfl); (case hg => rfl); (case hn => rfl); (case hr => first | (go_simp; done) | (go_simp; rfl)); intro w34 hw; have hg : wr.grownBy w34 (some go32) := (by rw [hw]; exact HP33.2); have hz_ : Kd.R (Kd.int .i64) 2 w34 w.heap.size oki33 (.slice (some ⟨go32, 0, none⟩) (rd_L1 x8_1 x44_1).length c925_0) y926 := (by rw [hw, Ny926.out]; exact HP33.1); have hp_ : Kd.S (Kd.slice 2 (Kd.int .i64)) 24 w34 w.heap.size (fun k_ => bm9 ≤ k_) (.slice (some ad925) x8_1.length co27) y928 := (by rw [Ny928.out]; exact hbk33 hg (fun k_ e_ => by injection e_ with e_; subst e_; exact ge33_0.1 _ rfl) (Kd.M_row hz_)); have hm_ := Kd.R_mono hz_ hok33; clear HP33 hbk33; have n0_ := Aside0.mk (Kd.S_grown (by (with_reducible repeat (first | apply Kd.S_alloc | apply Kd.S_drewN | apply Kd.S_drew)); exact HO_5.out) hg (fun k_ hk e_ => by injection e_ with e_; subst e_; have h1_ := (hok33 _ (ge33_0.1 _ rfl)).1; have h2_ := hk; have h3_ := HBM.out; (try dsimp only at h1_ h2_); omega)); have n1_ := Aside0.mk (Kd.S_grown (by (with_reducible repeat (first | apply Kd.S_alloc | apply Kd.S_drewN | apply Kd.S_drew)); exact HO_7.out) hg (fun k_ hk e_ => by injection e_ with e_; subst e_; have h1_ := (hok33 _ (ge33_0.1 _ rfl)).1; have h2_ := hk; have h3_ := HBM.out; (try dsimp only at h1_ h2_); omega)); have n2_ := Aside0.mk (hp_); have n3_ := Aside0.mk (blk_grown (g := gb910) (o := .cells #[.int .i64 a0_0, .slice A0_1 l0_1.length c0_1] 37 (0, 0)) (by (with_reducible repeat (first | refine blk_drewN ?_ _ | refine blk_drew ?_ | refine blk_alloc ?_ _)); exact BK910.out) hg (Kd.R_ne HL925_0.out BK910.out (by decide))); have n4_ := Aside0.mk ((by rw [hw]; exact below_set (HB.out) GB32.out : Below w.heap.size w w34)); have n5_ := Aside0.mk (hm_); have n6_ := Aside0.mk ((Kd.R_reads' hm_).2.1); clear HO_5; clear HO_7; clear HO_8; clear BK910; clear HB; clear HL925_0; have HO_5 := n0_; have HO_7 := n1_; have HO_8 := n2_; have BK910 := n3_; have HB := n4_; have HL944 := n5_; have HC927 := n6_; clear n0_ n1_ n2_ n3_ n4_ n5_ n6_; have HSZ2 := Aside0.mk (Nat.le_trans HSZ.out hg.size); clear HSZ; have HSZ := HSZ2; clear HSZ2; clear hg hw hp_ hz_ hm_ hok33))
        (try simp only [← hl8_1])
        first | go_roundg k1 | (refine Handed.intro k1 ?measure ?_; rotate_left; go_step; (try simp only [add_plain]); (repeat apply Exists.intro); refine ⟨?rel, rfl⟩)
        case measure => have := HK1.out; omega
        case rel => exact ⟨(y928), (wrap64 (x44_1 + 1)), (by first | rfl | (simp; done) | (simp [*]; done)), H', ⟨by have := HK1.out; omega⟩, ⟨by (try simp only [hl8_1]); (with_reducible repeat (first | apply Kd.S_alloc | apply Kd.S_drewN | apply Kd.S_drew)); exact HO_5.out⟩, ⟨by (try simp only [hl8_1]); (with_reducible repeat (first | apply Kd.S_alloc | apply Kd.S_drewN | apply Kd.S_drew)); exact HO_7.out⟩, ⟨by (try simp only [hl8_1]); (with_reducible repeat (first | apply Kd.S_alloc | apply Kd.S_drewN | apply Kd.S_drew)); exact HO_8.out⟩, ⟨by (try simp only [hl8_1]); (with_reducible repeat (first | refine blk_drewN ?_ _ | refine blk_drew ?_ | refine blk_alloc ?_ _)); exact BK910.out⟩, ⟨by repeat (first | (with_reducible first | exact HB.out | apply below_alloc | apply pw_below_drewN | apply below_drew1 | refine below_set ?_ GE910.out) | exact HB.out)⟩, HSZ⟩
       ·rw [if_neg c31] at H
        exact absurd H (by simp)
      ·rw [if_neg c30] at H
       exact absurd H (by simp)
     ·rw [if_neg c29] at H
      exact absurd H (by simp)
    ·rw [if_neg c28] at H
     have c28b0 : decide (x44_1 < (t922.length : Int)) = false := decide_eq_false c28
     (try (have c28z0 := c28b0; simp only [hl8_1] at c28z0))
     clear c28
     have H' := Aside0.mk H
     clear H
     go_wp2
     go_loopg [8, 56] k1 (fun kq v8 v56 w' => ∃ (x8_2 : List (List Int)) (x56_2 : Int), v56 = .int .i64 x56_2 ∧ Aside0 (impl_Graph_walkMatrix.l2 kq t911 t918 x8_2 (wrap64 (a1 - 1)) x56_2 a0_0 l0_1 = some r) ∧ Aside0 (kq ≤ k1) ∧ Aside0 (Kd.S (Kd.slice 2 (Kd.int .i64)) 24 w' w.heap.size (fun k_ => k_ < bm9) v912 t911) ∧ Aside0 (Kd.S (Kd.slice 2 (Kd.int .i64)) 24 w' w.heap.size (fun k_ => k_ < bm9) v919 t918) ∧ Aside0 (Kd.S (Kd.slice 2 (Kd.int .i64)) 24 w' w.heap.size (fun k_ => bm9 ≤ k_) v8 x8_2) ∧ Aside0 (w'.heap[gb910]? = some (.cells #[.int .i64 a0_0, (.slice A0_1 l0_1.length c0_1)] 37 (0, 0))) ∧ Aside0 (Below w.heap.size w w') ∧ Aside0 (bm9 ≤ w'.heap.size))
     case atStart => exact ⟨(x8_1), (0), (by first | rfl | (simp; done) | (simp [*]; done)), H', ⟨Nat.le_refl _⟩, ⟨by (try simp only [hl8_1]); (with_reducible repeat (first | apply Kd.S_alloc | apply Kd.S_drewN | apply Kd.S_drew)); exact HO_5.out⟩, ⟨by (try simp only [hl8_1]); (with_reducible repeat (first | apply Kd.S_alloc | apply Kd.S_drewN | apply Kd.S_drew)); exact HO_7.out⟩, ⟨by (try simp only [hl8_1]); (with_reducible repeat (first | apply Kd.S_alloc | apply Kd.S_drewN | apply Kd.S_drew)); exact HO_8.out⟩, ⟨by (try simp only [hl8_1]); (with_reducible repeat (first | refine blk_drewN ?_ _ | refine blk_drew ?_ | refine blk_alloc ?_ _)); exact BK910.out⟩, ⟨by repeat (first | (with_reducible first | exact HB.out | apply below_alloc | apply pw_below_drewN | apply below_drew1 | refine below_set ?_ GE910.out) | exact HB.out)⟩, HSZ⟩
     case round =>
      clear H'
      try clear c1
      try clear p1
      try clear q1
      try clear hx1
      try clear c2
      try clear p2
      try clear c3
      try clear p3
      try clear q3
      try clear hx3
      try clear hf3
      try clear c4
      try clear c4b0
      try clear c4b1
      try clear c6
      try clear p6
      try clear c9
      try clear c9b0
      try clear p9
      try clear q9
      try clear hx9
      try clear c10
      try clear c10b0
      try clear c11
      try clear c11b0
      try clear c12
      try clear c12b0
      try clear p13
      try clear q13
      try clear hx13
      try clear hf13
      try clear c14
      try clear q14
      try clear c28
      try clear c28b0
      try clear c29
      try clear c29b0
      try clear c30
      try clear c30b0
      try clear c31
      try clear c31b0
      try clear p32
      try clear q32
      try clear hx32
      try clear hf32
      try clear c33
      try clear q33
      try clear hcz20_0
      try clear hcz20_1
      try clear hcz22_0
      try clear hcz22_1
      try clear hcz24_0
      try clear hcz24_1
      try clear hcz6_0
      try clear hcz6_1
      try clear hfz20_0
      try clear hfz20_1
      try clear hfz22_0
      try clear hfz22_1
      try clear hfz24_0
      try clear hfz24_1
      try clear hfz6_0
      try clear hfz6_1
      try clear hx13_0
      try clear hx32_0
      try clear hx914_0
      try clear hx925_0
      try clear p1
      try clear p13
      try clear p2
      try clear p32
      try clear p6
      try clear p9
      try clear p914
      try clear p925
      try clear q1
      try clear q13
      try clear q14
      try clear q32
      try clear q9
      try clear q914
      try clear q925
      obtain ⟨x8_2, x56_2, rfl, HA, HK2, HO_5, HO_7, HO_8, BK910, HB, HSZ⟩ := hrel
      cases gk with
      | zero => exact absurd HA.out (by simp [impl_Graph_walkMatrix.l2])
      | succ k2 =>
       have H := HA.out
       clear HA
       simp only [impl_Graph_walkMatrix.l2] at H
       by_cases c35 : x56_2 < (wrap64 (a1 - 1))
       ·rw [if_pos c35] at H
        have c35b0 : decide (x56_2 < (wrap64 (a1 - 1))) = true := decide_eq_true c35
        clear c35
        replace H := Option.bind_eq_some_iff.mp H
        obtain ⟨t929, A360, H⟩ := H
        replace H : (impl_Graph_walkMatrix.l2 k2 t911 t918 t929 (wrap64 (a1 - 1)) (wrap64 (x56_2 + 1)) a0_0 l0_1) = some r := H
        have A36 := Aside0.mk A360
        clear A360
        have H' := Aside0.mk H
        clear H
        obtain ⟨Ao37, co37, eo37⟩ := Kd.S_slice HO_8.out
        subst eo37
        obtain ⟨Ao38, co38, eo38⟩ := Kd.S_slice HO_7.out
        subst eo38
        go_wp2_with (first | ((with_reducible refine gate_callee (f := 101) rfl ?_); refine goesL_ (some 60) rfl rfl Try.func101 (by kernel_rfl) rfl #[.slice Ao37 x8_2.length co37, .slice Ao38 t918.length co38] rfl (by (try simp only [List.map_toArray, List.map_cons, List.map_nil]); first | done | rfl | (simp only [List.length_drop, List.length_take]; rfl)) ?_; (with_reducible refine (impl_rowsTimes.calls k2 _ _ x8_2 _ _ t918 t929 _ ?side1 ?side2 ?side3 ?side4 A36.out).mono ?_); (case side1 => repeat (first | exact (Kd.S_reads' HO_8.out).2.2 | (with_reducible refine Kd.C_alloc ?_ _) | (with_reducible refine Kd.C_drewN ?_ _) | (with_reducible refine Kd.C_drew ?_))); (case side2 => exact (Kd.S_reads' HO_8.out).2.1); (case side3 => repeat (first | exact (Kd.S_reads' HO_7.out).2.2 | (with_reducible refine Kd.C_alloc ?_ _) | (with_reducible refine Kd.C_drewN ?_ _) | (with_reducible refine Kd.C_drew ?_))); (case side4 => exact (Kd.S_reads' HO_7.out).2.1); rintro e w39 ⟨v930, rfl, ho0, hb⟩; refine ⟨_, rfl, ?_⟩; have HSZo := HSZ; clear HSZ; have HSZ := Aside0.mk (Nat.le_trans HSZo.out hb.size); have n0_ := Aside0.mk (Kd.S_elder' (by (with_reducible repeat (first | apply Kd.S_alloc | apply Kd.S_drewN | apply Kd.S_drew)); exact HO_5.out) (Kd.S_base ho0) hb); have n1_ := Aside0.mk (Kd.S_elder' (by (with_reducible repeat (first | apply Kd.S_alloc | apply Kd.S_drewN | apply Kd.S_drew)); exact HO_7.out) (Kd.S_base ho0) hb); have n2_ := Aside0.mk (Kd.S_elder' (by (with_reducible repeat (first | apply Kd.S_alloc | apply Kd.S_drewN | apply Kd.S_drew)); exact HO_8.out) (Kd.S_base ho0) hb); have n3_ := Aside0.mk (Kd.S_lower (Kd.S_new' (Kd.S_new' (Kd.S_new' (Kd.S_mono (ok' := fun k_ => bm9 ≤ k_) (Kd.S_bound ho0) (fun k_ hk_ => by have h_ := hk_.2.1; have e_ := HSZo.out; omega)) (Kd.S_lt (by (with_reducible repeat (first | apply Kd.S_alloc | apply Kd.S_drewN | apply Kd.S_drew)); exact HO_5.out))) (Kd.S_lt (by (with_reducible repeat (first | apply Kd.S_alloc | apply Kd.S_drewN | apply Kd.S_drew)); exact HO_7.out))) (Kd.S_lt (by (with_reducible repeat (first | apply Kd.S_alloc | apply Kd.S_drewN | apply Kd.S_drew)); exact HO_8.out))) (below_size (by repeat (first | (with_reducible first | exact HB.out | apply below_alloc | apply pw_below_drewN | apply below_drew1 | refine below_set ?_ GE910.out) | exact HB.out)))); have n4_ := Aside0.mk (blk_below (g := gb910) (o := .cells #[.int .i64 a0_0, .slice A0_1 l0_1.length c0_1] 37 (0, 0)) (by (with_reducible repeat (first | refine blk_drewN ?_ _ | refine blk_drew ?_ | refine blk_alloc ?_ _)); exact BK910.out) hb); have n5_ := Aside0.mk (below_step (by repeat (first | (with_reducible first | exact HB.out | apply below_alloc | apply pw_below_drewN | apply below_drew1 | refine below_set ?_ GE910.out) | exact HB.out)) hb); clear HO_5; clear HO_7; clear HO_8; clear BK910; clear HB; have HO_5 := n0_; have HO_7 := n1_; have HO_8 := n2_; have HO931 := n3_; have BK910 := n4_; have HB := n5_; clear n0_ n1_ n2_ n3_ n4_ n5_; (try clear hb); (try clear hb2); (try clear hk); (try clear hi); (try clear ho0)))
        first | go_roundg k2 | (refine Handed.intro k2 ?measure ?_; rotate_left; go_step; (try simp only [add_plain]); (repeat apply Exists.intro); refine ⟨?rel, rfl⟩)
        case measure => have := HK1.out; have := HK2.out; omega
        case rel => exact ⟨(t929), (wrap64 (x56_2 + 1)), (by first | rfl | (simp; done) | (simp [*]; done)), H', ⟨by have := HK1.out; have := HK2.out; omega⟩, ⟨by (try simp only [hl8_1]); (with_reducible repeat (first | apply Kd.S_alloc | apply Kd.S_drewN | apply Kd.S_drew)); exact Kd.S_mono HO_5.out (fun _ hk => hk.1)⟩, ⟨by (try simp only [hl8_1]); (with_reducible repeat (first | apply Kd.S_alloc | apply Kd.S_drewN | apply Kd.S_drew)); exact Kd.S_mono HO_7.out (fun _ hk => hk.1)⟩, ⟨by (try simp only [hl8_1]); (with_reducible repeat (first | apply Kd.S_alloc | apply Kd.S_drewN | apply Kd.S_drew)); exact Kd.S_mono HO931.out (fun _ hk => hk.1.1.1)⟩, ⟨by (try simp only [hl8_1]); (with_reducible repeat (first | refine blk_drewN ?_ _ | refine blk_drew ?_ | refine blk_alloc ?_ _)); exact BK910.out⟩, ⟨by repeat (first | (with_reducible first | exact HB.out | apply below_alloc | apply pw_below_drewN | apply below_drew1 | refine below_set ?_ GE910.out) | exact HB.out)⟩, HSZ⟩
       ·rw [if_neg c35] at H
        have c35b0 : decide (x56_2 < (wrap64 (a1 - 1))) = false := decide_eq_false c35
        clear c35
        have H' := Aside0.mk H
        clear H
        obtain ⟨Ao40, co40, eo40⟩ := Kd.S_slice HO_8.out
        subst eo40
        go_wp2
        go_loopg [64] k2 (fun kq v64 w' => ∃ (x5_3 : List (List Int)) (x64_3 : Int), v64 = .int .i64 x64_3 ∧ Aside0 (impl_Graph_walkMatrix.l3 kq x5_3 x8_2 (x8_2.length : Int) x64_3 a0_0 l0_1 = some r) ∧ Aside0 (kq ≤ k2) ∧ Aside0 (Kd.S (Kd.slice 2 (Kd.int .i64)) 24 w' w.heap.size (fun k_ => k_ < bm9) v912 x5_3) ∧ Aside0 (Kd.S (Kd.slice 2 (Kd.int .i64)) 24 w' w.heap.size (fun k_ => bm9 ≤ k_) (.slice Ao40 x8_2.length co40) x8_2) ∧ Aside0 (w'.heap[gb910]? = some (.cells #[.int .i64 a0_0, (.slice A0_1 l0_1.length c0_1)] 37 (0, 0))) ∧ Aside0 (Below w.heap.size w w'))
        case atStart => exact ⟨(t911), (0), (by first | rfl | (simp; done) | (simp [*]; done)), H', ⟨Nat.le_refl _⟩, ⟨by (try simp only [hl8_1]); (with_reducible repeat (first | apply Kd.S_alloc | apply Kd.S_drewN | apply Kd.S_drew)); exact HO_5.out⟩, ⟨by (try simp only [hl8_1]); (with_reducible repeat (first | apply Kd.S_alloc | apply Kd.S_drewN | apply Kd.S_drew)); exact HO_8.out⟩, ⟨by (try simp only [hl8_1]); (with_reducible repeat (first | refine blk_drewN ?_ _ | refine blk_drew ?_ | refine blk_alloc ?_ _)); exact BK910.out⟩, ⟨by repeat (first | (with_reducible first | exact HB.out | apply below_alloc | apply pw_below_drewN | apply below_drew1 | refine below_set ?_ GE910.out) | exact HB.out)⟩⟩
        case round =>
         clear H'
         try clear c1
         try clear p1
         try clear q1
         try clear hx1
         try clear c2
         try clear p2
         try clear c3
         try clear p3
         try clear q3
         try clear hx3
         try clear hf3
         try clear c4
         try clear c4b0
         try clear c4b1
         try clear c6
         try clear p6
         try clear c9
         try clear c9b0
         try clear p9
         try clear q9
         try clear hx9
         try clear c10
         try clear c10b0
         try clear c11
         try clear c11b0
         try clear c12
         try clear c12b0
         try clear p13
         try clear q13
         try clear hx13
         try clear hf13
         try clear c14
         try clear q14
         try clear c28
         try clear c28b0
         try clear c29
         try clear c29b0
         try clear c30
         try clear c30b0
         try clear c31
         try clear c31b0
         try clear p32
         try clear q32
         try clear hx32
         try clear hf32
         try clear c33
         try clear q33
         try clear c35
         try clear c35b0
         try clear hcz20_0
         try clear hcz20_1
         try clear hcz22_0
         try clear hcz22_1
         try clear hcz24_0
         try clear hcz24_1
         try clear hcz6_0
         try clear hcz6_1
         try clear hfz20_0
         try clear hfz20_1
         try clear hfz22_0
         try clear hfz22_1
         try clear hfz24_0
         try clear hfz24_1
         try clear hfz6_0
         try clear hfz6_1
         try clear hx13_0
         try clear hx32_0
         try clear hx914_0
         try clear hx925_0
         try clear p1
         try clear p13
         try clear p2
         try clear p3
         try clear p32
         try clear p6
         try clear p9
         try clear p914
         try clear p925
         try clear q1
         try clear q13
         try clear q14
         try clear q3
         try clear q32
         try clear q33
         try clear q9
         try clear q914
         try clear q925
         obtain ⟨x5_3, x64_3, rfl, HA, HK3, HO_5, HO_8, BK910, HB⟩ := hrel
         cases gk with
         | zero => exact absurd HA.out (by simp [impl_Graph_walkMatrix.l3])
         | succ k3 =>
          have H := HA.out
          clear HA
          simp only [impl_Graph_walkMatrix.l3] at H
          by_cases c41 : x64_3 < (x8_2.length : Int)
          ·rw [if_pos c41] at H
           have c41b0 : decide (x64_3 < (x8_2.length : Int)) = true := decide_eq_true c41
           (try (have c41z0 := c41b0; simp only [hl8_1] at c41z0))
           clear c41
           by_cases c42 : 0 ≤ x64_3
           ·rw [if_pos c42] at H
            have c42b0 : decide (0 ≤ x64_3) = true := decide_eq_true c42
            clear c42
            by_cases c43 : x64_3 < (x8_2.length : Int)
            ·rw [if_pos c43] at H
             have c43b0 : decide (x64_3 < (x8_2.length : Int)) = true := decide_eq_true c43
             (try (have c43z0 := c43b0; simp only [hl8_1] at c43z0))
             clear c43
             replace H := Option.bind_eq_some_iff.mp H
             obtain ⟨⟨t933, t934⟩, A440, H⟩ := H
             replace H : (impl_Graph_walkMatrix.l4 k3 x5_3 x8_2 t933 (x8_2.length : Int) x64_3 (rd_L1 x8_2 x64_3) ((rd_L1 x8_2 x64_3).length : Int) 0 a0_0 l0_1) = some r := H
             have A44 := Aside0.mk A440
             clear A440
             have H' := Aside0.mk H
             clear H
             have p932 : 0 ≤ (x64_3 : Int) := of_decide_eq_true (by assumption)
             have q932 : x64_3 < (x8_2.length : Int) := of_decide_eq_true (by assumption)
             obtain ⟨ad932, A932_0, c932_0, e932, hx932_0, hl932_0, hi932_0⟩ := at_L1 (Kd.S_reads' HO_8.out).2.2 x64_3 p932 q932
             cases e932
             obtain ⟨ce932, hce932, hMe932, hcc932⟩ := Kd.S_get HO_8.out [] x64_3 p932 (by first | exact q932 | exact of_decide_eq_true (by assumption) | (have e_ := (Kd.S_reads' HO_8.out).1; omega))
             obtain ⟨ve932_0, rfl, ge932_0⟩ := hMe932
             have hv932_0 := hcc932 0 _ rfl
             rw [Nat.add_zero, show ((Kd.slice 2 (Kd.int .i64))).sz = 1 from rfl, Nat.mul_one] at hv932_0
             replace hv932_0 := Option.some.inj (hv932_0.symm.trans hx932_0)
             rw [hv932_0] at ge932_0
             have HL932_0 := Aside0.mk (show Kd.R (Kd.int .i64) 2 _ _ _ _ (rd_L1 x8_2 x64_3) from ge932_0)
             clear hv932_0 ge932_0
             have HX932_0 := Aside0.mk hx932_0
             clear hcc932 hce932
             have HR932_0 := Aside0.mk hi932_0
             have HC932_0 := Aside0.mk hl932_0
             clear hi932_0 hl932_0
             replace p932 := eq_true p932
             replace q932 := eq_true q932
             have hcz45_0 : wr.cell? ⟨gb910, 0, none⟩ = some (.int .i64 a0_0) := (blk_cell BK910.out 0).trans rfl
             have hcz45_1 : wr.cell? ⟨gb910, 1, none⟩ = some (.slice A0_1 l0_1.length c0_1) := (blk_cell BK910.out 1).trans rfl
             have hfz45_0 := blk_frozen BK910.out 0
             have hfz45_1 := blk_frozen BK910.out 1
             go_wp2_with (first | ((with_reducible refine gate_callee (f := 105) rfl ?_); refine goesL_ (some 72) rfl rfl Try.func105 (by kernel_rfl) rfl #[.agg #[.int .i64 a0_0, .slice A0_1 l0_1.length c0_1], .int .i64 x64_3] rfl (by (try simp only [List.map_toArray, List.map_cons, List.map_nil]); first | done | rfl | (simp only [List.length_drop, List.length_take]; rfl)) ?_; (with_reducible refine (impl_Graph_ends.calls a0_0 _ _ l0_1 x64_3 t933 t934 _ ?side1 ?side2 A44.out).mono ?_); (case side1 => repeat (first | exact (Kd.C_below HR0_1.out HB.out) | (with_reducible refine Kd.C_alloc ?_ _) | (with_reducible refine Kd.C_drewN ?_ _) | (with_reducible refine Kd.C_drew ?_))); (case side2 => exact HC0_1.out); rintro e w46 ⟨rfl, hb⟩; refine ⟨_, rfl, ?_⟩; have n0_ := Aside0.mk (Kd.S_below (by (with_reducible repeat (first | apply Kd.S_alloc | apply Kd.S_drewN | apply Kd.S_drew)); exact HO_5.out) hb); have n1_ := Aside0.mk (Kd.S_below (by (with_reducible repeat (first | apply Kd.S_alloc | apply Kd.S_drewN | apply Kd.S_drew)); exact HO_8.out) hb); have n2_ := Aside0.mk (Kd.R_below (by (with_reducible repeat (first | apply Kd.R_alloc | apply Kd.R_drewN | apply Kd.R_drew)); exact HL932_0.out) hb); have n3_ := Aside0.mk (blk_below (g := gb910) (o := .cells #[.int .i64 a0_0, .slice A0_1 l0_1.length c0_1] 37 (0, 0)) (by (with_reducible repeat (first | refine blk_drewN ?_ _ | refine blk_drew ?_ | refine blk_alloc ?_ _)); exact BK910.out) hb); have n4_ := Aside0.mk (Kd.C_below (by repeat (first | (with_reducible exact HR932_0.out) | (with_reducible refine Kd.C_alloc ?_ _) | (with_reducible refine Kd.C_drewN ?_ _) | (with_reducible refine Kd.C_drew ?_) | exact HR932_0.out)) hb); have n5_ := Aside0.mk (pw_cell_below hb HX932_0.out); have n6_ := Aside0.mk (below_step (by repeat (first | (with_reducible first | exact HB.out | apply below_alloc | apply pw_below_drewN | apply below_drew1 | refine below_set ?_ GE910.out) | exact HB.out)) hb); clear HO_5; clear HO_8; clear HL932_0; clear BK910; clear HR932_0; clear HX932_0; clear HB; have HO_5 := n0_; have HO_8 := n1_; have HL932_0 := n2_; have BK910 := n3_; have HR932_0 := n4_; have HX932_0 := n5_; have HB := n6_; clear n0_ n1_ n2_ n3_ n4_ n5_ n6_; (try clear hb); (try clear hb2); (try clear hk); (try clear hi)))
             go_loopg [77] k3 (fun kq v77 w' => ∃ (x5_4 : List (List Int)) (x77_4 : Int), v77 = .int .i64 x77_4 ∧ Aside0 (impl_Graph_walkMatrix.l4 kq x5_4 x8_2 t933 (x8_2.length : Int) x64_3 (rd_L1 x8_2 x64_3) ((rd_L1 x8_2 x64_3).length : Int) x77_4 a0_0 l0_1 = some r) ∧ Aside0 (kq ≤ k3) ∧ Aside0 (Kd.S (Kd.slice 2 (Kd.int .i64)) 24 w' w.heap.size (fun k_ => k_ < bm9) v912 x5_4) ∧ Aside0 (Kd.S (Kd.slice 2 (Kd.int .i64)) 24 w' w.heap.size (fun k_ => bm9 ≤ k_) (.slice (some ad932) x8_2.length co40) x8_2) ∧ Aside0 (w'.heap[gb910]? = some (.cells #[.int .i64 a0_0, (.slice A0_1 l0_1.length c0_1)] 37 (0, 0))) ∧ Aside0 (Below w.heap.size w w') ∧ Aside0 (Kd.R (Kd.int .i64) 2 w' w.heap.size (fun k_ => bm9 ≤ k_) (.slice A932_0 (rd_L1 x8_2 x64_3).length c932_0) (rd_L1 x8_2 x64_3)))
             case atStart => exact ⟨(x5_3), (0), (by first | rfl | (simp; done) | (simp [*]; done)), H', ⟨Nat.le_refl _⟩, ⟨by (try simp only [hl8_1]); (with_reducible repeat (first | apply Kd.S_alloc | apply Kd.S_drewN | apply Kd.S_drew)); exact HO_5.out⟩, ⟨by (try simp only [hl8_1]); (with_reducible repeat (first | apply Kd.S_alloc | apply Kd.S_drewN | apply Kd.S_drew)); exact HO_8.out⟩, ⟨by (try simp only [hl8_1]); (with_reducible repeat (first | refine blk_drewN ?_ _ | refine blk_drew ?_ | refine blk_alloc ?_ _)); exact BK910.out⟩, ⟨by repeat (first | (with_reducible first | exact HB.out | apply below_alloc | apply pw_below_drewN | apply below_drew1 | refine below_set ?_ GE910.out) | exact HB.out)⟩, ⟨Kd.R_mono (ok' := fun k_ => bm9 ≤ k_) HL932_0.out (fun k_ hk => by first | exact hk | exact hk.1)⟩⟩
             case round =>
              clear H'
              try clear c1
              try clear p1
              try clear q1
              try clear hx1
              try clear c2
              try clear p2
              try clear c3
              try clear p3
              try clear q3
              try clear hx3
              try clear hf3
              try clear c4
              try clear c4b0
              try clear c4b1
              try clear c6
              try clear p6
              try clear c9
              try clear c9b0
              try clear p9
              try clear q9
              try clear hx9
              try clear c10
              try clear c10b0
              try clear c11
              try clear c11b0
              try clear c12
              try clear c12b0
              try clear p13
              try clear q13
              try clear hx13
              try clear hf13
              try clear c14
              try clear q14
              try clear c28
              try clear c28b0
              try clear c29
              try clear c29b0
              try clear c30
              try clear c30b0
              try clear c31
              try clear c31b0
              try clear p32
              try clear q32
              try clear hx32
              try clear hf32
              try clear c33
              try clear q33
              try clear c35
              try clear c35b0
              try clear c41
              try clear c41b0
              try clear c42
              try clear c42b0
              try clear c43
              try clear c43b0
              try clear hcz20_0
              try clear hcz20_1
              try clear hcz22_0
              try clear hcz22_1
              try clear hcz24_0
              try clear hcz24_1
              try clear hcz45_0
              try clear hcz45_1
              try clear hcz6_0
              try clear hcz6_1
              try clear hfz20_0
              try clear hfz20_1
              try clear hfz22_0
              try clear hfz22_1
              try clear hfz24_0
              try clear hfz24_1
              try clear hfz45_0
              try clear hfz45_1
              try clear hfz6_0
              try clear hfz6_1
              try clear hx13_0
              try clear hx32_0
              try clear hx914_0
              try clear hx925_0
              try clear hx932_0
              try clear p1
              try clear p13
              try clear p2
              try clear p3
              try clear p32
              try clear p6
              try clear p9
              try clear p914
              try clear p925
              try clear p932
              try clear q1
              try clear q13
              try clear q14
              try clear q3
              try clear q32
              try clear q33
              try clear q9
              try clear q914
              try clear q925
              try clear q932
              obtain ⟨x5_4, x77_4, rfl, HA, HK4, HO_5, HO_8, BK910, HB, HL9⟩ := hrel
              cases gk with
              | zero => exact absurd HA.out (by simp [impl_Graph_walkMatrix.l4])
              | succ k4 =>
               have H := HA.out
               clear HA
               simp only [impl_Graph_walkMatrix.l4] at H
               by_cases c47 : x77_4 < ((rd_L1 x8_2 x64_3).length : Int)
               ·rw [if_pos c47] at H
                have c47b0 : decide (x77_4 < ((rd_L1 x8_2 x64_3).length : Int)) = true := decide_eq_true c47
                (try (have c47z0 := c47b0; simp only [hl8_1] at c47z0))
                clear c47
                by_cases c48 : 0 ≤ x77_4
                ·rw [if_pos c48] at H
                 have c48b0 : decide (0 ≤ x77_4) = true := decide_eq_true c48
                 clear c48
                 by_cases c49 : x77_4 < ((rd_L1 x8_2 x64_3).length : Int)
                 ·rw [if_pos c49] at H
                  have c49b0 : decide (x77_4 < ((rd_L1 x8_2 x64_3).length : Int)) = true := decide_eq_true c49
                  (try (have c49z0 := c49b0; simp only [hl8_1] at c49z0))
                  clear c49
                  replace H := Option.bind_eq_some_iff.mp H
                  obtain ⟨⟨t936, t937⟩, A500, H⟩ := H
                  replace H : (if 0 ≤ t933 then (if t933 < (x5_4.length : Int) then (if 0 ≤ t937 then (if t937 < ((rd_L1 x5_4 t933).length : Int) then (impl_Graph_walkMatrix.l4 k4 (x5_4.set (t933 : Int).toNat ((rd_L1 x5_4 t933).set (t937 : Int).toNat (wrap64 ((rd (rd_L1 x5_4 t933) t937) + (rd (rd_L1 x8_2 x64_3) x77_4))))) x8_2 t933 (x8_2.length : Int) x64_3 (rd_L1 x8_2 x64_3) ((rd_L1 x8_2 x64_3).length : Int) (wrap64 (x77_4 + 1)) a0_0 l0_1) else (none)) else (none)) else (none)) else (none)) = some r := H
                  have A50 := Aside0.mk A500
                  clear A500
                  by_cases c51 : 0 ≤ t933
                  ·rw [if_pos c51] at H
                   have c51b0 : decide (0 ≤ t933) = true := decide_eq_true c51
                   clear c51
                   by_cases c52 : t933 < (x5_4.length : Int)
                   ·rw [if_pos c52] at H
                    have c52b0 : decide (t933 < (x5_4.length : Int)) = true := decide_eq_true c52
                    (try (have c52z0 := c52b0; simp only [hl8_1] at c52z0))
                    clear c52
                    by_cases c53 : 0 ≤ t937
                    ·rw [if_pos c53] at H
                     have c53b0 : decide (0 ≤ t937) = true := decide_eq_true c53
                     clear c53
                     by_cases c54 : t937 < ((rd_L1 x5_4 t933).length : Int)
                     ·rw [if_pos c54] at H
                      have c54b0 : decide (t937 < ((rd_L1 x5_4 t933).length : Int)) = true := decide_eq_true c54
                      (try (have c54z0 := c54b0; simp only [hl8_1] at c54z0))
                      clear c54
                      obtain ⟨y940, hy940⟩ : ∃ y_ : List Int, y_ = ((rd_L1 x5_4 t933).set (t937 : Int).toNat (wrap64 ((rd (rd_L1 x5_4 t933) t937) + (rd (rd_L1 x8_2 x64_3) x77_4)))) := ⟨_, rfl⟩
                      replace H : (impl_Graph_walkMatrix.l4 k4 (x5_4.set (t933 : Int).toNat y940) x8_2 t933 (x8_2.length : Int) x64_3 (rd_L1 x8_2 x64_3) ((rd_L1 x8_2 x64_3).length : Int) (wrap64 (x77_4 + 1)) a0_0 l0_1) = some r := by first | (rw [hy940]; with_reducible exact H) | (have H2_ := (Option.bind_some _ _).symm.trans H; rw [hy940]; with_reducible exact H2_) | (have H2_ := (Option.bind_some _ _).symm.trans H; with_reducible exact H2_) | with_reducible exact H | (rw [hy940]; exact H) | exact H
                      have Ny940 := Aside0.mk hy940
                      clear hy940
                      obtain ⟨y942, hy942⟩ : ∃ y_ : List (List Int), y_ = (x5_4.set (t933 : Int).toNat y940) := ⟨_, rfl⟩
                      replace H : (impl_Graph_walkMatrix.l4 k4 y942 x8_2 t933 (x8_2.length : Int) x64_3 (rd_L1 x8_2 x64_3) ((rd_L1 x8_2 x64_3).length : Int) (wrap64 (x77_4 + 1)) a0_0 l0_1) = some r := by first | (rw [hy942]; with_reducible exact H) | (have H2_ := (Option.bind_some _ _).symm.trans H; rw [hy942]; with_reducible exact H2_) | (have H2_ := (Option.bind_some _ _).symm.trans H; with_reducible exact H2_) | with_reducible exact H | (rw [hy942]; exact H) | exact H
                      have Ny942 := Aside0.mk hy942
                      clear hy942
                      have H' := Aside0.mk H
                      clear H
                      have p935 : 0 ≤ (x77_4 : Int) := of_decide_eq_true (by assumption)
                      have q935 : x77_4 < ((rd_L1 x8_2 x64_3).length : Int) := of_decide_eq_true (by assumption)
                      obtain ⟨ad935, e935, hx935_0⟩ := Kd.at_int (Kd.R_reads' HL9.out).2.2 x77_4 p935 q935
                      cases e935
                      skip
                      replace p935 := eq_true p935
                      replace q935 := eq_true q935
                      have hcz56_0 : wr.cell? ⟨gb910, 0, none⟩ = some (.int .i64 a0_0) := (blk_cell BK910.out 0).trans rfl
                      have hcz56_1 : wr.cell? ⟨gb910, 1, none⟩ = some (.slice A0_1 l0_1.length c0_1) := (blk_cell BK910.out 1).trans rfl
                      have hfz56_0 := blk_frozen BK910.out 0
                      have hfz56_1 := blk_frozen BK910.out 1
                      go_wp2_with (first | ((with_reducible refine gate_callee (f := 105) rfl ?_); refine goesL_ (some 85) rfl rfl Try.func105 (by kernel_rfl) rfl #[.agg #[.int .i64 a0_0, .slice A0_1 l0_1.length c0_1], .int .i64 x77_4] rfl (by (try simp only [List.map_toArray, List.map_cons, List.map_nil]); first | done | rfl | (simp only [List.length_drop, List.length_take]; rfl)) ?_; (with_reducible refine (impl_Graph_ends.calls a0_0 _ _ l0_1 x77_4 t936 t937 _ ?side1 ?side2 A50.out).mono ?_); (case side1 => repeat (first | exact (Kd.C_below HR0_1.out HB.out) | (with_reducible refine Kd.C_alloc ?_ _) | (with_reducible refine Kd.C_drewN ?_ _) | (with_reducible refine Kd.C_drew ?_))); (case side2 => exact HC0_1.out); rintro e w57 ⟨rfl, hb⟩; refine ⟨_, rfl, ?_⟩; have HL9o := HL9; clear HL9; have HL9 := Aside0.mk (Kd.R_below HL9o.out hb); clear HL9o; have n0_ := Aside0.mk (Kd.S_below (by (with_reducible repeat (first | apply Kd.S_alloc | apply Kd.S_drewN | apply Kd.S_drew)); exact HO_5.out) hb); have n1_ := Aside0.mk (Kd.S_below (by (with_reducible repeat (first | apply Kd.S_alloc | apply Kd.S_drewN | apply Kd.S_drew)); exact HO_8.out) hb); have n2_ := Aside0.mk (blk_below (g := gb910) (o := .cells #[.int .i64 a0_0, .slice A0_1 l0_1.length c0_1] 37 (0, 0)) (by (with_reducible repeat (first | refine blk_drewN ?_ _ | refine blk_drew ?_ | refine blk_alloc ?_ _)); exact BK910.out) hb); have n3_ := Aside0.mk (below_step (by repeat (first | (with_reducible first | exact HB.out | apply below_alloc | apply pw_below_drewN | apply below_drew1 | refine below_set ?_ GE910.out) | exact HB.out)) hb); clear HO_5; clear HO_8; clear BK910; clear HB; have HO_5 := n0_; have HO_8 := n1_; have BK910 := n2_; have HB := n3_; clear n0_ n1_ n2_ n3_; (try clear hb); (try clear hb2); (try clear hk); (try clear hi); obtain ⟨Ao58, co58, eo58⟩ := Kd.S_slice HO_5.out; subst eo58; have p938 : 0 ≤ (t933 : Int) := of_decide_eq_true (by assumption); have q938 : t933 < (x5_4.length : Int) := of_decide_eq_true (by assumption); obtain ⟨ad938, A938_0, c938_0, e938, hx938_0, hl938_0, hi938_0⟩ := at_L1 (Kd.S_reads' HO_5.out).2.2 t933 p938 q938; cases e938; obtain ⟨ce938, hce938, hMe938, hcc938⟩ := Kd.S_get HO_5.out [] t933 p938 (by first | exact q938 | exact of_decide_eq_true (by assumption) | (have e_ := (Kd.S_reads' HO_5.out).1; omega)); obtain ⟨ve938_0, rfl, ge938_0⟩ := hMe938; have hv938_0 := hcc938 0 _ rfl; rw [Nat.add_zero, show ((Kd.slice 2 (Kd.int .i64))).sz = 1 from rfl, Nat.mul_one] at hv938_0; replace hv938_0 := Option.some.inj (hv938_0.symm.trans hx938_0); rw [hv938_0] at ge938_0; have HL938_0 := Aside0.mk (show Kd.R (Kd.int .i64) 2 _ _ _ _ (rd_L1 x5_4 t933) from ge938_0); clear hv938_0 ge938_0; have HX938_0 := Aside0.mk hx938_0; clear hcc938 hce938; have HR938_0 := Aside0.mk hi938_0; have HC938_0 := Aside0.mk hl938_0; clear hi938_0 hl938_0; replace p938 := eq_true p938; replace q938 := eq_true q938; have p939 : 0 ≤ (t937 : Int) := of_decide_eq_true (by assumption); have q939 : t937 < ((rd_L1 x5_4 t933).length : Int) := of_decide_eq_true (by assumption); obtain ⟨ad939, e939, hx939_0⟩ := Kd.at_int (by repeat (first | (with_reducible exact HR938_0.out) | (with_reducible refine Kd.C_alloc ?_ _) | (with_reducible refine Kd.C_drewN ?_ _) | (with_reducible refine Kd.C_drew ?_) | exact HR938_0.out)) t937 p939 q939; cases e939; replace p939 := eq_true p939; replace q939 := eq_true q939; have p55 : 0 ≤ (t937 : Int) := of_decide_eq_true (by assumption); have q55 : (t937 : Int) < (((rd_L1 x5_4 t933).length : Int) : Int) := of_decide_eq_true (by assumption); obtain ⟨go55, co55, eo55, gb55, gl55, cl55, HG55⟩ := Kd.R_form HL938_0.out (by omega); (first | cases eo55 | (injection eo55 with ea_ en_ ec_; (first | subst ea_ | (injection ea_ with ea_; subst ea_)); subst ec_; clear en_)); have GB55 := Aside0.mk gb55; have GG55 := Aside0.mk HG55; clear gb55 gl55 HG55; (first | simp only [add_plain] at hx939_0 | skip); obtain ⟨hx55_0, hf55_0⟩ := Kd.R_celln 0 HL938_0.out (t937 : Int) p55 q55; replace p55 := eq_true p55; replace q55 := eq_true q55; have hq59 : (t933 : Int) < (x5_4.length : Int) := (by have h_ : (t933 : Int) < ((x5_4.length : Int) : Int) := of_decide_eq_true (by assumption); first | exact h_ | (have e_ := (Kd.S_reads' HO_5.out).1; omega) | simpa only [List.length_set, List.length_set] using h_); obtain ⟨oki59, ce59, hcl59, hM59, hcc59, hok59, hbk59⟩ := Kd.S_borrow HO_5.out [] (t933 : Int) (of_decide_eq_true (by assumption)) (by first | exact hq59 | (have e_ := (Kd.S_reads' HO_5.out).1; have h_ := hq59; omega)); obtain ⟨ve59_0, rfl, ge59_0⟩ := hM59; have hv59 := hcc59 0 _ rfl; rw [Nat.add_zero, show ((Kd.slice 2 (Kd.int .i64))).sz = 1 from rfl, Nat.mul_one] at hv59; replace hv59 := Option.some.inj (hv59.symm.trans HX938_0.out); subst hv59; clear hcc59 hcl59; replace ge59_0 := (show Kd.R (Kd.int .i64) 2 _ _ _ _ (rd_L1 x5_4 t933) from ge59_0); have HP59 := Kd.R_putg ge59_0 (t937 : Int) (wrap64 ((rd (rd_L1 x5_4 t933) t937) + (rd (rd_L1 x8_2 x64_3) x77_4)))) | ((with_reducible refine gate_store (t := 2) (p := 97) rfl ?_); refine store_event (t := 2) (p := 97) (v := ?vo_w60) (w1 := (w57.setCell ⟨go55, (t937 : Int).toNat, none⟩ (.int .i64 (wrap64 ((rd (rd_L1 x5_4 t933) t937) + (rd (rd_L1 x8_2 x64_3) x77_4)))))) ?hg ?ho ?hn ?hr ?_; (case ho => rfl); (case hg => rfl); (case hn => rfl); (case hr => first | (go_simp; done) | (go_simp; rfl)); intro w60 hw; have hg : w57.grownBy w60 (some go55) := (by rw [hw]; exact HP59.2); have hz_ : Kd.R (Kd.int .i64) 2 w60 w.heap.size oki59 (.slice (some ⟨go55, 0, none⟩) (rd_L1 x5_4 t933).length c938_0) y940 := (by rw [hw, Ny940.out]; exact HP59.1); have hp_ : Kd.S (Kd.slice 2 (Kd.int .i64)) 24 w60 w.heap.size (fun k_ => k_ < bm9) (.slice (some ad938) x5_4.length co58) y942 := (by rw [Ny942.out]; exact hbk59 hg (fun k_ e_ => by injection e_ with e_; subst e_; exact ge59_0.1 _ rfl) (Kd.M_row hz_)); have hm_ := Kd.R_mono hz_ hok59; clear HP59 hbk59; have n0_ := Aside0.mk (hp_); have n1_ := Aside0.mk (Kd.S_grown (by (with_reducible repeat (first | apply Kd.S_alloc | apply Kd.S_drewN | apply Kd.S_drew)); exact HO_8.out) hg (fun k_ hk e_ => by injection e_ with e_; subst e_; have h1_ := (hok59 _ (ge59_0.1 _ rfl)).1; have h2_ := hk; have h3_ := HBM.out; (try dsimp only at h1_ h2_); omega)); have n2_ := Aside0.mk (blk_grown (g := gb910) (o := .cells #[.int .i64 a0_0, .slice A0_1 l0_1.length c0_1] 37 (0, 0)) (by (with_reducible repeat (first | refine blk_drewN ?_ _ | refine blk_drew ?_ | refine blk_alloc ?_ _)); exact BK910.out) hg (Kd.R_ne HL938_0.out BK910.out (by decide))); have n3_ := Aside0.mk ((by rw [hw]; exact below_set (HB.out) GB55.out : Below w.heap.size w w60)); have n4_ := Aside0.mk (hm_); have n5_ := Aside0.mk ((Kd.R_reads' hm_).2.1); clear HO_5; clear HO_8; clear BK910; clear HB; clear HL938_0; have HO_5 := n0_; have HO_8 := n1_; have BK910 := n2_; have HB := n3_; have HL945 := n4_; have HC941 := n5_; clear n0_ n1_ n2_ n3_ n4_ n5_; have HL9o := HL9; clear HL9; have HL9 := Aside0.mk (Kd.R_grown HL9o.out hg (fun k_ hk e_ => by injection e_ with e_; subst e_; have h1_ := (hok59 _ (ge59_0.1 _ rfl)).1; have h2_ := hk; (try dsimp only at h1_ h2_); omega)); clear HL9o; clear hg hw hp_ hz_ hm_ hok59))
                      first | go_roundg k4 | (refine Handed.intro k4 ?measure ?_; rotate_left; go_step; (try simp only [add_plain]); (repeat apply Exists.intro); refine ⟨?rel, rfl⟩)
                      case measure => have := HK1.out; have := HK2.out; have := HK3.out; have := HK4.out; omega
                      case rel => exact ⟨(y942), (wrap64 (x77_4 + 1)), (by first | rfl | (simp; done) | (simp [*]; done)), H', ⟨by have := HK1.out; have := HK2.out; have := HK3.out; have := HK4.out; omega⟩, ⟨by (try simp only [hl8_1]); (with_reducible repeat (first | apply Kd.S_alloc | apply Kd.S_drewN | apply Kd.S_drew)); exact HO_5.out⟩, ⟨by (try simp only [hl8_1]); (with_reducible repeat (first | apply Kd.S_alloc | apply Kd.S_drewN | apply Kd.S_drew)); exact HO_8.out⟩, ⟨by (try simp only [hl8_1]); (with_reducible repeat (first | refine blk_drewN ?_ _ | refine blk_drew ?_ | refine blk_alloc ?_ _)); exact BK910.out⟩, ⟨by repeat (first | (with_reducible first | exact HB.out | apply below_alloc | apply pw_below_drewN | apply below_drew1 | refine below_set ?_ GE910.out) | exact HB.out)⟩, HL9⟩
                     ·rw [if_neg c54] at H
                      exact absurd H (by simp)
                    ·rw [if_neg c53] at H
                     exact absurd H (by simp)
                   ·rw [if_neg c52] at H
                    exact absurd H (by simp)
                  ·rw [if_neg c51] at H
                   exact absurd H (by simp)
                 ·rw [if_neg c49] at H
                  exact absurd H (by simp)
                ·rw [if_neg c48] at H
                 exact absurd H (by simp)
               ·rw [if_neg c47] at H
                have c47b0 : decide (x77_4 < ((rd_L1 x8_2 x64_3).length : Int)) = false := decide_eq_false c47
                (try (have c47z0 := c47b0; simp only [hl8_1] at c47z0))
                clear c47
                have H' := Aside0.mk H
                clear H
                go_wp2
                first | go_roundg k4 | (refine Handed.intro k4 ?measure ?_; rotate_left; go_step; (try simp only [add_plain]); (repeat apply Exists.intro); refine ⟨?rel, rfl⟩)
                case measure => have := HK1.out; have := HK2.out; have := HK3.out; have := HK4.out; omega
                case rel => exact ⟨(x5_4), (wrap64 (x64_3 + 1)), (by first | rfl | (simp; done) | (simp [*]; done)), H', ⟨by have := HK1.out; have := HK2.out; have := HK3.out; have := HK4.out; omega⟩, ⟨by (try simp only [hl8_1]); (with_reducible repeat (first | apply Kd.S_alloc | apply Kd.S_drewN | apply Kd.S_drew)); exact HO_5.out⟩, ⟨by (try simp only [hl8_1]); (with_reducible repeat (first | apply Kd.S_alloc | apply Kd.S_drewN | apply Kd.S_drew)); exact HO_8.out⟩, ⟨by (try simp only [hl8_1]); (with_reducible repeat (first | refine blk_drewN ?_ _ | refine blk_drew ?_ | refine blk_alloc ?_ _)); exact BK910.out⟩, ⟨by repeat (first | (with_reducible first | exact HB.out | apply below_alloc | apply pw_below_drewN | apply below_drew1 | refine below_set ?_ GE910.out) | exact HB.out)⟩⟩
            ·rw [if_neg c43] at H
             exact absurd H (by simp)
           ·rw [if_neg c42] at H
            exact absurd H (by simp)
          ·rw [if_neg c41] at H
           have c41b0 : decide (x64_3 < (x8_2.length : Int)) = false := decide_eq_false c41
           (try (have c41z0 := c41b0; simp only [hl8_1] at c41z0))
           clear c41
           obtain rfl := Option.some.inj H
           go_wp2
           go_ret
           exact ⟨_, by first | rfl | (simp [errW_none, errW_some] <;> rfl) | (simp [*, errW_none, errW_some] <;> rfl), by (with_reducible repeat (first | apply Kd.S_alloc | apply Kd.S_drewN | apply Kd.S_drew)); exact Kd.S_mono HO_5.out (fun _ hk => trivial), by repeat (first | (with_reducible first | exact HB.out | apply below_alloc | apply pw_below_drewN | apply below_drew1 | refine below_set ?_ GE910.out) | exact HB.out)⟩


/-! ### impl_WalkMatrix_1: function 100011 -/
def impl_WalkMatrix_1.f (a0_0 : Int) : Option (Bool) := (impl_within.f a0_0 0 12).bind fun t916 => (some t916)
set_option maxHeartbeats 8000000 in
set_option maxRecDepth 100000 in
theorem impl_WalkMatrix_1.calls (gq0_0 : Nat) (a0_0 : Int) (r : Bool) (w : World) (hbgq0_0 : w.heap[gq0_0]? = some (.cells #[.int .i64 a0_0] 2 (0, 0))) (h : impl_WalkMatrix_1.f a0_0 = some r) :
  Calls Try.prog 91 #[.pointer (some ⟨gq0_0, 0, none⟩)] w fun e w' => e = .returned (.bool r) ∧ Below w.heap.size w w' := by
 have BK915 := Aside0.mk hbgq0_0
 clear hbgq0_0
 have HB := Aside0.mk (Below.refl w.heap.size w)
 have H : ((impl_within.f a0_0 0 12).bind fun t916 => (some t916)) = some r := h
 clear h
 replace H := Option.bind_eq_some_iff.mp H
 obtain ⟨t916, A20, H⟩ := H
 replace H : (some t916) = some r := H
 have A2 := Aside0.mk A20
 clear A20
 obtain rfl := Option.some.inj H
 have hcz3_0 : w.cell? ⟨gq0_0, 0, none⟩ = some (.int .i64 a0_0) := (blk_cell BK915.out 0).trans rfl
 have hfz3_0 := blk_frozen BK915.out 0
 go_enter Try.func91, Try.ntmps91
 go_wp2_with (first | ((with_reducible refine gate_callee (f := 57) rfl ?_); refine goesL_ (some 3) rfl rfl Try.func57 (by kernel_rfl) rfl #[.int .i64 a0_0, .int .i64 0, .int .i64 12] rfl (by (try simp only [List.map_toArray, List.map_cons, List.map_nil]); first | done | rfl | (simp only [List.length_drop, List.length_take]; rfl)) ?_; (with_reducible refine (impl_within.calls a0_0 0 12 t916 _ A2.out).mono ?_); rintro e w' ⟨rfl, ⟨nd, rfl⟩⟩; refine ⟨_, rfl, ?_⟩))
 go_ret
 exact ⟨by first | rfl | (simp [errW_none, errW_some] <;> rfl) | (simp [*, errW_none, errW_some] <;> rfl), by repeat (first | (with_reducible first | exact HB.out | apply below_alloc | apply pw_below_drewN | apply below_drew1 | refine below_set ?_ GE915.out) | exact HB.out)⟩

/-! ### impl_graphCode_at_WalkMatrix_1: function 100010 -/
def impl_graphCode_at_WalkMatrix_1.f (k : Nat) (a0_0 : Int) (l0_1 : List (List Int)) (a1_0 : Int) : Option (Int) := (impl_IsGraph.f k a0_0 l0_1).bind fun t919 => (if t919 = true then ((impl_WalkMatrix_1.f a1_0).bind fun t920 => (if t920 = true then (some 0) else (some 2))) else (some 1))
theorem impl_graphCode_at_WalkMatrix_1.mono : ∀ a0 a1 a2 k, LeO (impl_graphCode_at_WalkMatrix_1.f k a0 a1 a2) (impl_graphCode_at_WalkMatrix_1.f (k + 1) a0 a1 a2) := by
 intro a0 a1 a2 k
 unfold impl_graphCode_at_WalkMatrix_1.f
 repeat' first
   | (with_reducible exact impl_IsGraph.mono _ _ _)
   | (with_reducible exact LeO.refl _)
   | (with_reducible exact LeO.none _)
   | (with_reducible refine LeO.ite ?_ ?_)
   | (with_reducible refine LeO.bind ?_ (fun _ => ?_))
set_option maxHeartbeats 8000000 in
set_option maxRecDepth 100000 in
theorem impl_graphCode_at_WalkMatrix_1.calls (k : Nat) (a0_0 : Int) (A0_1 : Option Addr) (c0_1 : Nat) (l0_1 : List (List Int)) (gq1_0 : Nat) (a1_0 : Int) (r : Int) (w : World) (hr0_1 : Kd.C (Kd.slice 2 (Kd.int .i64)) w A0_1 l0_1.length l0_1) (hc0_1 : l0_1.length ≤ c0_1) (hbgq1_0 : w.heap[gq1_0]? = some (.cells #[.int .i64 a1_0] 2 (0, 0))) (h : impl_graphCode_at_WalkMatrix_1.f k a0_0 l0_1 a1_0 = some r) :
  Calls Try.prog 65 #[.agg #[.int .i64 a0_0, .slice A0_1 l0_1.length c0_1], .func (.func 91) #[] #[.pointer (some ⟨gq1_0, 0, none⟩)]] w fun e w' => e = .returned (.int .i64 r) ∧ Below w.heap.size w w' := by
 have hu37 := Try.underlying37
 have HR0_1 := Aside0.mk hr0_1
 have HC0_1 := Aside0.mk hc0_1
 clear hr0_1 hc0_1
 have BK917 := Aside0.mk hbgq1_0
 clear hbgq1_0
 have HB := Aside0.mk (Below.refl w.heap.size w)
 have H : ((impl_IsGraph.f k a0_0 l0_1).bind fun t919 => (if t919 = true then ((impl_WalkMatrix_1.f a1_0).bind fun t920 => (if t920 = true then (some 0) else (some 2))) else (some 1))) = some r := h
 clear h
 replace H := Option.bind_eq_some_iff.mp H
 obtain ⟨t919, A30, H⟩ := H
 replace H : (if t919 = true then ((impl_WalkMatrix_1.f a1_0).bind fun t920 => (if t920 = true then (some 0) else (some 2))) else (some 1)) = some r := H
 have A3 := Aside0.mk A30
 clear A30
 by_cases c4 : t919 = true
 ·subst c4
  have H1 : ((impl_WalkMatrix_1.f a1_0).bind fun t920 => (if t920 = true then (some 0) else (some 2))) = some r := by rw [if_pos rfl] at H; exact H
  clear H
  have H := H1
  clear H1
  replace H := Option.bind_eq_some_iff.mp H
  obtain ⟨t920, A50, H⟩ := H
  replace H : (if t920 = true then (some 0) else (some 2)) = some r := H
  have A5 := Aside0.mk A50
  clear A50
  by_cases c6 : t920 = true
  ·subst c6
   have H1 : (some 0) = some r := by rw [if_pos rfl] at H; exact H
   clear H
   have H := H1
   clear H1
   obtain rfl := Option.some.inj H
   go_enter Try.func65, Try.ntmps65
   go_wp2_with (first | ((with_reducible refine gate_dst (N := 2) rfl ?_); refine box_event ?hg (N := 2) ?hd (cs := #[.int .i64 a0_0, .slice A0_1 l0_1.length c0_1]) (t := 37) ?hr ?_; (case hd => rfl); (case hg => rfl); (case hr => first | (go_simp; done) | (go_simp; rfl)); intro gb918 hg w7 hbox hb; have n0_ := Aside0.mk (blk_below (g := gq1_0) (o := .cells #[.int .i64 a1_0] 2 (0, 0)) (by (with_reducible repeat (first | refine blk_drewN ?_ _ | refine blk_drew ?_ | refine blk_alloc ?_ _)); exact BK917.out) hb); have n1_ := Aside0.mk (below_step (by repeat (first | (with_reducible first | exact HB.out | apply below_alloc | apply pw_below_drewN | apply below_drew1 | refine below_set ?_ GE917.out) | exact HB.out)) hb); have n2_ := Aside0.mk (hbox); have n3_ := Aside0.mk ((by rw [hg]; exact (below_size (by repeat (first | (with_reducible first | exact HB.out | apply below_alloc | apply pw_below_drewN | apply below_drew1 | refine below_set ?_ GE917.out) | exact HB.out))) : w.heap.size ≤ gb918)); have n4_ := Aside0.mk ((by rw [hg]; exact (below_size (by repeat (first | (with_reducible first | exact HB.out | apply below_alloc | apply pw_below_drewN | apply below_drew1 | refine below_set ?_ GE917.out) | exact HB.out))) : w.heap.size ≤ gb918)); have n5_ := Aside0.mk ((by rw [hg]; exact Nat.ne_of_lt (blk_lt (g := gq1_0) (o := .cells #[.int .i64 a1_0] 2 (0, 0)) (by (with_reducible repeat (first | refine blk_drewN ?_ _ | refine blk_drew ?_ | refine blk_alloc ?_ _)); exact BK917.out)) : gq1_0 ≠ gb918)); have n6_ := Aside0.mk ((by rw [hg]; exact Nat.ne_of_gt (blk_lt (g := gq1_0) (o := .cells #[.int .i64 a1_0] 2 (0, 0)) (by (with_reducible repeat (first | refine blk_drewN ?_ _ | refine blk_drew ?_ | refine blk_alloc ?_ _)); exact BK917.out)) : gb918 ≠ gq1_0)); clear BK917; clear HB; have BK917 := n0_; have HB := n1_; have BK918 := n2_; have GW918 := n3_; have GE918 := n4_; have NB917_918 := n5_; have NB918_917 := n6_; clear n0_ n1_ n2_ n3_ n4_ n5_ n6_; clear hb hbox hg; have hnb8 := NB918_917.out; have hnc8 := NB917_918.out; have hcz9_0 : w7.cell? ⟨gb918, 0, none⟩ = some (.int .i64 a0_0) := (blk_cell BK918.out 0).trans rfl; have hcz9_1 : w7.cell? ⟨gb918, 1, none⟩ = some (.slice A0_1 l0_1.length c0_1) := (blk_cell BK918.out 1).trans rfl; have hfz9_0 := blk_frozen BK918.out 0; have hfz9_1 := blk_frozen BK918.out 1) | ((with_reducible refine gate_callee (f := 61) rfl ?_); refine goesL_ (some 7) rfl rfl Try.func61 (by kernel_rfl) rfl #[.agg #[.int .i64 a0_0, .slice A0_1 l0_1.length c0_1]] rfl (by (try simp only [List.map_toArray, List.map_cons, List.map_nil]); first | done | rfl | (simp only [List.length_drop, List.length_take]; rfl)) ?_; (with_reducible refine (impl_IsGraph.calls k a0_0 _ _ l0_1 true _ ?side1 ?side2 A3.out).mono ?_); (case side1 => repeat (first | exact (Kd.C_below HR0_1.out HB.out) | (with_reducible refine Kd.C_alloc ?_ _) | (with_reducible refine Kd.C_drewN ?_ _) | (with_reducible refine Kd.C_drew ?_))); (case side2 => exact HC0_1.out); rintro e w10 ⟨rfl, hb⟩; refine ⟨_, rfl, ?_⟩; have n0_ := Aside0.mk (blk_below (g := gq1_0) (o := .cells #[.int .i64 a1_0] 2 (0, 0)) (by (with_reducible repeat (first | refine blk_drewN ?_ _ | refine blk_drew ?_ | refine blk_alloc ?_ _)); exact BK917.out) hb); have n1_ := Aside0.mk (blk_below (g := gb918) (o := .cells #[.int .i64 a0_0, .slice A0_1 l0_1.length c0_1] 37 (0, 0)) (by (with_reducible repeat (first | refine blk_drewN ?_ _ | refine blk_drew ?_ | refine blk_alloc ?_ _)); exact BK918.out) hb); have n2_ := Aside0.mk (below_step (by repeat (first | (with_reducible first | exact HB.out | apply below_alloc | apply pw_below_drewN | apply below_drew1 | refine below_set ?_ GE917.out | refine below_set ?_ GE918.out) | exact HB.out)) hb); clear BK917; clear BK918; clear HB; have BK917 := n0_; have BK918 := n1_; have HB := n2_; clear n0_ n1_ n2_; (try clear hb); (try clear hb2); (try clear hk); (try clear hi)) | ((with_reducible refine gate_fn (t := 10) rfl ?_); refine goesF_ (some 11) rfl rfl Try.func91 (by kernel_rfl) rfl (lb := #[.pointer (some ⟨gq1_0, 0, none⟩)]) #[.pointer (some ⟨gq1_0, 0, none⟩)] rfl (by first | rfl | (simp; done)) (by (try simp only [List.map_toArray, List.map_cons, List.map_nil, List.append_toArray, List.cons_append, List.nil_append]); first | done | rfl | (simp only [List.length_drop, List.length_take]; rfl)) ?_; (with_reducible refine (impl_WalkMatrix_1.calls gq1_0 a1_0 true _ ?side1 A5.out).mono ?_); (case side1 => exact (by (with_reducible repeat (first | refine blk_drewN ?_ _ | refine blk_drew ?_ | refine blk_alloc ?_ _)); exact BK917.out)); rintro e w11 ⟨rfl, hb⟩; refine ⟨_, rfl, ?_⟩; have n0_ := Aside0.mk (blk_below (g := gq1_0) (o := .cells #[.int .i64 a1_0] 2 (0, 0)) (by (with_reducible repeat (first | refine blk_drewN ?_ _ | refine blk_drew ?_ | refine blk_alloc ?_ _)); exact BK917.out) hb); have n1_ := Aside0.mk (blk_below (g := gb918) (o := .cells #[.int .i64 a0_0, .slice A0_1 l0_1.length c0_1] 37 (0, 0)) (by (with_reducible repeat (first | refine blk_drewN ?_ _ | refine blk_drew ?_ | refine blk_alloc ?_ _)); exact BK918.out) hb); have n2_ := Aside0.mk (below_step (by repeat (first | (with_reducible first | exact HB.out | apply below_alloc | apply pw_below_drewN | apply below_drew1 | refine below_set ?_ GE917.out | refine below_set ?_ GE918.out) | exact HB.out)) hb); clear BK917; clear BK918; clear HB; have BK917 := n0_; have BK918 := n1_; have HB := n2_; clear n0_ n1_ n2_; (try clear hb); (try clear hb2); (try clear hk); (try clear hi)))
   go_ret
   exact ⟨by first | rfl | (simp [errW_none, errW_some] <;> rfl) | (simp [*, errW_none, errW_some] <;> rfl), by repeat (first | (with_reducible first | exact HB.out | apply below_alloc | apply pw_below_drewN | apply below_drew1 | refine below_set ?_ GE917.out | refine below_set ?_ GE918.out) | exact HB.out)⟩
  ·replace c6 := Bool.eq_false_iff.mpr c6
   subst c6
   have H1 : (some 2) = some r := by rw [if_neg (show ¬ (false = true) by decide)] at H; exact H
   clear H
   have H := H1
   clear H1
   obtain rfl := Option.some.inj H
   go_enter Try.func65, Try.ntmps65
   go_wp2_with (first | ((with_reducible refine gate_dst (N := 2) rfl ?_); refine box_event ?hg (N := 2) ?hd (cs := #[.int .i64 a0_0, .slice A0_1 l0_1.length c0_1]) (t := 37) ?hr ?_; (case hd => rfl); (case hg => rfl); (case hr => first | (go_simp; done) | (go_simp; rfl)); intro gb918 hg w12 hbox hb; have n0_ := Aside0.mk (blk_below (g := gq1_0) (o := .cells #[.int .i64 a1_0] 2 (0, 0)) (by (with_reducible repeat (first | refine blk_drewN ?_ _ | refine blk_drew ?_ | refine blk_alloc ?_ _)); exact BK917.out) hb); have n1_ := Aside0.mk (below_step (by repeat (first | (with_reducible first | exact HB.out | apply below_alloc | apply pw_below_drewN | apply below_drew1 | refine below_set ?_ GE917.out) | exact HB.out)) hb); have n2_ := Aside0.mk (hbox); have n3_ := Aside0.mk ((by rw [hg]; exact (below_size (by repeat (first | (with_reducible first | exact HB.out | apply below_alloc | apply pw_below_drewN | apply below_drew1 | refine below_set ?_ GE917.out) | exact HB.out))) : w.heap.size ≤ gb918)); have n4_ := Aside0.mk ((by rw [hg]; exact (below_size (by repeat (first | (with_reducible first | exact HB.out | apply below_alloc | apply pw_below_drewN | apply below_drew1 | refine below_set ?_ GE917.out) | exact HB.out))) : w.heap.size ≤ gb918)); have n5_ := Aside0.mk ((by rw [hg]; exact Nat.ne_of_lt (blk_lt (g := gq1_0) (o := .cells #[.int .i64 a1_0] 2 (0, 0)) (by (with_reducible repeat (first | refine blk_drewN ?_ _ | refine blk_drew ?_ | refine blk_alloc ?_ _)); exact BK917.out)) : gq1_0 ≠ gb918)); have n6_ := Aside0.mk ((by rw [hg]; exact Nat.ne_of_gt (blk_lt (g := gq1_0) (o := .cells #[.int .i64 a1_0] 2 (0, 0)) (by (with_reducible repeat (first | refine blk_drewN ?_ _ | refine blk_drew ?_ | refine blk_alloc ?_ _)); exact BK917.out)) : gb918 ≠ gq1_0)); clear BK917; clear HB; have BK917 := n0_; have HB := n1_; have BK918 := n2_; have GW918 := n3_; have GE918 := n4_; have NB917_918 := n5_; have NB918_917 := n6_; clear n0_ n1_ n2_ n3_ n4_ n5_ n6_; clear hb hbox hg; have hnb13 := NB918_917.out; have hnc13 := NB917_918.out; have hcz14_0 : w12.cell? ⟨gb918, 0, none⟩ = some (.int .i64 a0_0) := (blk_cell BK918.out 0).trans rfl; have hcz14_1 : w12.cell? ⟨gb918, 1, none⟩ = some (.slice A0_1 l0_1.length c0_1) := (blk_cell BK918.out 1).trans rfl; have hfz14_0 := blk_frozen BK918.out 0; have hfz14_1 := blk_frozen BK918.out 1) | ((with_reducible refine gate_callee (f := 61) rfl ?_); refine goesL_ (some 7) rfl rfl Try.func61 (by kernel_rfl) rfl #[.agg #[.int .i64 a0_0, .slice A0_1 l0_1.length c0_1]] rfl (by (try simp only [List.map_toArray, List.map_cons, List.map_nil]); first | done | rfl | (simp only [List.length_drop, List.length_take]; rfl)) ?_; (with_reducible refine (impl_IsGraph.calls k a0_0 _ _ l0_1 true _ ?side1 ?side2 A3.out).mono ?_); (case side1 => repeat (first | exact (Kd.C_below HR0_1.out HB.out) | (with_reducible refine Kd.C_alloc ?_ _) | (with_reducible refine Kd.C_drewN ?_ _) | (with_reducible refine Kd.C_drew ?_))); (case side2 => exact HC0_1.out); rintro e w15 ⟨rfl, hb⟩; refine ⟨_, rfl, ?_⟩; have n0_ := Aside0.mk (blk_below (g := gq1_0) (o := .cells #[.int .i64 a1_0] 2 (0, 0)) (by (with_reducible repeat (first | refine blk_drewN ?_ _ | refine blk_drew ?_ | refine blk_alloc ?_ _)); exact BK917.out) hb); have n1_ := Aside0.mk (blk_below (g := gb918) (o := .cells #[.int .i64 a0_0, .slice A0_1 l0_1.length c0_1] 37 (0, 0)) (by (with_reducible repeat (first | refine blk_drewN ?_ _ | refine blk_drew ?_ | refine blk_alloc ?_ _)); exact BK918.out) hb); have n2_ := Aside0.mk (below_step (by repeat (first | (with_reducible first | exact HB.out | apply below_alloc | apply pw_below_drewN | apply below_drew1 | refine below_set ?_ GE917.out | refine below_set ?_ GE918.out) | exact HB.out)) hb); clear BK917; clear BK918; clear HB; have BK917 := n0_; have BK918 := n1_; have HB := n2_; clear n0_ n1_ n2_; (try clear hb); (try clear hb2); (try clear hk); (try clear hi)) | ((with_reducible refine gate_fn (t := 10) rfl ?_); refine goesF_ (some 11) rfl rfl Try.func91 (by kernel_rfl) rfl (lb := #[.pointer (some ⟨gq1_0, 0, none⟩)]) #[.pointer (some ⟨gq1_0, 0, none⟩)] rfl (by first | rfl | (simp; done)) (by (try simp only [List.map_toArray, List.map_cons, List.map_nil, List.append_toArray, List.cons_append, List.nil_append]); first | done | rfl | (simp only [List.length_drop, List.length_take]; rfl)) ?_; (with_reducible refine (impl_WalkMatrix_1.calls gq1_0 a1_0 false _ ?side1 A5.out).mono ?_); (case side1 => exact (by (with_reducible repeat (first | refine blk_drewN ?_ _ | refine blk_drew ?_ | refine blk_alloc ?_ _)); exact BK917.out)); rintro e w16 ⟨rfl, hb⟩; refine ⟨_, rfl, ?_⟩; have n0_ := Aside0.mk (blk_below (g := gq1_0) (o := .cells #[.int .i64 a1_0] 2 (0, 0)) (by (with_reducible repeat (first | refine blk_drewN ?_ _ | refine blk_drew ?_ | refine blk_alloc ?_ _)); exact BK917.out) hb); have n1_ := Aside0.mk (blk_below (g := gb918) (o := .cells #[.int .i64 a0_0, .slice A0_1 l0_1.length c0_1] 37 (0, 0)) (by (with_reducible repeat (first | refine blk_drewN ?_ _ | refine blk_drew ?_ | refine blk_alloc ?_ _)); exact BK918.out) hb); have n2_ := Aside0.mk (below_step (by repeat (first | (with_reducible first | exact HB.out | apply below_alloc | apply pw_below_drewN | apply below_drew1 | refine below_set ?_ GE917.out | refine below_set ?_ GE918.out) | exact HB.out)) hb); clear BK917; clear BK918; clear HB; have BK917 := n0_; have BK918 := n1_; have HB := n2_; clear n0_ n1_ n2_; (try clear hb); (try clear hb2); (try clear hk); (try clear hi)))
   go_ret
   exact ⟨by first | rfl | (simp [errW_none, errW_some] <;> rfl) | (simp [*, errW_none, errW_some] <;> rfl), by repeat (first | (with_reducible first | exact HB.out | apply below_alloc | apply pw_below_drewN | apply below_drew1 | refine below_set ?_ GE917.out | refine below_set ?_ GE918.out) | exact HB.out)⟩
 ·replace c4 := Bool.eq_false_iff.mpr c4
  subst c4
  have H1 : (some 1) = some r := by rw [if_neg (show ¬ (false = true) by decide)] at H; exact H
  clear H
  have H := H1
  clear H1
  obtain rfl := Option.some.inj H
  go_enter Try.func65, Try.ntmps65
  go_wp2_with (first | ((with_reducible refine gate_dst (N := 2) rfl ?_); refine box_event ?hg (N := 2) ?hd (cs := #[.int .i64 a0_0, .slice A0_1 l0_1.length c0_1]) (t := 37) ?hr ?_; (case hd => rfl); (case hg => rfl); (case hr => first | (go_simp; done) | (go_simp; rfl)); intro gb918 hg w17 hbox hb; have n0_ := Aside0.mk (blk_below (g := gq1_0) (o := .cells #[.int .i64 a1_0] 2 (0, 0)) (by (with_reducible repeat (first | refine blk_drewN ?_ _ | refine blk_drew ?_ | refine blk_alloc ?_ _)); exact BK917.out) hb); have n1_ := Aside0.mk (below_step (by repeat (first | (with_reducible first | exact HB.out | apply below_alloc | apply pw_below_drewN | apply below_drew1 | refine below_set ?_ GE917.out) | exact HB.out)) hb); have n2_ := Aside0.mk (hbox); have n3_ := Aside0.mk ((by rw [hg]; exact (below_size (by repeat (first | (with_reducible first | exact HB.out | apply below_alloc | apply pw_below_drewN | apply below_drew1 | refine below_set ?_ GE917.out) | exact HB.out))) : w.heap.size ≤ gb918)); have n4_ := Aside0.mk ((by rw [hg]; exact (below_size (by repeat (first | (with_reducible first | exact HB.out | apply below_alloc | apply pw_below_drewN | apply below_drew1 | refine below_set ?_ GE917.out) | exact HB.out))) : w.heap.size ≤ gb918)); have n5_ := Aside0.mk ((by rw [hg]; exact Nat.ne_of_lt (blk_lt (g := gq1_0) (o := .cells #[.int .i64 a1_0] 2 (0, 0)) (by (with_reducible repeat (first | refine blk_drewN ?_ _ | refine blk_drew ?_ | refine blk_alloc ?_ _)); exact BK917.out)) : gq1_0 ≠ gb918)); have n6_ := Aside0.mk ((by rw [hg]; exact Nat.ne_of_gt (blk_lt (g := gq1_0) (o := .cells #[.int .i64 a1_0] 2 (0, 0)) (by (with_reducible repeat (first | refine blk_drewN ?_ _ | refine blk_drew ?_ | refine blk_alloc ?_ _)); exact BK917.out)) : gb918 ≠ gq1_0)); clear BK917; clear HB; have BK917 := n0_; have HB := n1_; have BK918 := n2_; have GW918 := n3_; have GE918 := n4_; have NB917_918 := n5_; have NB918_917 := n6_; clear n0_ n1_ n2_ n3_ n4_ n5_ n6_; clear hb hbox hg; have hnb18 := NB918_917.out; have hnc18 := NB917_918.out; have hcz19_0 : w17.cell? ⟨gb918, 0, none⟩ = some (.int .i64 a0_0) := (blk_cell BK918.out 0).trans rfl; have hcz19_1 : w17.cell? ⟨gb918, 1, none⟩ = some (.slice A0_1 l0_1.length c0_1) := (blk_cell BK918.out 1).trans rfl; have hfz19_0 := blk_frozen BK918.out 0; have hfz19_1 := blk_frozen BK918.out 1) | ((with_reducible refine gate_callee (f := 61) rfl ?_); refine goesL_ (some 7) rfl rfl Try.func61 (by kernel_rfl) rfl #[.agg #[.int .i64 a0_0, .slice A0_1 l0_1.length c0_1]] rfl (by (try simp only [List.map_toArray, List.map_cons, List.map_nil]); first | done | rfl | (simp only [List.length_drop, List.length_take]; rfl)) ?_; (with_reducible refine (impl_IsGraph.calls k a0_0 _ _ l0_1 false _ ?side1 ?side2 A3.out).mono ?_); (case side1 => repeat (first | exact (Kd.C_below HR0_1.out HB.out) | (with_reducible refine Kd.C_alloc ?_ _) | (with_reducible refine Kd.C_drewN ?_ _) | (with_reducible refine Kd.C_drew ?_))); (case side2 => exact HC0_1.out); rintro e w20 ⟨rfl, hb⟩; refine ⟨_, rfl, ?_⟩; have n0_ := Aside0.mk (blk_below (g := gq1_0) (o := .cells #[.int .i64 a1_0] 2 (0, 0)) (by (with_reducible repeat (first | refine blk_drewN ?_ _ | refine blk_drew ?_ | refine blk_alloc ?_ _)); exact BK917.out) hb); have n1_ := Aside0.mk (blk_below (g := gb918) (o := .cells #[.int .i64 a0_0, .slice A0_1 l0_1.length c0_1] 37 (0, 0)) (by (with_reducible repeat (first | refine blk_drewN ?_ _ | refine blk_drew ?_ | refine blk_alloc ?_ _)); exact BK918.out) hb); have n2_ := Aside0.mk (below_step (by repeat (first | (with_reducible first | exact HB.out | apply below_alloc | apply pw_below_drewN | apply below_drew1 | refine below_set ?_ GE917.out | refine below_set ?_ GE918.out) | exact HB.out)) hb); clear BK917; clear BK918; clear HB; have BK917 := n0_; have BK918 := n1_; have HB := n2_; clear n0_ n1_ n2_; (try clear hb); (try clear hb2); (try clear hk); (try clear hi)))
  go_ret
  exact ⟨by first | rfl | (simp [errW_none, errW_some] <;> rfl) | (simp [*, errW_none, errW_some] <;> rfl), by repeat (first | (with_reducible first | exact HB.out | apply below_alloc | apply pw_below_drewN | apply below_drew1 | refine below_set ?_ GE917.out | refine below_set ?_ GE918.out) | exact HB.out)⟩

/-! ### impl_WalkMatrix: function 44 -/
def impl_WalkMatrix.f (k : Nat) (a0_0 : Int) (l0_1 : List (List Int)) (a1 : Int) : Option ((List (List Int)) × Int) := (impl_graphCode_at_WalkMatrix_1.f k a0_0 l0_1 a1).bind fun t923 => (if t923 = 0 then ((impl_Graph_walkMatrix.f k a0_0 l0_1 a1).bind fun t924 => (some (t924, 0))) else (some (([] : List (List Int)), t923)))
theorem impl_WalkMatrix.mono : ∀ a0 a1 a2 k, LeO (impl_WalkMatrix.f k a0 a1 a2) (impl_WalkMatrix.f (k + 1) a0 a1 a2) := by
 intro a0 a1 a2 k
 unfold impl_WalkMatrix.f
 repeat' first
   | (with_reducible exact impl_Graph_walkMatrix.mono _ _ _ _)
   | (with_reducible exact impl_graphCode_at_WalkMatrix_1.mono _ _ _ _)
   | (with_reducible exact LeO.refl _)
   | (with_reducible exact LeO.none _)
   | (with_reducible refine LeO.ite ?_ ?_)
   | (with_reducible refine LeO.bind ?_ (fun _ => ?_))
set_option maxHeartbeats 8000000 in
set_option maxRecDepth 100000 in
theorem impl_WalkMatrix.calls (k : Nat) (a0_0 : Int) (A0_1 : Option Addr) (c0_1 : Nat) (l0_1 : List (List Int)) (a1 : Int) (r1 : List (List Int)) (r2 : Int) (w : World) (hr0_1 : Kd.C (Kd.slice 2 (Kd.int .i64)) w A0_1 l0_1.length l0_1) (hc0_1 : l0_1.length ≤ c0_1) (h : impl_WalkMatrix.f k a0_0 l0_1 a1 = some (r1, r2)) :
  Calls Try.prog 44 #[.agg #[.int .i64 a0_0, .slice A0_1 l0_1.length c0_1], .int .i64 a1] w fun e w' => ∃ v0_ : Value, e = .returned (.tuple #[v0_, .int .i64 r2]) ∧ Kd.S (Kd.slice 2 (Kd.int .i64)) 24 w' w.heap.size (fun _ => True) v0_ r1 ∧ Below w.heap.size w w' := by
 have hu37 := Try.underlying37
 have HR0_1 := Aside0.mk hr0_1
 have HC0_1 := Aside0.mk hc0_1
 clear hr0_1 hc0_1
 have HB := Aside0.mk (Below.refl w.heap.size w)
 have H : ((impl_graphCode_at_WalkMatrix_1.f k a0_0 l0_1 a1).bind fun t923 => (if t923 = 0 then ((impl_Graph_walkMatrix.f k a0_0 l0_1 a1).bind fun t924 => (some (t924, 0))) else (some (([] : List (List Int)), t923)))) = some (r1, r2) := h
 clear h
 replace H := Option.bind_eq_some_iff.mp H
 obtain ⟨t923, A30, H⟩ := H
 replace H : (if t923 = 0 then ((impl_Graph_walkMatrix.f k a0_0 l0_1 a1).bind fun t924 => (some (t924, 0))) else (some (([] : List (List Int)), t923))) = some (r1, r2) := H
 have A3 := Aside0.mk A30
 clear A30
 by_cases c4 : t923 = 0
 ·rw [if_pos c4] at H
  have c4b0 : (t923 == 0) = true := beq_iff_eq.mpr c4
  have c4b1 : (t923 != 0) = false := bne_eq_false_iff_eq.mpr c4
  clear c4
  replace H := Option.bind_eq_some_iff.mp H
  obtain ⟨t924, A50, H⟩ := H
  replace H : (some (t924, 0)) = some (r1, r2) := H
  have A5 := Aside0.mk A50
  clear A50
  simp only [Option.some.injEq, Prod.mk.injEq] at H
  obtain ⟨rfl, rfl⟩ := H
  go_enter Try.func44, Try.ntmps44
  go_wp2_with (first | ((with_reducible refine gate_dst (N := 2) rfl ?_); refine box_event ?hg (N := 2) ?hd (cs := #[.int .i64 a0_0, .slice A0_1 l0_1.length c0_1]) (t := 37) ?hr ?_; (case hd => rfl); (case hg => rfl); (case hr => first | (go_simp; done) | (go_simp; rfl)); intro gb921 hg w6 hbox hb; have n0_ := Aside0.mk (below_step (by repeat (first | (with_reducible first | exact HB.out | apply below_alloc | apply pw_below_drewN | apply below_drew1) | exact HB.out)) hb); have n1_ := Aside0.mk (hbox); have n2_ := Aside0.mk ((by rw [hg]; exact (below_size (by repeat (first | (with_reducible first | exact HB.out | apply below_alloc | apply pw_below_drewN | apply below_drew1) | exact HB.out))) : w.heap.size ≤ gb921)); have n3_ := Aside0.mk ((by rw [hg]; exact (below_size (by repeat (first | (with_reducible first | exact HB.out | apply below_alloc | apply pw_below_drewN | apply below_drew1) | exact HB.out))) : w.heap.size ≤ gb921)); clear HB; have HB := n0_; have BK921 := n1_; have GW921 := n2_; have GE921 := n3_; clear n0_ n1_ n2_ n3_; clear hb hbox hg) | ((with_reducible refine gate_dst (N := 3) rfl ?_); refine box_event ?hg (N := 3) ?hd (cs := #[.int .i64 a1]) (t := 2) ?hr ?_; (case hd => rfl); (case hg => rfl); (case hr => first | (go_simp; done) | (go_simp; rfl)); intro gb922 hg w7 hbox hb; have n0_ := Aside0.mk (blk_below (g := gb921) (o := .cells #[.int .i64 a0_0, .slice A0_1 l0_1.length c0_1] 37 (0, 0)) (by (with_reducible repeat (first | refine blk_drewN ?_ _ | refine blk_drew ?_ | refine blk_alloc ?_ _)); exact BK921.out) hb); have n1_ := Aside0.mk (below_step (by repeat (first | (with_reducible first | exact HB.out | apply below_alloc | apply pw_below_drewN | apply below_drew1 | refine below_set ?_ GE921.out) | exact HB.out)) hb); have n2_ := Aside0.mk (hbox); have n3_ := Aside0.mk ((by rw [hg]; exact (below_size (by repeat (first | (with_reducible first | exact HB.out | apply below_alloc | apply pw_below_drewN | apply below_drew1 | refine below_set ?_ GE921.out) | exact HB.out))) : w.heap.size ≤ gb922)); have n4_ := Aside0.mk ((by rw [hg]; exact (below_size (by repeat (first | (with_reducible first | exact HB.out | apply below_alloc | apply pw_below_drewN | apply below_drew1 | refine below_set ?_ GE921.out) | exact HB.out))) : w.heap.size ≤ gb922)); have n5_ := Aside0.mk ((by rw [hg]; exact Nat.ne_of_lt (blk_lt (g := gb921) (o := .cells #[.int .i64 a0_0, .slice A0_1 l0_1.length c0_1] 37 (0, 0)) (by (with_reducible repeat (first | refine blk_drewN ?_ _ | refine blk_drew ?_ | refine blk_alloc ?_ _)); exact BK921.out)) : gb921 ≠ gb922)); have n6_ := Aside0.mk ((by rw [hg]; exact Nat.ne_of_gt (blk_lt (g := gb921) (o := .cells #[.int .i64 a0_0, .slice A0_1 l0_1.length c0_1] 37 (0, 0)) (by (with_reducible repeat (first | refine blk_drewN ?_ _ | refine blk_drew ?_ | refine blk_alloc ?_ _)); exact BK921.out)) : gb922 ≠ gb921)); clear BK921; clear HB; have BK921 := n0_; have HB := n1_; have BK922 := n2_; have GW922 := n3_; have GE922 := n4_; have NB921_922 := n5_; have NB922_921 := n6_; clear n0_ n1_ n2_ n3_ n4_ n5_ n6_; clear hb hbox hg; have hnb8 := NB921_922.out; have hnc8 := NB922_921.out; have hcz9_0 : w7.cell? ⟨gb921, 0, none⟩ = some (.int .i64 a0_0) := (blk_cell BK921.out 0).trans rfl; have hcz9_1 : w7.cell? ⟨gb921, 1, none⟩ = some (.slice A0_1 l0_1.length c0_1) := (blk_cell BK921.out 1).trans rfl; have hfz9_0 := blk_frozen BK921.out 0; have hfz9_1 := blk_frozen BK921.out 1) | ((with_reducible refine gate_callee (f := 65) rfl ?_); refine goesL_ (some 9) rfl rfl Try.func65 (by kernel_rfl) rfl #[.agg #[.int .i64 a0_0, .slice A0_1 l0_1.length c0_1], .func (.func 91) #[] #[.pointer (some ⟨gb922, 0, none⟩)]] rfl (by (try simp only [List.map_toArray, List.map_cons, List.map_nil]); first | done | rfl | (simp only [List.length_drop, List.length_take]; rfl)) ?_; (with_reducible refine (impl_graphCode_at_WalkMatrix_1.calls k a0_0 _ _ l0_1 gb922 a1 t923 _ ?side1 ?side2 ?side3 A3.out).mono ?_); (case side1 => repeat (first | exact (Kd.C_below HR0_1.out HB.out) | (with_reducible refine Kd.C_alloc ?_ _) | (with_reducible refine Kd.C_drewN ?_ _) | (with_reducible refine Kd.C_drew ?_))); (case side2 => exact HC0_1.out); (case side3 => exact (by (with_reducible repeat (first | refine blk_drewN ?_ _ | refine blk_drew ?_ | refine blk_alloc ?_ _)); exact BK922.out)); rintro e w10 ⟨rfl, hb⟩; refine ⟨_, rfl, ?_⟩; have n0_ := Aside0.mk (blk_below (g := gb921) (o := .cells #[.int .i64 a0_0, .slice A0_1 l0_1.length c0_1] 37 (0, 0)) (by (with_reducible repeat (first | refine blk_drewN ?_ _ | refine blk_drew ?_ | refine blk_alloc ?_ _)); exact BK921.out) hb); have n1_ := Aside0.mk (blk_below (g := gb922) (o := .cells #[.int .i64 a1] 2 (0, 0)) (by (with_reducible repeat (first | refine blk_drewN ?_ _ | refine blk_drew ?_ | refine blk_alloc ?_ _)); exact BK922.out) hb); have n2_ := Aside0.mk (below_step (by repeat (first | (with_reducible first | exact HB.out | apply below_alloc | apply pw_below_drewN | apply below_drew1 | refine below_set ?_ GE921.out | refine below_set ?_ GE922.out) | exact HB.out)) hb); clear BK921; clear BK922; clear HB; have BK921 := n0_; have BK922 := n1_; have HB := n2_; clear n0_ n1_ n2_; (try clear hb); (try clear hb2); (try clear hk); (try clear hi); have hcz11_0 : w10.cell? ⟨gb921, 0, none⟩ = some (.int .i64 a0_0) := (blk_cell BK921.out 0).trans rfl; have hcz11_1 : w10.cell? ⟨gb921, 1, none⟩ = some (.slice A0_1 l0_1.length c0_1) := (blk_cell BK921.out 1).trans rfl; have hfz11_0 := blk_frozen BK921.out 0; have hfz11_1 := blk_frozen BK921.out 1; have hcz12_0 : w10.cell? ⟨gb922, 0, none⟩ = some (.int .i64 a1) := (blk_cell BK922.out 0).trans rfl; have hfz12_0 := blk_frozen BK922.out 0) | ((with_reducible refine gate_callee (f := 92) rfl ?_); refine goesL_ (some 15) rfl rfl Try.func92 (by kernel_rfl) rfl #[.agg #[.int .i64 a0_0, .slice A0_1 l0_1.length c0_1], .int .i64 a1] rfl (by (try simp only [List.map_toArray, List.map_cons, List.map_nil]); first | done | rfl | (simp only [List.length_drop, List.length_take]; rfl)) ?_; (with_reducible refine (impl_Graph_walkMatrix.calls k a0_0 _ _ l0_1 a1 t924 _ ?side1 ?side2 A5.out).mono ?_); (case side1 => repeat (first | exact (Kd.C_below HR0_1.out HB.out) | (with_reducible refine Kd.C_alloc ?_ _) | (with_reducible refine Kd.C_drewN ?_ _) | (with_reducible refine Kd.C_drew ?_))); (case side2 => exact HC0_1.out); rintro e w13 ⟨v925, rfl, ho0, hb⟩; refine ⟨_, rfl, ?_⟩; have n0_ := Aside0.mk (Kd.S_lower (Kd.S_newB ho0 (g := gb922) (o := .cells #[.int .i64 a1] 2 (0, 0)) (by (with_reducible repeat (first | refine blk_drewN ?_ _ | refine blk_drew ?_ | refine blk_alloc ?_ _)); exact BK922.out)) (below_size (by repeat (first | (with_reducible first | exact HB.out | apply below_alloc | apply pw_below_drewN | apply below_drew1 | refine below_set ?_ GE921.out | refine below_set ?_ GE922.out) | exact HB.out)))); have n1_ := Aside0.mk (blk_below (g := gb921) (o := .cells #[.int .i64 a0_0, .slice A0_1 l0_1.length c0_1] 37 (0, 0)) (by (with_reducible repeat (first | refine blk_drewN ?_ _ | refine blk_drew ?_ | refine blk_alloc ?_ _)); exact BK921.out) hb); have n2_ := Aside0.mk (blk_below (g := gb922) (o := .cells #[.int .i64 a1] 2 (0, 0)) (by (with_reducible repeat (first | refine blk_drewN ?_ _ | refine blk_drew ?_ | refine blk_alloc ?_ _)); exact BK922.out) hb); have n3_ := Aside0.mk (below_step (by repeat (first | (with_reducible first | exact HB.out | apply below_alloc | apply pw_below_drewN | apply below_drew1 | refine below_set ?_ GE921.out | refine below_set ?_ GE922.out) | exact HB.out)) hb); clear BK921; clear BK922; clear HB; have HO926 := n0_; have BK921 := n1_; have BK922 := n2_; have HB := n3_; clear n0_ n1_ n2_ n3_; (try clear hb); (try clear hb2); (try clear hk); (try clear hi); (try clear ho0)))
  go_ret2
  exact ⟨_, by first | rfl | (simp [errW_none, errW_some] <;> rfl) | (simp [*, errW_none, errW_some] <;> rfl), by (with_reducible repeat (first | apply Kd.S_alloc | apply Kd.S_drewN | apply Kd.S_drew)); exact Kd.S_mono HO926.out (fun _ hk => trivial), by repeat (first | (with_reducible first | exact HB.out | apply below_alloc | apply pw_below_drewN | apply below_drew1 | refine below_set ?_ GE921.out | refine below_set ?_ GE922.out) | exact HB.out)⟩
 ·rw [if_neg c4] at H
  have c4b0 : (t923 == 0) = false := beq_eq_false_iff_ne.mpr c4
  have c4b1 : (t923 != 0) = true := bne_iff_ne.mpr c4
  simp only [Option.some.injEq, Prod.mk.injEq] at H
  obtain ⟨rfl, rfl⟩ := H
  go_enter Try.func44, Try.ntmps44
  go_wp2_with (first | ((with_reducible refine gate_dst (N := 2) rfl ?_); refine box_event ?hg (N := 2) ?hd (cs := #[.int .i64 a0_0, .slice A0_1 l0_1.length c0_1]) (t := 37) ?hr ?_; (case hd => rfl); (case hg => rfl); (case hr => first | (go_simp; done) | (go_simp; rfl)); intro gb921 hg w14 hbox hb; have n0_ := Aside0.mk (below_step (by repeat (first | (with_reducible first | exact HB.out | apply below_alloc | apply pw_below_drewN | apply below_drew1) | exact HB.out)) hb); have n1_ := Aside0.mk (hbox); have n2_ := Aside0.mk ((by rw [hg]; exact (below_size (by repeat (first | (with_reducible first | exact HB.out | apply below_alloc | apply pw_below_drewN | apply below_drew1) | exact HB.out))) : w.heap.size ≤ gb921)); have n3_ := Aside0.mk ((by rw [hg]; exact (below_size (by repeat (first | (with_reducible first | exact HB.out | apply below_alloc | apply pw_below_drewN | apply below_drew1) | exact HB.out))) : w.heap.size ≤ gb921)); clear HB; have HB := n0_; have BK921 := n1_; have GW921 := n2_; have GE921 := n3_; clear n0_ n1_ n2_ n3_; clear hb hbox hg) | ((with_reducible refine gate_dst (N := 3) rfl ?_); refine box_event ?hg (N := 3) ?hd (cs := #[.int .i64 a1]) (t := 2) ?hr ?_; (case hd => rfl); (case hg => rfl); (case hr => first | (go_simp; done) | (go_simp; rfl)); intro gb922 hg w15 hbox hb; have n0_ := Aside0.mk (blk_below (g := gb921) (o := .cells #[.int .i64 a0_0, .slice A0_1 l0_1.length c0_1] 37 (0, 0)) (by (with_reducible repeat (first | refine blk_drewN ?_ _ | refine blk_drew ?_ | refine blk_alloc ?_ _)); exact BK921.out) hb); have n1_ := Aside0.mk (below_step (by repeat (first | (with_reducible first | exact HB.out | apply below_alloc | apply pw_below_drewN | apply below_drew1 | refine below_set ?_ GE921.out) | exact HB.out)) hb); have n2_ := Aside0.mk (hbox); have n3_ := Aside0.mk ((by rw [hg]; exact (below_size (by repeat (first | (with_reducible first | exact HB.out | apply below_alloc | apply pw_below_drewN | apply below_drew1 | refine below_set ?_ GE921.out) | exact HB.out))) : w.heap.size ≤ gb922)); have n4_ := Aside0.mk ((by rw [hg]; exact (below_size (by repeat (first | (with_reducible first | exact HB.out | apply below_alloc | apply pw_below_drewN | apply below_drew1 | refine below_set ?_ GE921.out) | exact HB.out))) : w.heap.size ≤ gb922)); have n5_ := Aside0.mk ((by rw [hg]; exact Nat.ne_of_lt (blk_lt (g := gb921) (o := .cells #[.int .i64 a0_0, .slice A0_1 l0_1.length c0_1] 37 (0, 0)) (by (with_reducible repeat (first | refine blk_drewN ?_ _ | refine blk_drew ?_ | refine blk_alloc ?_ _)); exact BK921.out)) : gb921 ≠ gb922)); have n6_ := Aside0.mk ((by rw [hg]; exact Nat.ne_of_gt (blk_lt (g := gb921) (o := .cells #[.int .i64 a0_0, .slice A0_1 l0_1.length c0_1] 37 (0, 0)) (by (with_reducible repeat (first | refine blk_drewN ?_ _ | refine blk_drew ?_ | refine blk_alloc ?_ _)); exact BK921.out)) : gb922 ≠ gb921)); clear BK921; clear HB; have BK921 := n0_; have HB := n1_; have BK922 := n2_; have GW922 := n3_; have GE922 := n4_; have NB921_922 := n5_; have NB922_921 := n6_; clear n0_ n1_ n2_ n3_ n4_ n5_ n6_; clear hb hbox hg; have hnb16 := NB921_922.out; have hnc16 := NB922_921.out; have hcz17_0 : w15.cell? ⟨gb921, 0, none⟩ = some (.int .i64 a0_0) := (blk_cell BK921.out 0).trans rfl; have hcz17_1 : w15.cell? ⟨gb921, 1, none⟩ = some (.slice A0_1 l0_1.length c0_1) := (blk_cell BK921.out 1).trans rfl; have hfz17_0 := blk_frozen BK921.out 0; have hfz17_1 := blk_frozen BK921.out 1) | ((with_reducible refine gate_callee (f := 65) rfl ?_); refine goesL_ (some 9) rfl rfl Try.func65 (by kernel_rfl) rfl #[.agg #[.int .i64 a0_0, .slice A0_1 l0_1.length c0_1], .func (.func 91) #[] #[.pointer (some ⟨gb922, 0, none⟩)]] rfl (by (try simp only [List.map_toArray, List.map_cons, List.map_nil]); first | done | rfl | (simp only [List.length_drop, List.length_take]; rfl)) ?_; (with_reducible refine (impl_graphCode_at_WalkMatrix_1.calls k a0_0 _ _ l0_1 gb922 a1 t923 _ ?side1 ?side2 ?side3 A3.out).mono ?_); (case side1 => repeat (first | exact (Kd.C_below HR0_1.out HB.out) | (with_reducible refine Kd.C_alloc ?_ _) | (with_reducible refine Kd.C_drewN ?_ _) | (with_reducible refine Kd.C_drew ?_))); (case side2 => exact HC0_1.out); (case side3 => exact (by (with_reducible repeat (first | refine blk_drewN ?_ _ | refine blk_drew ?_ | refine blk_alloc ?_ _)); exact BK922.out)); rintro e w18 ⟨rfl, hb⟩; refine ⟨_, rfl, ?_⟩; have n0_ := Aside0.mk (blk_below (g := gb921) (o := .cells #[.int .i64 a0_0, .slice A0_1 l0_1.length c0_1] 37 (0, 0)) (by (with_reducible repeat (first | refine blk_drewN ?_ _ | refine blk_drew ?_ | refine blk_alloc ?_ _)); exact BK921.out) hb); have n1_ := Aside0.mk (blk_below (g := gb922) (o := .cells #[.int .i64 a1] 2 (0, 0)) (by (with_reducible repeat (first | refine blk_drewN ?_ _ | refine blk_drew ?_ | refine blk_alloc ?_ _)); exact BK922.out) hb); have n2_ := Aside0.mk (below_step (by repeat (first | (with_reducible first | exact HB.out | apply below_alloc | apply pw_below_drewN | apply below_drew1 | refine below_set ?_ GE921.out | refine below_set ?_ GE922.out) | exact HB.out)) hb); clear BK921; clear BK922; clear HB; have BK921 := n0_; have BK922 := n1_; have HB := n2_; clear n0_ n1_ n2_; (try clear hb); (try clear hb2); (try clear hk); (try clear hi)))
  go_ret2
  exact ⟨_, by first | rfl | (simp [errW_none, errW_some] <;> rfl) | (simp [*, errW_none, errW_some] <;> rfl), by first | exact Kd.S_nil _ _ _ _ _ | exact Kd.N_nil _ _ _ _ _ | exact Kd.V_nil _ _ _ _ _ | exact Kd.Q_nil _ _ _ _ _ | exact Kd.R_nil _ _ _ _ _, by repeat (first | (with_reducible first | exact HB.out | apply below_alloc | apply pw_below_drewN | apply below_drew1 | refine below_set ?_ GE921.out | refine below_set ?_ GE922.out) | exact HB.out)⟩

/-! ### laws_heldInt64SS: function 45 -/
def laws_heldInt64SS.l0 : Nat → List (List Int) → Int → Int → Option (Int)
 | 0, _, _, _ => none
 | k + 1, x0, x1, x5 => if x5 < (x0.length : Int) then (if 0 ≤ x5 then ((laws_heldInt64S.f k (rd_L1 x0 x5) x1).bind fun t928 => (if t928 < 0 then (some (-1)) else (laws_heldInt64SS.l0 k x0 t928 (wrap64 (x5 + 1))))) else (none)) else (some x1)
def laws_heldInt64SS.f (k : Nat) (l0 : List (List Int)) (a1 : Int) : Option (Int) := laws_heldInt64SS.l0 k l0 a1 0
theorem laws_heldInt64SS.mono_l : ∀ k, (∀ y0 y1 y2, LeO (laws_heldInt64SS.l0 k y0 y1 y2) (laws_heldInt64SS.l0 (k + 1) y0 y1 y2))
 | 0 => fun _ _ _ r h => by simp [laws_heldInt64SS.l0] at h
 | k + 1 => by
  have ih0 := laws_heldInt64SS.mono_l k
  ·intro y0 y1 y2
   unfold laws_heldInt64SS.l0
   repeat' first
   | (with_reducible exact ih0 _ _ _)
   | (with_reducible exact laws_heldInt64S.mono _ _ _)
   | (with_reducible exact LeO.refl _)
   | (with_reducible exact LeO.none _)
   | (with_reducible refine LeO.ite ?_ ?_)
   | (with_reducible refine LeO.bind ?_ (fun _ => ?_))
theorem laws_heldInt64SS.mono : ∀ a0 a1 k, LeO (laws_heldInt64SS.f k a0 a1) (laws_heldInt64SS.f (k + 1) a0 a1) := by
 intro a0 a1 k
 have ih0 := laws_heldInt64SS.mono_l k
 unfold laws_heldInt64SS.f
 repeat' first
   | (with_reducible exact ih0 _ _ _)
   | (with_reducible exact laws_heldInt64S.mono _ _ _)
   | (with_reducible exact LeO.refl _)
   | (with_reducible exact LeO.none _)
   | (with_reducible refine LeO.ite ?_ ?_)
   | (with_reducible refine LeO.bind ?_ (fun _ => ?_))
set_option maxHeartbeats 8000000 in
set_option maxRecDepth 100000 in
theorem laws_heldInt64SS.calls (k : Nat) (A0 : Option Addr) (c0 : Nat) (l0 : List (List Int)) (a1 : Int) (r : Int) (w : World) (hr0 : Kd.C (Kd.slice 2 (Kd.int .i64)) w A0 l0.length l0) (hc0 : l0.length ≤ c0) (h : laws_heldInt64SS.f k l0 a1 = some r) :
  Calls Try.prog 45 #[.slice A0 l0.length c0, .int .i64 a1] w fun e w' => e = .returned (.int .i64 r) ∧ Drawn0 w w' := by
 have HR0 := Aside0.mk hr0
 have HC0 := Aside0.mk hc0
 clear hr0 hc0
 have H : (laws_heldInt64SS.l0 k l0 a1 0) = some r := h
 clear h
 have H' := Aside0.mk H
 clear H
 go_enter Try.func45, Try.ntmps45
 go_wp2
 go_loopg [1, 5] k (fun kq v1 v5 w' => ∃ (x1_1 : Int) (x5_1 : Int), v1 = .int .i64 x1_1 ∧ v5 = .int .i64 x5_1 ∧ Aside0 (laws_heldInt64SS.l0 kq l0 x1_1 x5_1 = some r) ∧ Aside0 (kq ≤ k) ∧ Drawn0 w w')
 case atStart => exact ⟨(a1), (0), (by first | rfl | (simp; done) | (simp [*]; done)), (by first | rfl | (simp; done) | (simp [*]; done)), H', ⟨Nat.le_refl _⟩, by repeat (first | exact Drawn0.refl _ | apply Drawn0.step)⟩
 case round =>
  clear H'
  try clear p2
  obtain ⟨x1_1, x5_1, rfl, rfl, HA, HK1, ⟨m1, rfl⟩⟩ := hrel
  cases gk with
  | zero => exact absurd HA.out (by simp [laws_heldInt64SS.l0])
  | succ k1 =>
   have H := HA.out
   clear HA
   simp only [laws_heldInt64SS.l0] at H
   by_cases c3 : x5_1 < (l0.length : Int)
   ·rw [if_pos c3] at H
    have c3b0 : decide (x5_1 < (l0.length : Int)) = true := decide_eq_true c3
    clear c3
    by_cases c4 : 0 ≤ x5_1
    ·rw [if_pos c4] at H
     have c4b0 : decide (0 ≤ x5_1) = true := decide_eq_true c4
     clear c4
     replace H := Option.bind_eq_some_iff.mp H
     obtain ⟨t928, A50, H⟩ := H
     replace H : (if t928 < 0 then (some (-1)) else (laws_heldInt64SS.l0 k1 l0 t928 (wrap64 (x5_1 + 1)))) = some r := H
     have A5 := Aside0.mk A50
     clear A50
     by_cases c6 : t928 < 0
     ·rw [if_pos c6] at H
      have c6b0 : decide (t928 < 0) = true := decide_eq_true c6
      clear c6
      obtain rfl := Option.some.inj H
      have p927 : 0 ≤ (x5_1 : Int) := of_decide_eq_true (by assumption)
      have q927 : x5_1 < (l0.length : Int) := of_decide_eq_true (by assumption)
      obtain ⟨ad927, A927_0, c927_0, e927, hx927_0, hl927_0, hi927_0⟩ := at_L1 HR0.out x5_1 p927 q927
      cases e927
      have HR927_0 := Aside0.mk hi927_0
      have HC927_0 := Aside0.mk hl927_0
      clear hi927_0 hl927_0
      replace p927 := eq_true p927
      replace q927 := eq_true q927
      go_wp2_with (first | ((with_reducible refine gate_callee (f := 23) rfl ?_); refine goesL_ (some 17) rfl rfl Try.func23 (by kernel_rfl) rfl #[.slice A927_0 (rd_L1 l0 x5_1).length c927_0, .int .i64 x1_1] rfl (by (try simp only [List.map_toArray, List.map_cons, List.map_nil]); first | done | rfl | (simp only [List.length_drop, List.length_take]; rfl)) ?_; (with_reducible refine (laws_heldInt64S.calls k1 _ _ (rd_L1 l0 x5_1) x1_1 t928 _ ?side1 ?side2 A5.out).mono ?_); (case side1 => repeat (first | exact HR927_0.out | (with_reducible refine Kd.C_alloc ?_ _) | (with_reducible refine Kd.C_drewN ?_ _) | (with_reducible refine Kd.C_drew ?_))); (case side2 => exact HC927_0.out); rintro e w' ⟨rfl, ⟨nd, rfl⟩⟩; refine ⟨_, rfl, ?_⟩))
      go_ret
      exact ⟨by first | rfl | (simp; done) | (simp [*]; done), by repeat (first | exact Drawn0.refl _ | apply Drawn0.step)⟩
     ·rw [if_neg c6] at H
      have c6b0 : decide (t928 < 0) = false := decide_eq_false c6
      clear c6
      have H' := Aside0.mk H
      clear H
      have p927 : 0 ≤ (x5_1 : Int) := of_decide_eq_true (by assumption)
      have q927 : x5_1 < (l0.length : Int) := of_decide_eq_true (by assumption)
      obtain ⟨ad927, A927_0, c927_0, e927, hx927_0, hl927_0, hi927_0⟩ := at_L1 HR0.out x5_1 p927 q927
      cases e927
      have HR927_0 := Aside0.mk hi927_0
      have HC927_0 := Aside0.mk hl927_0
      clear hi927_0 hl927_0
      replace p927 := eq_true p927
      replace q927 := eq_true q927
      go_wp2_with (first | ((with_reducible refine gate_callee (f := 23) rfl ?_); refine goesL_ (some 17) rfl rfl Try.func23 (by kernel_rfl) rfl #[.slice A927_0 (rd_L1 l0 x5_1).length c927_0, .int .i64 x1_1] rfl (by (try simp only [List.map_toArray, List.map_cons, List.map_nil]); first | done | rfl | (simp only [List.length_drop, List.length_take]; rfl)) ?_; (with_reducible refine (laws_heldInt64S.calls k1 _ _ (rd_L1 l0 x5_1) x1_1 t928 _ ?side1 ?side2 A5.out).mono ?_); (case side1 => repeat (first | exact HR927_0.out | (with_reducible refine Kd.C_alloc ?_ _) | (with_reducible refine Kd.C_drewN ?_ _) | (with_reducible refine Kd.C_drew ?_))); (case side2 => exact HC927_0.out); rintro e w' ⟨rfl, ⟨nd, rfl⟩⟩; refine ⟨_, rfl, ?_⟩))
      go_roundg k1
      case measure => have := HK1.out; omega
      case rel => exact ⟨(t928), (wrap64 (x5_1 + 1)), (by first | rfl | (simp; done) | (simp [*]; done)), (by first | rfl | (simp; done) | (simp [*]; done)), H', ⟨by have := HK1.out; omega⟩, by repeat (first | exact Drawn0.refl _ | apply Drawn0.step)⟩
    ·rw [if_neg c4] at H
     exact absurd H (by simp)
   ·rw [if_neg c3] at H
    have c3b0 : decide (x5_1 < (l0.length : Int)) = false := decide_eq_false c3
    clear c3
    obtain rfl := Option.some.inj H
    go_wp2
    go_ret
    exact ⟨by first | rfl | (simp; done) | (simp [*]; done), by repeat (first | exact Drawn0.refl _ | apply Drawn0.step)⟩

end Go.Proofs.Yteeoehohocoecaa.G
