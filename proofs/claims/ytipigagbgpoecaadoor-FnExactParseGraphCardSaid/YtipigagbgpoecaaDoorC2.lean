/- The printed functions that this law reaches, and their contracts: part 2. -/
-- printed by this repo's wip/printer out of the kit's print with its own changes
import Derived.Test.YtipigagbgpoecaaDoorC1
namespace Go.Proofs.YtipigagbgpoecaaDoor.G
open Go.RowKit Go.Proofs.YtipigagbgpoecaaDoorW.PrintWords Go.Proofs.YtipigagbgpoecaaDoorW.PrintLast Go.Proofs.YtipigagbgpoecaaDoorW.PrintMore
attribute [local go_sem] max2_int min2_int max_two min_two max_three min_three max_four min_four   -- for this text's walks alone
set_option linter.unusedVariables false
set_option linter.unusedSimpArgs false

/-! ### impl_ParseGraph: function 12 -/
mutual
def impl_ParseGraph.j0 : Nat → ByteArray → ByteArray → ByteArray → Bool → Option (Int × (List (List Int)) × Int)
 | 0, _, _, _, _ => none
 | k + 1, x0, x4, x5, x23 => if x23 = true then (some (0, ([] : List (List Int)), 6)) else (if 0 < (x4.size : Int) then ((strings_Split.f k x5 (⟨#[44]⟩ : ByteArray)).bind fun t307 => (impl_ParseGraph.l0 k x0 x5 t307 (t307.length : Int) 0 (wrap64 ((wrap64 (bt x4 0)) - 48)) ([] : List (List Int)))) else (none))
def impl_ParseGraph.j2 : Nat → ByteArray → Int → List (List Int) → Option (Int × (List (List Int)) × Int)
 | 0, _, _, _ => none
 | k + 1, x0, x307000, x307001 => (impl_IsGraph.f k x307000 x307001).bind fun t317 => (if t317 = true then ((impl_graphText.f k x307000 x307001).bind fun t318 => (if t318.toList = x0.toList then (some (x307000, x307001, 0)) else (some (0, ([] : List (List Int)), 6)))) else (some (0, ([] : List (List Int)), 6)))
def impl_ParseGraph.l0 : Nat → ByteArray → ByteArray → List ByteArray → Int → Int → Int → List (List Int) → Option (Int × (List (List Int)) × Int)
 | 0, _, _, _, _, _, _, _ => none
 | k + 1, x0, x5, x31, x32, x33, x307000, x307001 => if x33 < x32 then (if 0 ≤ x33 then (if x33 < (x31.length : Int) then (if x5.toList = ([] : List UInt8) then (impl_ParseGraph.j2 k x0 x307000 x307001) else (if ((rdOf ByteArray.empty x31 x33).size : Int) = 3 then (if 0 < ((rdOf ByteArray.empty x31 x33).size : Int) then (if 2 < ((rdOf ByteArray.empty x31 x33).size : Int) then (if x307001.length < 5864062014805 then (impl_ParseGraph.l0 k x0 x5 x31 x32 (wrap64 (x33 + 1)) x307000 (x307001 ++ [(([wrap64 ((wrap64 (bt (rdOf ByteArray.empty x31 x33) 0)) - 48), wrap64 ((wrap64 (bt (rdOf ByteArray.empty x31 x33) 2)) - 48)] : List Int))])) else (none)) else (none)) else (none)) else (some (0, ([] : List (List Int)), 6)))) else (none)) else (none)) else (impl_ParseGraph.j2 k x0 x307000 x307001)
end
def impl_ParseGraph.f (k : Nat) (a0 : ByteArray) : Option (Int × (List (List Int)) × Int) := (strings_Cut.f a0 (⟨#[58]⟩ : ByteArray)).bind fun bt303 => (if (bt303.1.size : Int) = 1 then (impl_ParseGraph.j0 k a0 bt303.1 bt303.2.1 (decide ((bt303.2.1.size : Int) > 40))) else (impl_ParseGraph.j0 k a0 bt303.1 bt303.2.1 true))
theorem impl_ParseGraph.mono_l : ∀ k, (∀ y0 y1 y2 y3, LeO (impl_ParseGraph.j0 k y0 y1 y2 y3) (impl_ParseGraph.j0 (k + 1) y0 y1 y2 y3)) ∧ (∀ y0 y1 y2, LeO (impl_ParseGraph.j2 k y0 y1 y2) (impl_ParseGraph.j2 (k + 1) y0 y1 y2)) ∧ (∀ y0 y1 y2 y3 y4 y5 y6, LeO (impl_ParseGraph.l0 k y0 y1 y2 y3 y4 y5 y6) (impl_ParseGraph.l0 (k + 1) y0 y1 y2 y3 y4 y5 y6))
 | 0 => ⟨fun _ _ _ _ r h => by simp [impl_ParseGraph.j0] at h, fun _ _ _ r h => by simp [impl_ParseGraph.j2] at h, fun _ _ _ _ _ _ _ r h => by simp [impl_ParseGraph.l0] at h⟩
 | k + 1 => by
  obtain ⟨ih0, ih1, ih2⟩ := impl_ParseGraph.mono_l k
  refine ⟨?_, ?_, ?_⟩
  ·intro y0 y1 y2 y3
   unfold impl_ParseGraph.j0
   repeat' first
   | (with_reducible exact ih0 _ _ _ _)
   | (with_reducible exact ih1 _ _ _)
   | (with_reducible exact ih2 _ _ _ _ _ _ _)
   | (with_reducible exact impl_IsGraph.mono _ _ _)
   | (with_reducible exact impl_graphText.mono _ _ _)
   | (with_reducible exact strings_Split.mono _ _ _)
   | (with_reducible exact LeO.refl _)
   | (with_reducible exact LeO.none _)
   | (with_reducible refine LeO.ite ?_ ?_)
   | (with_reducible refine LeO.bind ?_ (fun _ => ?_))
  ·intro y0 y1 y2
   unfold impl_ParseGraph.j2
   repeat' first
   | (with_reducible exact ih0 _ _ _ _)
   | (with_reducible exact ih1 _ _ _)
   | (with_reducible exact ih2 _ _ _ _ _ _ _)
   | (with_reducible exact impl_IsGraph.mono _ _ _)
   | (with_reducible exact impl_graphText.mono _ _ _)
   | (with_reducible exact strings_Split.mono _ _ _)
   | (with_reducible exact LeO.refl _)
   | (with_reducible exact LeO.none _)
   | (with_reducible refine LeO.ite ?_ ?_)
   | (with_reducible refine LeO.bind ?_ (fun _ => ?_))
  ·intro y0 y1 y2 y3 y4 y5 y6
   unfold impl_ParseGraph.l0
   repeat' first
   | (with_reducible exact ih0 _ _ _ _)
   | (with_reducible exact ih1 _ _ _)
   | (with_reducible exact ih2 _ _ _ _ _ _ _)
   | (with_reducible exact impl_IsGraph.mono _ _ _)
   | (with_reducible exact impl_graphText.mono _ _ _)
   | (with_reducible exact strings_Split.mono _ _ _)
   | (with_reducible exact LeO.refl _)
   | (with_reducible exact LeO.none _)
   | (with_reducible refine LeO.ite ?_ ?_)
   | (with_reducible refine LeO.bind ?_ (fun _ => ?_))
theorem impl_ParseGraph.mono : ∀ a0 k, LeO (impl_ParseGraph.f k a0) (impl_ParseGraph.f (k + 1) a0) := by
 intro a0 k
 obtain ⟨ih0, ih1, ih2⟩ := impl_ParseGraph.mono_l k
 unfold impl_ParseGraph.f
 repeat' first
   | (with_reducible exact ih0 _ _ _ _)
   | (with_reducible exact ih1 _ _ _)
   | (with_reducible exact ih2 _ _ _ _ _ _ _)
   | (with_reducible exact impl_IsGraph.mono _ _ _)
   | (with_reducible exact impl_graphText.mono _ _ _)
   | (with_reducible exact strings_Split.mono _ _ _)
   | (with_reducible exact LeO.refl _)
   | (with_reducible exact LeO.none _)
   | (with_reducible refine LeO.ite ?_ ?_)
   | (with_reducible refine LeO.bind ?_ (fun _ => ?_))
def impl_ParseGraph.T11 : Bool × List (List Nat × List Nat) := (true, [([], []), ([0], [0]), ([], []), ([2], [2]), ([3], [3]), ([4], [4]), ([], []), ([6], [6]), ([7], [7]), ([8], [8]), ([5, 9], [5, 9]), ([10], [10]), ([1, 11], [1, 11]), ([0, 1, 2, 3, 4, 5, 6, 7, 8, 9, 10, 11, 12], []), ([13, 12, 12, 0, 1, 2, 3, 4, 5, 6, 7, 8, 9, 10, 11, 12], [12, 13])])
def impl_ParseGraph.B11 : List Nat := [0, 1, 0, 4, 12, 28, 0, 64, 192, 448, 1020, 2044, 4095, 8191, 16383]
theorem impl_ParseGraph.tab11 : rtab .any (opsOf Tryd.f12 11) = impl_ParseGraph.T11 := by kernel_rfl
theorem impl_ParseGraph.bits11 : waitsOk impl_ParseGraph.T11.2 impl_ParseGraph.B11 = true := by kernel_rfl
set_option maxHeartbeats 8000000 in
set_option maxRecDepth 100000 in
theorem impl_ParseGraph.calls (k : Nat) (a0 : ByteArray) (r1 : Int) (r2 : List (List Int)) (r3 : Int) (w : World) (h : impl_ParseGraph.f k a0 = some (r1, r2, r3)) :
  Calls Tryd.prog 12 #[.string a0] w fun e w' => ∃ v1_ : Value, e = .returned (.tuple #[.agg #[.int .i64 r1, v1_], .int .i64 r3]) ∧ Kd.S (Kd.slice 2 (Kd.int .i64)) 47 w' w.heap.size (fun _ => True) v1_ r2 ∧ Below w.heap.size w w' := by
 have hu28 := Tryd.underlying28
 have HB := Aside0.mk (Below.refl w.heap.size w)
 have H : ((strings_Cut.f a0 (⟨#[58]⟩ : ByteArray)).bind fun bt303 => (if (bt303.1.size : Int) = 1 then (impl_ParseGraph.j0 k a0 bt303.1 bt303.2.1 (decide ((bt303.2.1.size : Int) > 40))) else (impl_ParseGraph.j0 k a0 bt303.1 bt303.2.1 true))) = some (r1, r2, r3) := h
 clear h
 replace H := Option.bind_eq_some_iff.mp H
 obtain ⟨⟨t303, t304, t305⟩, A20, H⟩ := H
 replace H : (if (t303.size : Int) = 1 then (impl_ParseGraph.j0 k a0 t303 t304 (decide ((t304.size : Int) > 40))) else (impl_ParseGraph.j0 k a0 t303 t304 true)) = some (r1, r2, r3) := H
 have A2 := Aside0.mk A20
 clear A20
 have HC3 := Aside0.mk H
 clear H
 go_enter Tryd.func12, Tryd.ntmps12
 go_upto_region 2 with (first | ((with_reducible refine gate_dst (N := 2) rfl ?_); (try (refine gate_guard (by rfl) ?_; dsimp only)); refine box_event ?hg (N := 2) ?hd (cs := #[.int .i64 0, .slice none 0 0]) (t := 28) ?hr ?_; (case hd => rfl); (case hg => rfl); (case hr => first | (go_simp; done) | (go_simp; rfl)); intro gb302 hg w4 hbox hb; have n0_ := Aside0.mk (below_step (by repeat (first | (with_reducible first | exact HB.out | apply below_alloc | apply pw_below_drewN | apply below_drew1) | exact HB.out)) hb); have n1_ := Aside0.mk (hbox); have n2_ := Aside0.mk ((by rw [hg]; exact (below_size (by repeat (first | (with_reducible first | exact HB.out | apply below_alloc | apply pw_below_drewN | apply below_drew1) | exact HB.out))) : w.heap.size ≤ gb302)); have n3_ := Aside0.mk ((by rw [hg]; exact (below_size (by repeat (first | (with_reducible first | exact HB.out | apply below_alloc | apply pw_below_drewN | apply below_drew1) | exact HB.out))) : w.heap.size ≤ gb302)); clear HB; have HB := n0_; have BK302 := n1_; have GW302 := n2_; have GE302 := n3_; clear n0_ n1_ n2_ n3_; clear hb hbox hg) | ((with_reducible refine gate_callee (f := 25) rfl ?_); refine goesL_ (some 12) rfl rfl Tryd.func25 (by kernel_rfl) rfl #[.string a0, .string (⟨#[58]⟩ : ByteArray)] rfl (by (try simp only [List.map_toArray, List.map_cons, List.map_nil]); first | done | rfl | (simp only [List.length_drop, List.length_take]; rfl)) ?_; (with_reducible refine (strings_Cut.calls a0 (⟨#[58]⟩ : ByteArray) t303 t304 t305 _ A2.out).mono ?_); rintro e w' ⟨rfl, ⟨nd, rfl⟩⟩; refine ⟨_, rfl, ?_⟩))
 (try simp only [Act.put, List.setIfInBounds_toArray, List.set_cons_zero, List.set_cons_succ])
 go_cut [23] (fun v23 wc => ∃ (kq : Nat) (x23_2 : Bool), v23 = .bool x23_2 ∧ Aside0 (impl_ParseGraph.j0 kq a0 t303 t304 x23_2 = some (r1, r2, r3)) ∧ Aside0 (kq ≤ k) ∧ Aside0 (wc.heap[gb302]? = some (.cells #[.int .i64 0, (.slice none 0 0)] 28 (0, 0))) ∧ Aside0 (Below w.heap.size w wc))
 case first =>
  have H := HC3.out
  clear HC3
  by_cases c5 : (t303.size : Int) = 1
  ·rw [if_pos c5] at H
   have c5b0 : ((t303.size : Int) == 1) = true := beq_iff_eq.mpr c5
   have c5b1 : ((t303.size : Int) != 1) = false := bne_eq_false_iff_eq.mpr c5
   clear c5
   (first | rw [c5b0] | (simp only [i64_w, i32_w]; rw [c5b0]) | skip)
   have H' := Aside0.mk H
   clear H
   go_wp2
   go_meet
   case rel => exact ⟨_, (decide ((t304.size : Int) > 40)), (by first | rfl | (simp; done) | (simp [*]; done)), H', ⟨by first | omega | exact Nat.le_refl _⟩, ⟨by (with_reducible repeat (first | refine blk_drewN ?_ _ | refine blk_drew ?_ | refine blk_alloc ?_ _)); exact BK302.out⟩, ⟨by repeat (first | (with_reducible first | exact HB.out | apply below_alloc | apply pw_below_drewN | apply below_drew1 | refine below_set ?_ GE302.out) | exact HB.out)⟩⟩
  ·rw [if_neg c5] at H
   have c5b0 : ((t303.size : Int) == 1) = false := beq_eq_false_iff_ne.mpr c5
   have c5b1 : ((t303.size : Int) != 1) = true := bne_iff_ne.mpr c5
   (first | rw [c5b0] | (simp only [i64_w, i32_w]; rw [c5b0]) | skip)
   have H' := Aside0.mk H
   clear H
   go_wp2
   go_meet
   case rel => exact ⟨_, (true), (by first | rfl | (simp; done) | (simp [*]; done)), H', ⟨by first | omega | exact Nat.le_refl _⟩, ⟨by (with_reducible repeat (first | refine blk_drewN ?_ _ | refine blk_drew ?_ | refine blk_alloc ?_ _)); exact BK302.out⟩, ⟨by repeat (first | (with_reducible first | exact HB.out | apply below_alloc | apply pw_below_drewN | apply below_drew1 | refine below_set ?_ GE302.out) | exact HB.out)⟩⟩
 case rest =>
  clear HC3
  try clear c1
  try clear c2
  try clear p2
  try clear c5
  try clear c5b0
  try clear c5b1
  obtain ⟨kq, x23_2, rfl, HA, HJ2, BK302, HB⟩ := hcut
  cases kq with
  | zero => exact absurd HA.out (by simp [impl_ParseGraph.j0])
  | succ kj2 =>
   have H := HA.out
   clear HA
   simp only [impl_ParseGraph.j0] at H
   by_cases c6 : x23_2 = true
   ·subst c6
    have H1 : (some (0, ([] : List (List Int)), 6)) = some (r1, r2, r3) := by rw [if_pos rfl] at H; exact H
    clear H
    have H := H1
    clear H1
    simp only [Option.some.injEq, Prod.mk.injEq] at H
    obtain ⟨rfl, rfl, rfl⟩ := H
    have hcz7_0 : wc.cell? ⟨gb302, 0, none⟩ = some (.int .i64 0) := (blk_cell BK302.out 0).trans rfl
    have hcz7_1 : wc.cell? ⟨gb302, 1, none⟩ = some (.slice none 0 0) := (blk_cell BK302.out 1).trans rfl
    have hfz7_0 := blk_frozen BK302.out 0
    have hfz7_1 := blk_frozen BK302.out 1
    go_wp2
    refine bodyPost_ret (results_ct rfl _ _ gb302 28 #[.int .i64 0, .slice none 0 0] (0, 0) _ rfl (by (with_reducible repeat (first | refine blk_drewN ?_ _ | refine blk_drew ?_ | refine blk_alloc ?_ _)); refine blk_put (cs := #[.int .i64 0, .slice none 0 0]) ?_ 1 _ rfl; (with_reducible repeat (first | refine blk_drewN ?_ _ | refine blk_drew ?_ | refine blk_alloc ?_ _)); refine blk_put (cs := #[.int .i64 0, .slice none 0 0]) ?_ 0 _ rfl; (with_reducible repeat (first | refine blk_drewN ?_ _ | refine blk_drew ?_ | refine blk_alloc ?_ _)); exact BK302.out) Tryd.underlying28 rfl (by kernel_rfl)) rfl ?_
    exact ⟨_, by first | rfl | (simp [errW_none, errW_some] <;> rfl) | (simp [*, errW_none, errW_some] <;> rfl), by first | exact Kd.S_nil _ _ _ _ _ | exact Kd.N_nil _ _ _ _ _ | exact Kd.V_nil _ _ _ _ _ | exact Kd.Q_nil _ _ _ _ _ | exact Kd.R_nil _ _ _ _ _, by repeat (first | (with_reducible first | exact HB.out | apply below_alloc | apply pw_below_drewN | apply below_drew1 | refine below_set ?_ GE302.out) | exact HB.out)⟩
   ·replace c6 := Bool.eq_false_iff.mpr c6
    subst c6
    have H1 : (if 0 < (t303.size : Int) then ((strings_Split.f kj2 t304 (⟨#[44]⟩ : ByteArray)).bind fun t307 => (impl_ParseGraph.l0 kj2 a0 t304 t307 (t307.length : Int) 0 (wrap64 ((wrap64 (bt t303 0)) - 48)) ([] : List (List Int)))) else (none)) = some (r1, r2, r3) := by rw [if_neg (show ¬ (false = true) by decide)] at H; exact H
    clear H
    have H := H1
    clear H1
    by_cases c8 : 0 < (t303.size : Int)
    ·rw [if_pos c8] at H
     have c8b0 : decide (0 < (t303.size : Int)) = true := decide_eq_true c8
     have c8b1 : decide (0 < t303.size) = true := decide_eq_true (by omega)
     clear c8
     replace H := Option.bind_eq_some_iff.mp H
     obtain ⟨t307, A100, H⟩ := H
     replace H : (impl_ParseGraph.l0 kj2 a0 t304 t307 (t307.length : Int) 0 (wrap64 ((wrap64 (bt t303 0)) - 48)) ([] : List (List Int))) = some (r1, r2, r3) := H
     have A10 := Aside0.mk A100
     clear A100
     have HC11 := Aside0.mk H
     clear H
     have p9 : 0 ≤ (0 : Int) := (by omega)
     have q9 : 0 < t303.size := (by have : (0 : Int) < (t303.size : Int) := of_decide_eq_true (by assumption); omega)
     have hx9 : ∀ h : 0 < t303.size, ((t303[0]'h).toNat : Int) = bt t303 0 := bt_at t303 0
     clear p9
     have qi9 : (0 < (t303.size : Int)) = True := eq_true (of_decide_eq_true (by assumption))
     replace q9 := eq_true q9
     go_upto_block 0 with (first | ((with_reducible refine gate_dst (N := 7) rfl ?_); (try (refine gate_guard (by rfl) ?_; dsimp only)); refine box_event ?hg (N := 7) ?hd (cs := #[.int .i64 0, .slice none 0 0]) (t := 28) ?hr ?_; (case hd => rfl); (case hg => rfl); (case hr => first | (go_simp; done) | (go_simp; rfl)); intro gb306 hg w12 hbox hb; have n0_ := Aside0.mk (blk_below (g := gb302) (o := .cells #[.int .i64 0, .slice none 0 0] 28 (0, 0)) (by (with_reducible repeat (first | refine blk_drewN ?_ _ | refine blk_drew ?_ | refine blk_alloc ?_ _)); exact BK302.out) hb); have n1_ := Aside0.mk (below_step (by repeat (first | (with_reducible first | exact HB.out | apply below_alloc | apply pw_below_drewN | apply below_drew1 | refine below_set ?_ GE302.out) | exact HB.out)) hb); have n2_ := Aside0.mk (hbox); have n3_ := Aside0.mk ((by rw [hg]; exact (below_size (by repeat (first | (with_reducible first | exact HB.out | apply below_alloc | apply pw_below_drewN | apply below_drew1 | refine below_set ?_ GE302.out) | exact HB.out))) : w.heap.size ≤ gb306)); have n4_ := Aside0.mk ((by rw [hg]; exact (below_size (by repeat (first | (with_reducible first | exact HB.out | apply below_alloc | apply pw_below_drewN | apply below_drew1 | refine below_set ?_ GE302.out) | exact HB.out))) : w.heap.size ≤ gb306)); have n5_ := Aside0.mk ((by rw [hg]; exact Nat.ne_of_lt (blk_lt (g := gb302) (o := .cells #[.int .i64 0, .slice none 0 0] 28 (0, 0)) (by (with_reducible repeat (first | refine blk_drewN ?_ _ | refine blk_drew ?_ | refine blk_alloc ?_ _)); exact BK302.out)) : gb302 ≠ gb306)); have n6_ := Aside0.mk ((by rw [hg]; exact Nat.ne_of_gt (blk_lt (g := gb302) (o := .cells #[.int .i64 0, .slice none 0 0] 28 (0, 0)) (by (with_reducible repeat (first | refine blk_drewN ?_ _ | refine blk_drew ?_ | refine blk_alloc ?_ _)); exact BK302.out)) : gb306 ≠ gb302)); clear BK302; clear HB; have BK302 := n0_; have HB := n1_; have BK306 := n2_; have GW306 := n3_; have GE306 := n4_; have NB302_306 := n5_; have NB306_302 := n6_; clear n0_ n1_ n2_ n3_ n4_ n5_ n6_; clear hb hbox hg; have hnb13 := NB306_302.out; have hnc13 := NB302_306.out; have hcz14_0 : w12.cell? ⟨gb306, 0, none⟩ = some (.int .i64 0) := (blk_cell BK306.out 0).trans rfl; have hcz14_1 : w12.cell? ⟨gb306, 1, none⟩ = some (.slice none 0 0) := (blk_cell BK306.out 1).trans rfl; have hfz14_0 := blk_frozen BK306.out 0; have hfz14_1 := blk_frozen BK306.out 1) | ((with_reducible refine gate_callee (f := 26) rfl ?_); refine goesL_ (some 31) rfl rfl Tryd.func26 (by kernel_rfl) rfl #[.string t304, .string (⟨#[44]⟩ : ByteArray)] rfl (by (try simp only [List.map_toArray, List.map_cons, List.map_nil]); first | done | rfl | (simp only [List.length_drop, List.length_take]; rfl)) ?_; (with_reducible refine (strings_Split.calls kj2 t304 (⟨#[44]⟩ : ByteArray) t307 _ A10.out).mono ?_); rintro e w15 ⟨v308, rfl, ho0, hb⟩; refine ⟨_, rfl, ?_⟩; have n0_ := Aside0.mk (Kd.R_lower ho0 (below_size (by repeat (first | (with_reducible first | exact HB.out | apply below_alloc | apply pw_below_drewN | apply below_drew1 | refine below_set ?_ GE302.out | refine below_set ?_ GE306.out) | exact HB.out)))); have n1_ := Aside0.mk (blk_below (g := gb302) (o := .cells #[.int .i64 0, .slice none 0 0] 28 (0, 0)) (by (with_reducible repeat (first | refine blk_drewN ?_ _ | refine blk_drew ?_ | refine blk_alloc ?_ _)); refine blk_far ?_ NB302_306.out _; (with_reducible repeat (first | refine blk_drewN ?_ _ | refine blk_drew ?_ | refine blk_alloc ?_ _)); refine blk_far ?_ NB302_306.out _; (with_reducible repeat (first | refine blk_drewN ?_ _ | refine blk_drew ?_ | refine blk_alloc ?_ _)); exact BK302.out) hb); have n2_ := Aside0.mk (blk_below (g := gb306) (o := .cells #[.int .i64 (wrap64 ((wrap64 (bt t303 0)) - 48)), .slice none 0 0] 28 (0, 0)) (by (with_reducible repeat (first | refine blk_drewN ?_ _ | refine blk_drew ?_ | refine blk_alloc ?_ _)); refine blk_put (cs := #[.int .i64 (wrap64 ((wrap64 (bt t303 0)) - 48)), .slice none 0 0]) ?_ 1 _ rfl; (with_reducible repeat (first | refine blk_drewN ?_ _ | refine blk_drew ?_ | refine blk_alloc ?_ _)); refine blk_put (cs := #[.int .i64 0, .slice none 0 0]) ?_ 0 _ rfl; (with_reducible repeat (first | refine blk_drewN ?_ _ | refine blk_drew ?_ | refine blk_alloc ?_ _)); exact BK306.out) hb); have n3_ := Aside0.mk (below_step (by repeat (first | (with_reducible first | exact HB.out | apply below_alloc | apply pw_below_drewN | apply below_drew1 | refine below_set ?_ GE302.out | refine below_set ?_ GE306.out) | exact HB.out)) hb); clear BK302; clear BK306; clear HB; have HO309 := n0_; have BK302 := n1_; have BK306 := n2_; have HB := n3_; clear n0_ n1_ n2_ n3_; (try clear hb); (try clear hb2); (try clear hk); (try clear hi); (try clear ho0); obtain ⟨Ao16, co16, eo16⟩ := Kd.R_slice HO309.out; subst eo16))
     (try simp only [Act.put, List.setIfInBounds_toArray, List.set_cons_zero, List.set_cons_succ])
     go_cut [] (fun wc => ∃ (kq : Nat) (x303000_10 : Int) (x307001_10 : List (List Int)) (u307001 : Value), Aside0 (impl_ParseGraph.j2 kq a0 (wrap64 ((wrap64 (bt t303 0)) - 48)) x307001_10 = some (r1, r2, r3)) ∧ Aside0 (kq ≤ kj2) ∧ Aside0 (Kd.S (Kd.slice 2 (Kd.int .i64)) 47 wc w.heap.size (fun _ => True) u307001 x307001_10) ∧ Aside0 (wc.heap[gb302]? = some (.cells #[.int .i64 x303000_10, (.slice none 0 0)] 28 (0, 0))) ∧ Aside0 (wc.heap[gb306]? = some (.cells #[.int .i64 (wrap64 ((wrap64 (bt t303 0)) - 48)), u307001] 28 (0, 0))) ∧ Aside0 (Below w.heap.size w wc))
     case first =>
      have H := HC11.out
      clear HC11
      have H' := Aside0.mk H
      clear H
      go_wp2
      go_loopg [33] kj2 (fun kq v33 w' => ∃ (x33_2 : Int) (x303000_2 : Int) (x307001_2 : List (List Int)) (u307001 : Value), v33 = .int .i64 x33_2 ∧ Aside0 (impl_ParseGraph.l0 kq a0 t304 t307 (t307.length : Int) x33_2 (wrap64 ((wrap64 (bt t303 0)) - 48)) x307001_2 = some (r1, r2, r3)) ∧ Aside0 (kq ≤ kj2) ∧ Aside0 (Kd.R Kd.string 9 w' w.heap.size (fun _ => True) (.slice Ao16 t307.length co16) t307) ∧ Aside0 (Kd.S (Kd.slice 2 (Kd.int .i64)) 47 w' w.heap.size (fun _ => True) u307001 x307001_2) ∧ Aside0 (w'.heap[gb302]? = some (.cells #[.int .i64 x303000_2, (.slice none 0 0)] 28 (0, 0))) ∧ Aside0 (w'.heap[gb306]? = some (.cells #[.int .i64 (wrap64 ((wrap64 (bt t303 0)) - 48)), u307001] 28 (0, 0))) ∧ Aside0 (Below w.heap.size w w'))
      case atStart => exact ⟨(0), (0), (([] : List (List Int))), (.slice none 0 0), (by first | rfl | (simp; done) | (simp [*]; done)), H', ⟨Nat.le_refl _⟩, ⟨by (with_reducible repeat (first | apply Kd.R_alloc | apply Kd.R_drewN | apply Kd.R_drew)); exact HO309.out⟩, ⟨by first | exact Kd.S_nil _ _ _ _ _ | exact Kd.N_nil _ _ _ _ _ | exact Kd.V_nil _ _ _ _ _ | exact Kd.Q_nil _ _ _ _ _ | exact Kd.R_nil _ _ _ _ _⟩, ⟨by (with_reducible repeat (first | refine blk_drewN ?_ _ | refine blk_drew ?_ | refine blk_alloc ?_ _)); exact BK302.out⟩, ⟨by (with_reducible repeat (first | refine blk_drewN ?_ _ | refine blk_drew ?_ | refine blk_alloc ?_ _)); exact BK306.out⟩, ⟨by repeat (first | (with_reducible first | exact HB.out | apply below_alloc | apply pw_below_drewN | apply below_drew1 | refine below_set ?_ GE302.out | refine below_set ?_ GE306.out) | exact HB.out)⟩⟩
      case round =>
       clear H'
       try clear c1
       try clear c2
       try clear p2
       try clear c5
       try clear c5b0
       try clear c5b1
       try clear c6
       try clear p6
       try clear c8
       try clear c8b0
       try clear c8b1
       try clear p9
       try clear q9
       try clear hx9
       try clear qi9
       try clear c12
       try clear c13
       try clear hcz14_0
       try clear hcz14_1
       try clear hcz7_0
       try clear hcz7_1
       try clear hfz14_0
       try clear hfz14_1
       try clear hfz7_0
       try clear hfz7_1
       try clear p2
       try clear p9
       try clear q9
       obtain ⟨x33_2, x303000_2, x307001_2, u307001, rfl, HA, HK2, HO_31, HO_307001, BK302, BK306, HB⟩ := hrel
       cases gk with
       | zero => exact absurd HA.out (by simp [impl_ParseGraph.l0])
       | succ k2 =>
        have H := HA.out
        clear HA
        simp only [impl_ParseGraph.l0] at H
        by_cases c17 : x33_2 < (t307.length : Int)
        ·rw [if_pos c17] at H
         have c17b0 : decide (x33_2 < (t307.length : Int)) = true := decide_eq_true c17
         clear c17
         (first | rw [c17b0] | (simp only [i64_w, i32_w]; rw [c17b0]) | skip)
         by_cases c18 : 0 ≤ x33_2
         ·rw [if_pos c18] at H
          have c18b0 : decide (0 ≤ x33_2) = true := decide_eq_true c18
          clear c18
          by_cases c19 : x33_2 < (t307.length : Int)
          ·rw [if_pos c19] at H
           have c19b0 : decide (x33_2 < (t307.length : Int)) = true := decide_eq_true c19
           clear c19
           by_cases c20 : t304.toList = ([] : List UInt8)
           ·rw [if_pos c20] at H
            have c20b0 : (t304.toList == ([] : List UInt8)) = true := beq_iff_eq.mpr c20
            have c20b3 : t304.toList.isEmpty = true := by simpa using c20b0
            have c20b1 : (t304.toList != ([] : List UInt8)) = false := bne_eq_false_iff_eq.mpr c20
            clear c20
            have H' := Aside0.mk H
            clear H
            have p310 : 0 ≤ (x33_2 : Int) := of_decide_eq_true (by assumption)
            have q310 : x33_2 < (t307.length : Int) := of_decide_eq_true (by assumption)
            obtain ⟨ad310, e310, hx310_0⟩ := Kd.at_string (Kd.R_reads' HO_31.out).2.2 x33_2 p310 q310
            cases e310
            replace p310 := eq_true p310
            replace q310 := eq_true q310
            go_wp2
            go_meet
            case rel => exact ⟨_, (x303000_2), (x307001_2), (u307001), H', ⟨by have := HJ2.out; have := HK2.out; first | omega | exact Nat.le_refl _⟩, ⟨by (with_reducible repeat (first | apply Kd.S_alloc | apply Kd.S_drewN | apply Kd.S_drew)); exact HO_307001.out⟩, ⟨by (with_reducible repeat (first | refine blk_drewN ?_ _ | refine blk_drew ?_ | refine blk_alloc ?_ _)); exact BK302.out⟩, ⟨by (with_reducible repeat (first | refine blk_drewN ?_ _ | refine blk_drew ?_ | refine blk_alloc ?_ _)); exact BK306.out⟩, ⟨by repeat (first | (with_reducible first | exact HB.out | apply below_alloc | apply pw_below_drewN | apply below_drew1 | refine below_set ?_ GE302.out | refine below_set ?_ GE306.out) | exact HB.out)⟩⟩
           ·rw [if_neg c20] at H
            have c20b0 : (t304.toList == ([] : List UInt8)) = false := beq_eq_false_iff_ne.mpr c20
            have c20b3 : t304.toList.isEmpty = false := by simpa using c20b0
            have c20b1 : (t304.toList != ([] : List UInt8)) = true := bne_iff_ne.mpr c20
            by_cases c21 : ((rdOf ByteArray.empty t307 x33_2).size : Int) = 3
            ·rw [if_pos c21] at H
             have c21b0 : (((rdOf ByteArray.empty t307 x33_2).size : Int) == 3) = true := beq_iff_eq.mpr c21
             have c21b1 : (((rdOf ByteArray.empty t307 x33_2).size : Int) != 3) = false := bne_eq_false_iff_eq.mpr c21
             clear c21
             by_cases c22 : 0 < ((rdOf ByteArray.empty t307 x33_2).size : Int)
             ·rw [if_pos c22] at H
              have c22b0 : decide (0 < ((rdOf ByteArray.empty t307 x33_2).size : Int)) = true := decide_eq_true c22
              have c22b1 : decide (0 < (rdOf ByteArray.empty t307 x33_2).size) = true := decide_eq_true (by omega)
              clear c22
              by_cases c24 : 2 < ((rdOf ByteArray.empty t307 x33_2).size : Int)
              ·rw [if_pos c24] at H
               have c24b0 : decide (2 < ((rdOf ByteArray.empty t307 x33_2).size : Int)) = true := decide_eq_true c24
               have c24b1 : decide (2 < (rdOf ByteArray.empty t307 x33_2).size) = true := decide_eq_true (by omega)
               clear c24
               obtain ⟨y311, hy311⟩ : ∃ y_ : List Int, y_ = (([wrap64 ((wrap64 (bt (rdOf ByteArray.empty t307 x33_2) 0)) - 48), wrap64 ((wrap64 (bt (rdOf ByteArray.empty t307 x33_2) 2)) - 48)] : List Int)) := ⟨_, rfl⟩
               replace H : (if x307001_2.length < 5864062014805 then (impl_ParseGraph.l0 k2 a0 t304 t307 (t307.length : Int) (wrap64 (x33_2 + 1)) (wrap64 ((wrap64 (bt t303 0)) - 48)) (x307001_2 ++ [y311])) else (none)) = some (r1, r2, r3) := by first | (rw [hy311]; with_reducible exact H) | (have H2_ := (Option.bind_some _ _).symm.trans H; rw [hy311]; with_reducible exact H2_) | (have H2_ := (Option.bind_some _ _).symm.trans H; with_reducible exact H2_) | with_reducible exact H | (rw [hy311]; exact H) | exact H
               have Ny311 := Aside0.mk hy311
               clear hy311
               by_cases c26 : x307001_2.length < 5864062014805
               ·rw [if_pos c26] at H
                have LMc26 := Aside0.mk c26
                clear c26
                obtain ⟨y314, hy314⟩ : ∃ y_ : List (List Int), y_ = (x307001_2 ++ [y311]) := ⟨_, rfl⟩
                replace H : (impl_ParseGraph.l0 k2 a0 t304 t307 (t307.length : Int) (wrap64 (x33_2 + 1)) (wrap64 ((wrap64 (bt t303 0)) - 48)) y314) = some (r1, r2, r3) := by first | (rw [hy314]; with_reducible exact H) | (have H2_ := (Option.bind_some _ _).symm.trans H; rw [hy314]; with_reducible exact H2_) | (have H2_ := (Option.bind_some _ _).symm.trans H; with_reducible exact H2_) | with_reducible exact H | (rw [hy314]; exact H) | exact H
                have Ny314 := Aside0.mk hy314
                clear hy314
                have H' := Aside0.mk H
                clear H
                have p310 : 0 ≤ (x33_2 : Int) := of_decide_eq_true (by assumption)
                have q310 : x33_2 < (t307.length : Int) := of_decide_eq_true (by assumption)
                obtain ⟨ad310, e310, hx310_0⟩ := Kd.at_string (Kd.R_reads' HO_31.out).2.2 x33_2 p310 q310
                cases e310
                replace p310 := eq_true p310
                replace q310 := eq_true q310
                try go_wp2
                have n0_ := Aside0.mk (Kd.R_drew HO_31.out)
                have n1_ := Aside0.mk (Kd.S_drew HO_307001.out)
                have n2_ := Aside0.mk (blk_drew BK302.out)
                have n3_ := Aside0.mk (blk_drew BK306.out)
                have n4_ := Aside0.mk (below_drew1 HB.out)
                clear HO_31
                clear HO_307001
                clear BK302
                clear BK306
                clear HB
                have HO_31 := n0_
                have HO_307001 := n1_
                have BK302 := n2_
                have BK306 := n3_
                have HB := n4_
                clear n0_ n1_ n2_ n3_ n4_
                have p23 : 0 ≤ (0 : Int) := (by omega)
                have q23 : 0 < (rdOf ByteArray.empty t307 x33_2).size := (by have : (0 : Int) < ((rdOf ByteArray.empty t307 x33_2).size : Int) := of_decide_eq_true (by assumption); omega)
                have hx23 : ∀ h : 0 < (rdOf ByteArray.empty t307 x33_2).size, (((rdOf ByteArray.empty t307 x33_2)[0]'h).toNat : Int) = bt (rdOf ByteArray.empty t307 x33_2) 0 := bt_at (rdOf ByteArray.empty t307 x33_2) 0
                clear p23
                have qi23 : (0 < ((rdOf ByteArray.empty t307 x33_2).size : Int)) = True := eq_true (of_decide_eq_true (by assumption))
                replace q23 := eq_true q23
                have p25 : 0 ≤ (2 : Int) := (by omega)
                have q25 : 2 < (rdOf ByteArray.empty t307 x33_2).size := (by have : (2 : Int) < ((rdOf ByteArray.empty t307 x33_2).size : Int) := of_decide_eq_true (by assumption); omega)
                have hx25 : ∀ h : 2 < (rdOf ByteArray.empty t307 x33_2).size, (((rdOf ByteArray.empty t307 x33_2)[2]'h).toNat : Int) = bt (rdOf ByteArray.empty t307 x33_2) 2 := bt_at (rdOf ByteArray.empty t307 x33_2) 2
                clear p25
                have qi25 : (2 < ((rdOf ByteArray.empty t307 x33_2).size : Int)) = True := eq_true (of_decide_eq_true (by assumption))
                replace q25 := eq_true q25
                refine start_ (n := 15) (S := fun w' => w'.cell? ⟨gb306, 0, none⟩ = some (.int .i64 (wrap64 ((wrap64 (bt t303 0)) - 48))) ∧ w'.cell? ⟨gb306, 1, none⟩ = some (u307001)) (ds := [14]) #[false, false, false, false, false, false, false, false, false, false, false, false, false, false, false] (by kernel_rfl) rfl rfl ⟨(blk_cell BK306.out 0).trans rfl, (blk_cell BK306.out 1).trans rfl⟩ (fun hHeld => ?_); refine with_tabW impl_ParseGraph.tab11 impl_ParseGraph.bits11 (fun HT_ HW_ => ?_)
                generalize wr.drew = w27 at HO_31 HO_307001 BK302 BK306 HB hHeld ⊢
                refine pure_ (i := 0) (N := some 43) (v := ?_) (a' := ?_) #[true, false, false, false, false, false, false, false, false, false, false, false, false, false, false] rfl rfl (any_of HT_.out (by kernel_rfl)) (fun _ _ _ h => h) (Or.inl ⟨by rfl, ?_⟩) ?_ ?_
                rotate_left
                ·intro w'
                 go_simp
                 with_reducible rfl
                rotate_left
                ·simp only [Act.put, nf_]
                 rfl
                refine pure_ (i := 2) (N := some 45) (v := ?_) (a' := ?_) #[true, false, true, false, false, false, false, false, false, false, false, false, false, false, false] rfl rfl (any_of HT_.out (by kernel_rfl)) (fun _ _ _ h => h) (Or.inl ⟨by rfl, ?_⟩) ?_ ?_
                rotate_left
                ·intro w'
                 go_simp
                 with_reducible rfl
                rotate_left
                ·simp only [Act.put, nf_]
                 rfl
                refine pure_ (i := 6) (N := some 49) (v := ?_) (a' := ?_) #[true, false, true, false, false, false, true, false, false, false, false, false, false, false, false] rfl rfl (any_of HT_.out (by kernel_rfl)) (fun _ _ _ h => h) (Or.inl ⟨by rfl, ?_⟩) ?_ ?_
                rotate_left
                ·intro w'
                 go_simp
                 with_reducible rfl
                rotate_left
                ·simp only [Act.put, nf_]
                 rfl
                refine take_ (i := 1) (N := some 44) (v := ?_) (a' := ?_) #[true, true, true, false, false, false, true, false, false, false, false, false, false, false, false] rfl rfl (take_ofW HT_.out HW_.out (by kernel_rfl)) (fun _ _ _ h => h) (Or.inl ⟨by rfl, ?_⟩) hHeld ?_ ?_
                rotate_left
                ·rintro w' ⟨s0, s1⟩
                 go_simp
                 with_reducible rfl
                rotate_left
                ·simp only [Act.put, nf_]
                 rfl
                refine take_ (i := 3) (N := some 46) (v := ?_) (a' := ?_) #[true, true, true, true, false, false, true, false, false, false, false, false, false, false, false] rfl rfl (take_ofW HT_.out HW_.out (by kernel_rfl)) (fun _ _ _ h => h) (Or.inl ⟨by rfl, ?_⟩) hHeld ?_ ?_
                rotate_left
                ·rintro w' ⟨s0, s1⟩
                 go_simp
                 with_reducible rfl
                rotate_left
                ·simp only [Act.put, nf_]
                 rfl
                refine pure_ (i := 4) (N := some 47) (v := ?_) (a' := ?_) #[true, true, true, true, true, false, true, false, false, false, false, false, false, false, false] rfl rfl (any_of HT_.out (by kernel_rfl)) (fun _ _ _ h => h) (Or.inl ⟨by rfl, ?_⟩) ?_ ?_
                rotate_left
                ·intro w'
                 go_simp
                 with_reducible rfl
                rotate_left
                ·simp only [Act.put, nf_]
                 rfl
                refine pure_ (i := 5) (N := some 48) (v := ?_) (a' := ?_) #[true, true, true, true, true, true, true, false, false, false, false, false, false, false, false] rfl rfl (any_of HT_.out (by kernel_rfl)) (fun _ _ _ h => h) (Or.inl ⟨by rfl, ?_⟩) ?_ ?_
                rotate_left
                ·intro w'
                 go_simp
                 with_reducible rfl
                rotate_left
                ·simp only [Act.put, nf_]
                 rfl
                refine take_ (i := 7) (N := some 50) (v := ?_) (a' := ?_) #[true, true, true, true, true, true, true, true, false, false, false, false, false, false, false] rfl rfl (take_ofW HT_.out HW_.out (by kernel_rfl)) (fun _ _ _ h => h) (Or.inl ⟨by rfl, ?_⟩) hHeld ?_ ?_
                rotate_left
                ·rintro w' ⟨s0, s1⟩
                 go_simp
                 with_reducible rfl
                rotate_left
                ·simp only [Act.put, nf_]
                 rfl
                refine pure_ (i := 8) (N := some 51) (v := ?_) (a' := ?_) #[true, true, true, true, true, true, true, true, true, false, false, false, false, false, false] rfl rfl (any_of HT_.out (by kernel_rfl)) (fun _ _ _ h => h) (Or.inl ⟨by rfl, ?_⟩) ?_ ?_
                rotate_left
                ·intro w'
                 go_simp
                 with_reducible rfl
                rotate_left
                ·simp only [Act.put, nf_]
                 rfl
                refine pure_ (i := 9) (N := some 52) (v := ?_) (a' := ?_) #[true, true, true, true, true, true, true, true, true, true, false, false, false, false, false] rfl rfl (any_of HT_.out (by kernel_rfl)) (fun _ _ _ h => h) (Or.inl ⟨by rfl, ?_⟩) ?_ ?_
                rotate_left
                ·intro w'
                 go_simp
                 with_reducible rfl
                rotate_left
                ·simp only [Act.put, nf_]
                 rfl
                refine one_ (i := 10) (N := some 53) #[true, true, true, true, true, true, true, true, true, true, true, false, false, false, false] rfl rfl (one_of HT_.out (by kernel_rfl)) (by decide) (fun K hK => ?_)
                refine Kd.R_lit_step (Kd.int .i64) _ 2 ?hg (N := 53) ?hd (xs := ([wrap64 ((wrap64 (bt (rdOf ByteArray.empty t307 x33_2) 0)) - 48), wrap64 ((wrap64 (bt (rdOf ByteArray.empty t307 x33_2) 2)) - 48)] : List Int)) (inner := [.int .i64 (wrap64 ((wrap64 (bt (rdOf ByteArray.empty t307 x33_2) 0)) - 48)), .int .i64 (wrap64 ((wrap64 (bt (rdOf ByteArray.empty t307 x33_2) 2)) - 48))]) (ok := fun _ => True) (okp := fun _ => True) ?hr ?hp (fun _ hk => hk) trivial (Below.refl _ _) (Nat.le_refl _) (by simp) ?_; (case hd => rfl); (case hg => rfl); (case hr => first | (go_simp; done) | (go_simp; rfl)); (case hp => exact (Reps.one (show Kd.M (Kd.int .i64) _ _ _ (wrap64 ((wrap64 (bt (rdOf ByteArray.empty t307 x33_2) 0)) - 48)) [.int .i64 (wrap64 ((wrap64 (bt (rdOf ByteArray.empty t307 x33_2) 0)) - 48))] from rfl) (Reps.one (show Kd.M (Kd.int .i64) _ _ _ (wrap64 ((wrap64 (bt (rdOf ByteArray.empty t307 x33_2) 2)) - 48)) [.int .i64 (wrap64 ((wrap64 (bt (rdOf ByteArray.empty t307 x33_2) 2)) - 48))] from rfl) (Reps.none _ _))))
                intro v312 w28 ho29 hb hg_ hnew_
                clear hg_ hnew_
                (first | rw [← Ny311.out] at ho29 | (simp only [Int.reduceToNat] at ho29; rw [← Ny311.out] at ho29))
                have n0_ := Aside0.mk (Kd.R_below (by (with_reducible repeat (first | apply Kd.R_alloc | apply Kd.R_drewN | apply Kd.R_drew)); exact HO_31.out) hb)
                have n1_ := Aside0.mk (Kd.S_elder' (by (with_reducible repeat (first | apply Kd.S_alloc | apply Kd.S_drewN | apply Kd.S_drew)); exact HO_307001.out) (Kd.R_base ho29) hb)
                have n2_ := Aside0.mk (Kd.R_lower ho29 (below_size (by repeat (first | (with_reducible first | exact HB.out | apply below_alloc | apply pw_below_drewN | apply below_drew1 | refine below_set ?_ GE302.out | refine below_set ?_ GE306.out) | exact HB.out))))
                have n3_ := Aside0.mk (blk_below (g := gb302) (o := .cells #[.int .i64 x303000_2, .slice none 0 0] 28 (0, 0)) (by (with_reducible repeat (first | refine blk_drewN ?_ _ | refine blk_drew ?_ | refine blk_alloc ?_ _)); exact BK302.out) hb)
                have n4_ := Aside0.mk (blk_below (g := gb306) (o := .cells #[.int .i64 (wrap64 ((wrap64 (bt t303 0)) - 48)), u307001] 28 (0, 0)) (by (with_reducible repeat (first | refine blk_drewN ?_ _ | refine blk_drew ?_ | refine blk_alloc ?_ _)); exact BK306.out) hb)
                have n5_ := Aside0.mk (below_step (by repeat (first | (with_reducible first | exact HB.out | apply below_alloc | apply pw_below_drewN | apply below_drew1 | refine below_set ?_ GE302.out | refine below_set ?_ GE306.out) | exact HB.out)) hb)
                clear HO_31
                clear HO_307001
                clear BK302
                clear BK306
                clear HB
                have HO_31 := n0_
                have HO_307001 := n1_
                have HO313 := n2_
                have BK302 := n3_
                have BK306 := n4_
                have HB := n5_
                clear n0_ n1_ n2_ n3_ n4_ n5_
                clear hb ho29
                obtain ⟨Ao31, co31, eo31⟩ := Kd.R_slice HO313.out
                (first | subst eo31 | (injection eo31 with f1_ f2_ f3_; have f4_ := f1_.symm; have f5_ := f3_.symm; clear f1_ f2_ f3_; subst f4_; subst f5_))
                refine hK.out _ _ ⟨(blk_cell BK306.out 0).trans rfl, (blk_cell BK306.out 1).trans rfl⟩ (fun hHeld => ?_)
                clear hK K
                refine norm_ (a' := ?_) ?_ ?_
                rotate_left
                ·show Act.put _ (some 53) _ = _
                 simp only [Act.put, nf_]
                 rfl
                refine one_ (i := 11) (N := some 54) #[true, true, true, true, true, true, true, true, true, true, true, true, false, false, false] rfl rfl (one_of HT_.out (by kernel_rfl)) (by decide) (fun K hK => ?_)
                refine value_ (w1 := ?_) (v := ?_) (by rfl) rfl ?_ ?_
                rotate_left 2
                ·go_simp
                 constructor
                 ·rfl
                 ·rfl
                refine hK.out _ _ ⟨(blk_cell (blk_alloc BK306.out _) 0).trans rfl, (blk_cell (blk_alloc BK306.out _) 1).trans rfl⟩ (fun hHeld => ?_)
                clear hK K
                refine norm_ (a' := ?_) ?_ ?_
                rotate_left
                ·show Act.put _ (some 54) _ = _
                 simp only [Act.put, nf_]
                 rfl
                refine one_ (i := 12) (N := some 55) #[true, true, true, true, true, true, true, true, true, true, true, true, true, false, false] rfl rfl (one_of HT_.out (by kernel_rfl)) (by decide) (fun K hK => ?_)
                refine Kd.S_append_step (Kd.slice 2 (Kd.int .i64)) (w0 := w) w.heap.size (by rfl) (.tmp 44) (.tmp 54) 22 47 (.slice none 0 0) 24 rfl Tryd.underlying22 info47 rfl (by decide) (by omega) u307001 x307001_2 y311 [.slice Ao31 y311.length co31] (fun _ => True) (fun k_ => some k_ = (.slice Ao31 y311.length co31 : Value).ownBlock) rfl rfl ?aP (fun k_ hk_ => ((Kd.R_mono (ok' := fun k_ => ((fun _ => True)) k_ ∧ some k_ ≠ (u307001 : Value).ownBlock) (Kd.R_apart' (HO313.out) (Kd.S_typed HO_307001.out) (by decide)) (fun k_ hk => ⟨trivial, hk.2⟩))).1 k_ hk_.symm) ?aF ?aO ?aB ?aS ?aL ?_
                (case aP => exact Kd.M_row (Kd.R_mono (Kd.R_tight rfl (Kd.R_mono (ok' := fun k_ => ((fun _ => True)) k_ ∧ some k_ ≠ (u307001 : Value).ownBlock) (Kd.R_apart' (HO313.out) (Kd.S_typed HO_307001.out) (by decide)) (fun k_ hk => ⟨trivial, hk.2⟩))) (fun _ h_ => h_)))
                (case aB => exact (by repeat (first | (with_reducible first | exact HB.out | apply below_alloc | apply pw_below_drewN | apply below_drew1 | refine below_set ?_ GE302.out | refine below_set ?_ GE306.out) | exact HB.out)))
                (case aF => exact (fun _ _ => trivial))
                (case aO => exact (by (with_reducible repeat (first | apply Kd.S_alloc | apply Kd.S_drewN | apply Kd.S_drew)); exact Kd.S_mono HO_307001.out (fun k_ hk => ⟨trivial, fun e_ => hk.2 e_⟩)))
                (case aS => exact (below_size (by repeat (first | (with_reducible first | exact HB.out | apply below_alloc | apply pw_below_drewN | apply below_drew1 | refine below_set ?_ GE302.out | refine below_set ?_ GE306.out) | exact HB.out))))
                (case aL => have := LMc26.out; omega)
                intro v315 w30 ho hb hg hat
                rw [← Ny314.out] at ho
                have n0_ := Aside0.mk (Kd.R_over' (by (with_reducible repeat (first | apply Kd.R_alloc | apply Kd.R_drewN | apply Kd.R_drew)); exact HO_31.out) (Kd.S_typed (by (with_reducible repeat (first | apply Kd.S_alloc | apply Kd.S_drewN | apply Kd.S_drew)); exact HO_307001.out)) (by decide) hg)
                have n1_ := Aside0.mk (blk_grown (g := gb302) (o := .cells #[.int .i64 x303000_2, .slice none 0 0] 28 (0, 0)) (by (with_reducible repeat (first | refine blk_drewN ?_ _ | refine blk_drew ?_ | refine blk_alloc ?_ _)); exact BK302.out) hg (Kd.S_ne HO_307001.out BK302.out (by decide)))
                have n2_ := Aside0.mk (blk_grown (g := gb306) (o := .cells #[.int .i64 (wrap64 ((wrap64 (bt t303 0)) - 48)), u307001] 28 (0, 0)) (by (with_reducible repeat (first | refine blk_drewN ?_ _ | refine blk_drew ?_ | refine blk_alloc ?_ _)); exact BK306.out) hg (Kd.S_ne HO_307001.out BK306.out (by decide)))
                have n3_ := Aside0.mk (hb)
                have n4_ := Aside0.mk (ho)
                clear HO_31
                clear BK302
                clear BK306
                clear HB
                clear HO_307001
                clear HO313
                have HO_31 := n0_
                have BK302 := n1_
                have BK306 := n2_
                have HB := n3_
                have HO316 := n4_
                clear n0_ n1_ n2_ n3_ n4_
                clear ho hb hg hat
                obtain ⟨Ao32, co32, eo32⟩ := Kd.S_slice HO316.out
                (first | subst eo32 | (injection eo32 with f1_ f2_ f3_; have f4_ := f1_.symm; have f5_ := f3_.symm; clear f1_ f2_ f3_; subst f4_; subst f5_))
                refine hK.out _ _ ⟨(blk_cell BK306.out 0).trans rfl, (blk_cell BK306.out 1).trans rfl⟩ (fun hHeld => ?_)
                clear hK K
                refine norm_ (a' := ?_) ?_ ?_
                rotate_left
                ·show Act.put _ (some 55) _ = _
                 simp only [Act.put, nf_]
                 rfl
                refine pure_ (i := 13) (N := some 56) (v := ?_) (a' := ?_) #[true, true, true, true, true, true, true, true, true, true, true, true, true, true, false] rfl rfl (any_of HT_.out (by kernel_rfl)) (fun _ _ _ h => h) (Or.inl ⟨by rfl, ?_⟩) ?_ ?_
                rotate_left
                ·intro w'
                 go_simp
                 with_reducible rfl
                rotate_left
                ·simp only [Act.put, nf_]
                 rfl
                refine last_ (i := 14) (N := none) #[true, true, true, true, true, true, true, true, true, true, true, true, true, true, true] rfl rfl (one_of HT_.out (by kernel_rfl)) (by decide) (fun K hK => ?_)
                have hs33 : w30.cell? ⟨gb306, 1, none⟩ = some (u307001) := (blk_cell BK306.out 1).trans rfl
                have hfs33 := blk_frozen BK306.out 1
                have hns33_0 := NB302_306.out
                have hms33_0 := NB306_302.out
                refine skip_ (w1 := ?_) (by rfl) rfl ?_ ?_
                rotate_left
                ·go_simp
                 rfl
                refine hK.out _ _ ?_
                clear hK K
                refine done_ (done_of HT_.out (by kernel_rfl)) ?_
                try go_wp2
                first | go_roundg k2 | (refine Handed.intro k2 ?measure ?_; rotate_left; go_step; (try simp only [add_plain]); (repeat apply Exists.intro); refine ⟨?rel, rfl⟩)
                case measure => have := HJ2.out; have := HK2.out; omega
                case rel => exact ⟨(wrap64 (x33_2 + 1)), (x303000_2), (y314), (.slice Ao32 y314.length co32), (by first | rfl | (simp; done) | (simp [*]; done)), H', ⟨by have := HJ2.out; have := HK2.out; omega⟩, ⟨by (with_reducible repeat (first | apply Kd.R_alloc | apply Kd.R_drewN | apply Kd.R_drew)); exact Kd.R_mono (Kd.R_far (p := ⟨gb306, 1, none⟩) (Kd.R_types HO_31.out BK306.out (by decide)) (fun _ hk => hk.2) (.slice Ao32 y314.length co32)) (fun _ hk => trivial)⟩, ⟨by (with_reducible repeat (first | apply Kd.S_alloc | apply Kd.S_drewN | apply Kd.S_drew)); exact Kd.S_mono (Kd.S_far (p := ⟨gb306, 1, none⟩) (Kd.S_types HO316.out BK306.out (by decide)) (fun _ hk => hk.2) (.slice Ao32 y314.length co32)) (fun _ hk => trivial)⟩, ⟨by (with_reducible repeat (first | refine blk_drewN ?_ _ | refine blk_drew ?_ | refine blk_alloc ?_ _)); refine blk_far ?_ NB302_306.out _; (with_reducible repeat (first | refine blk_drewN ?_ _ | refine blk_drew ?_ | refine blk_alloc ?_ _)); exact BK302.out⟩, ⟨by (with_reducible repeat (first | refine blk_drewN ?_ _ | refine blk_drew ?_ | refine blk_alloc ?_ _)); refine blk_put (cs := #[.int .i64 (wrap64 ((wrap64 (bt t303 0)) - 48)), u307001]) ?_ 1 _ rfl; (with_reducible repeat (first | refine blk_drewN ?_ _ | refine blk_drew ?_ | refine blk_alloc ?_ _)); exact BK306.out⟩, ⟨by repeat (first | (with_reducible first | exact HB.out | apply below_alloc | apply pw_below_drewN | apply below_drew1 | refine below_set ?_ GE302.out | refine below_set ?_ GE306.out) | exact HB.out)⟩⟩
               ·rw [if_neg c26] at H
                exact absurd H (by simp)
              ·rw [if_neg c24] at H
               exact absurd H (by simp)
             ·rw [if_neg c22] at H
              exact absurd H (by simp)
            ·rw [if_neg c21] at H
             have c21b0 : (((rdOf ByteArray.empty t307 x33_2).size : Int) == 3) = false := beq_eq_false_iff_ne.mpr c21
             have c21b1 : (((rdOf ByteArray.empty t307 x33_2).size : Int) != 3) = true := bne_iff_ne.mpr c21
             simp only [Option.some.injEq, Prod.mk.injEq] at H
             obtain ⟨rfl, rfl, rfl⟩ := H
             have p310 : 0 ≤ (x33_2 : Int) := of_decide_eq_true (by assumption)
             have q310 : x33_2 < (t307.length : Int) := of_decide_eq_true (by assumption)
             obtain ⟨ad310, e310, hx310_0⟩ := Kd.at_string (Kd.R_reads' HO_31.out).2.2 x33_2 p310 q310
             cases e310
             replace p310 := eq_true p310
             replace q310 := eq_true q310
             have hnb34 := NB302_306.out
             have hnc34 := NB306_302.out
             have hcz35_0 : wr.cell? ⟨gb302, 0, none⟩ = some (.int .i64 x303000_2) := (blk_cell BK302.out 0).trans rfl
             have hcz35_1 : wr.cell? ⟨gb302, 1, none⟩ = some (.slice none 0 0) := (blk_cell BK302.out 1).trans rfl
             have hfz35_0 := blk_frozen BK302.out 0
             have hfz35_1 := blk_frozen BK302.out 1
             go_wp2
             refine bodyPost_ret (results_ct rfl _ _ gb302 28 #[.int .i64 0, .slice none 0 0] (0, 0) _ rfl (by (with_reducible repeat (first | refine blk_drewN ?_ _ | refine blk_drew ?_ | refine blk_alloc ?_ _)); refine blk_put (cs := #[.int .i64 0, .slice none 0 0]) ?_ 1 _ rfl; (with_reducible repeat (first | refine blk_drewN ?_ _ | refine blk_drew ?_ | refine blk_alloc ?_ _)); refine blk_put (cs := #[.int .i64 x303000_2, .slice none 0 0]) ?_ 0 _ rfl; (with_reducible repeat (first | refine blk_drewN ?_ _ | refine blk_drew ?_ | refine blk_alloc ?_ _)); exact BK302.out) Tryd.underlying28 rfl (by kernel_rfl)) rfl ?_
             exact ⟨_, by first | rfl | (simp [errW_none, errW_some] <;> rfl) | (simp [*, errW_none, errW_some] <;> rfl), by first | exact Kd.S_nil _ _ _ _ _ | exact Kd.N_nil _ _ _ _ _ | exact Kd.V_nil _ _ _ _ _ | exact Kd.Q_nil _ _ _ _ _ | exact Kd.R_nil _ _ _ _ _, by repeat (first | (with_reducible first | exact HB.out | apply below_alloc | apply pw_below_drewN | apply below_drew1 | refine below_set ?_ GE302.out | refine below_set ?_ GE306.out) | exact HB.out)⟩
          ·rw [if_neg c19] at H
           exact absurd H (by simp)
         ·rw [if_neg c18] at H
          exact absurd H (by simp)
        ·rw [if_neg c17] at H
         have c17b0 : decide (x33_2 < (t307.length : Int)) = false := decide_eq_false c17
         clear c17
         (first | rw [c17b0] | (simp only [i64_w, i32_w]; rw [c17b0]) | skip)
         have H' := Aside0.mk H
         clear H
         go_wp2
         go_meet
         case rel => exact ⟨_, (x303000_2), (x307001_2), (u307001), H', ⟨by have := HJ2.out; have := HK2.out; first | omega | exact Nat.le_refl _⟩, ⟨by (with_reducible repeat (first | apply Kd.S_alloc | apply Kd.S_drewN | apply Kd.S_drew)); exact HO_307001.out⟩, ⟨by (with_reducible repeat (first | refine blk_drewN ?_ _ | refine blk_drew ?_ | refine blk_alloc ?_ _)); exact BK302.out⟩, ⟨by (with_reducible repeat (first | refine blk_drewN ?_ _ | refine blk_drew ?_ | refine blk_alloc ?_ _)); exact BK306.out⟩, ⟨by repeat (first | (with_reducible first | exact HB.out | apply below_alloc | apply pw_below_drewN | apply below_drew1 | refine below_set ?_ GE302.out | refine below_set ?_ GE306.out) | exact HB.out)⟩⟩
     case rest =>
      clear HC11
      try clear c1
      try clear c2
      try clear p2
      try clear q2
      try clear hx2
      try clear qi2
      try clear c3
      try clear p3
      try clear q3
      try clear hx3
      try clear c5
      try clear c5b0
      try clear c5b1
      try clear c6
      try clear p6
      try clear c8
      try clear c8b0
      try clear c8b1
      try clear p9
      try clear q9
      try clear hx9
      try clear qi9
      try clear c12
      try clear c13
      try clear c17
      try clear c17b0
      try clear c18
      try clear c18b0
      try clear c19
      try clear c19b0
      try clear c20
      try clear c20b0
      try clear c20b1
      try clear c21
      try clear c21b0
      try clear c21b1
      try clear c22
      try clear c22b0
      try clear c22b1
      try clear p23
      try clear q23
      try clear hx23
      try clear qi23
      try clear c24
      try clear c24b0
      try clear c24b1
      try clear c25
      try clear p25
      try clear q25
      try clear hx25
      try clear qi25
      try clear c26
      try clear p31
      try clear q31
      try clear hx31
      try clear c34
      try clear hcz14_0
      try clear hcz14_1
      try clear hcz35_0
      try clear hcz35_1
      try clear hcz7_0
      try clear hcz7_1
      try clear hfz14_0
      try clear hfz14_1
      try clear hfz35_0
      try clear hfz35_1
      try clear hfz7_0
      try clear hfz7_1
      try clear hx310_0
      try clear p2
      try clear p23
      try clear p25
      try clear p310
      try clear p6
      try clear p9
      try clear q23
      try clear q25
      try clear q310
      try clear q9
      obtain ⟨kq, x303000_10, x307001_10, u307001, HA, HJ10, HO_307001, BK302, BK306, HB⟩ := hcut
      cases kq with
      | zero => exact absurd HA.out (by simp [impl_ParseGraph.j2])
      | succ kj10 =>
       have H := HA.out
       clear HA
       simp only [impl_ParseGraph.j2] at H
       replace H := Option.bind_eq_some_iff.mp H
       obtain ⟨t317, A360, H⟩ := H
       replace H : (if t317 = true then ((impl_graphText.f kj10 (wrap64 ((wrap64 (bt t303 0)) - 48)) x307001_10).bind fun t318 => (if t318.toList = a0.toList then (some ((wrap64 ((wrap64 (bt t303 0)) - 48)), x307001_10, 0)) else (some (0, ([] : List (List Int)), 6)))) else (some (0, ([] : List (List Int)), 6))) = some (r1, r2, r3) := H
       have A36 := Aside0.mk A360
       clear A360
       by_cases c37 : t317 = true
       ·subst c37
        have H1 : ((impl_graphText.f kj10 (wrap64 ((wrap64 (bt t303 0)) - 48)) x307001_10).bind fun t318 => (if t318.toList = a0.toList then (some ((wrap64 ((wrap64 (bt t303 0)) - 48)), x307001_10, 0)) else (some (0, ([] : List (List Int)), 6)))) = some (r1, r2, r3) := by rw [if_pos rfl] at H; exact H
        clear H
        have H := H1
        clear H1
        replace H := Option.bind_eq_some_iff.mp H
        obtain ⟨t318, A380, H⟩ := H
        replace H : (if t318.toList = a0.toList then (some ((wrap64 ((wrap64 (bt t303 0)) - 48)), x307001_10, 0)) else (some (0, ([] : List (List Int)), 6))) = some (r1, r2, r3) := H
        have A38 := Aside0.mk A380
        clear A380
        by_cases c39 : t318.toList = a0.toList
        ·rw [if_pos c39] at H
         have c39b0 : (t318.toList == a0.toList) = true := beq_iff_eq.mpr c39
         have c39b1 : (t318.toList != a0.toList) = false := bne_eq_false_iff_eq.mpr c39
         clear c39
         simp only [Option.some.injEq, Prod.mk.injEq] at H
         obtain ⟨rfl, rfl, rfl⟩ := H
         have hnb40 := NB306_302.out
         have hnc40 := NB302_306.out
         have hcz41_0 : wc.cell? ⟨gb306, 0, none⟩ = some (.int .i64 (wrap64 ((wrap64 (bt t303 0)) - 48))) := (blk_cell BK306.out 0).trans rfl
         have hcz41_1 : wc.cell? ⟨gb306, 1, none⟩ = some (u307001) := (blk_cell BK306.out 1).trans rfl
         have hfz41_0 := blk_frozen BK306.out 0
         have hfz41_1 := blk_frozen BK306.out 1
         obtain ⟨Ao42, co42, eo42⟩ := Kd.S_slice HO_307001.out
         subst eo42
         go_wp2_with (first | ((with_reducible refine gate_callee (f := 21) rfl ?_); refine goesL_ (some 59) rfl rfl Tryd.func21 (by kernel_rfl) rfl #[.agg #[.int .i64 (wrap64 ((wrap64 (bt t303 0)) - 48)), .slice Ao42 x307001_10.length co42]] rfl (by (try simp only [List.map_toArray, List.map_cons, List.map_nil]); first | done | rfl | (simp only [List.length_drop, List.length_take]; rfl)) ?_; (with_reducible refine (impl_IsGraph.calls kj10 (wrap64 ((wrap64 (bt t303 0)) - 48)) _ _ x307001_10 true _ ?side1 ?side2 A36.out).mono ?_); (case side1 => repeat (first | exact (Kd.S_reads' HO_307001.out).2.2 | (with_reducible refine Kd.C_alloc ?_ _) | (with_reducible refine Kd.C_drewN ?_ _) | (with_reducible refine Kd.C_drew ?_))); (case side2 => exact (Kd.S_reads' HO_307001.out).2.1); rintro e w43 ⟨rfl, hb⟩; refine ⟨_, rfl, ?_⟩; have n0_ := Aside0.mk (Kd.S_below (by (with_reducible repeat (first | apply Kd.S_alloc | apply Kd.S_drewN | apply Kd.S_drew)); exact HO_307001.out) hb); have n1_ := Aside0.mk (blk_below (g := gb302) (o := .cells #[.int .i64 x303000_10, .slice none 0 0] 28 (0, 0)) (by (with_reducible repeat (first | refine blk_drewN ?_ _ | refine blk_drew ?_ | refine blk_alloc ?_ _)); exact BK302.out) hb); have n2_ := Aside0.mk (blk_below (g := gb306) (o := .cells #[.int .i64 (wrap64 ((wrap64 (bt t303 0)) - 48)), .slice Ao42 x307001_10.length co42] 28 (0, 0)) (by (with_reducible repeat (first | refine blk_drewN ?_ _ | refine blk_drew ?_ | refine blk_alloc ?_ _)); exact BK306.out) hb); have n3_ := Aside0.mk (below_step (by repeat (first | (with_reducible first | exact HB.out | apply below_alloc | apply pw_below_drewN | apply below_drew1 | refine below_set ?_ GE302.out | refine below_set ?_ GE306.out) | exact HB.out)) hb); clear HO_307001; clear BK302; clear BK306; clear HB; have HO_307001 := n0_; have BK302 := n1_; have BK306 := n2_; have HB := n3_; clear n0_ n1_ n2_ n3_; (try clear hb); (try clear hb2); (try clear hk); (try clear hi); have hcz44_0 : w43.cell? ⟨gb306, 0, none⟩ = some (.int .i64 (wrap64 ((wrap64 (bt t303 0)) - 48))) := (blk_cell BK306.out 0).trans rfl; have hcz44_1 : w43.cell? ⟨gb306, 1, none⟩ = some (.slice Ao42 x307001_10.length co42) := (blk_cell BK306.out 1).trans rfl; have hfz44_0 := blk_frozen BK306.out 0; have hfz44_1 := blk_frozen BK306.out 1) | (go_at_call 22; (with_reducible refine (impl_graphText.calls kj10 (wrap64 ((wrap64 (bt t303 0)) - 48)) _ _ x307001_10 t318 _ ?side1 ?side2 A38.out).mono ?_); (case side1 => repeat (first | exact (Kd.S_reads' HO_307001.out).2.2 | (with_reducible refine Kd.C_alloc ?_ _) | (with_reducible refine Kd.C_drewN ?_ _) | (with_reducible refine Kd.C_drew ?_))); (case side2 => exact (Kd.S_reads' HO_307001.out).2.1); rintro e w45 ⟨rfl, hb⟩; have n0_ := Aside0.mk (Kd.S_below (by (with_reducible repeat (first | apply Kd.S_alloc | apply Kd.S_drewN | apply Kd.S_drew)); exact HO_307001.out) hb); have n1_ := Aside0.mk (blk_below (g := gb302) (o := .cells #[.int .i64 x303000_10, .slice none 0 0] 28 (0, 0)) (by (with_reducible repeat (first | refine blk_drewN ?_ _ | refine blk_drew ?_ | refine blk_alloc ?_ _)); exact BK302.out) hb); have n2_ := Aside0.mk (blk_below (g := gb306) (o := .cells #[.int .i64 (wrap64 ((wrap64 (bt t303 0)) - 48)), .slice Ao42 x307001_10.length co42] 28 (0, 0)) (by (with_reducible repeat (first | refine blk_drewN ?_ _ | refine blk_drew ?_ | refine blk_alloc ?_ _)); exact BK306.out) hb); have n3_ := Aside0.mk (below_step (by repeat (first | (with_reducible first | exact HB.out | apply below_alloc | apply pw_below_drewN | apply below_drew1 | refine below_set ?_ GE302.out | refine below_set ?_ GE306.out) | exact HB.out)) hb); clear HO_307001; clear BK302; clear BK306; clear HB; have HO_307001 := n0_; have BK302 := n1_; have BK306 := n2_; have HB := n3_; clear n0_ n1_ n2_ n3_; (try clear hb); (try clear hb2); (try clear hk); (try clear hi); have hcz46_0 : w45.cell? ⟨gb306, 0, none⟩ = some (.int .i64 (wrap64 ((wrap64 (bt t303 0)) - 48))) := (blk_cell BK306.out 0).trans rfl; have hcz46_1 : w45.cell? ⟨gb306, 1, none⟩ = some (.slice Ao42 x307001_10.length co42) := (blk_cell BK306.out 1).trans rfl; have hfz46_0 := blk_frozen BK306.out 0; have hfz46_1 := blk_frozen BK306.out 1; have hcz47_0 : w45.cell? ⟨gb302, 0, none⟩ = some (.int .i64 x303000_10) := (blk_cell BK302.out 0).trans rfl; have hcz47_1 : w45.cell? ⟨gb302, 1, none⟩ = some (.slice none 0 0) := (blk_cell BK302.out 1).trans rfl; have hfz47_0 := blk_frozen BK302.out 0; have hfz47_1 := blk_frozen BK302.out 1))
         refine bodyPost_ret (results_ct rfl _ _ gb302 28 #[.int .i64 (wrap64 ((wrap64 (bt t303 0)) - 48)), .slice Ao42 x307001_10.length co42] (0, 0) _ rfl (by (with_reducible repeat (first | refine blk_drewN ?_ _ | refine blk_drew ?_ | refine blk_alloc ?_ _)); refine blk_put (cs := #[.int .i64 (wrap64 ((wrap64 (bt t303 0)) - 48)), .slice none 0 0]) ?_ 1 _ rfl; (with_reducible repeat (first | refine blk_drewN ?_ _ | refine blk_drew ?_ | refine blk_alloc ?_ _)); refine blk_put (cs := #[.int .i64 x303000_10, .slice none 0 0]) ?_ 0 _ rfl; (with_reducible repeat (first | refine blk_drewN ?_ _ | refine blk_drew ?_ | refine blk_alloc ?_ _)); exact BK302.out) Tryd.underlying28 rfl (by kernel_rfl)) rfl ?_
         exact ⟨_, by first | rfl | (simp [errW_none, errW_some] <;> rfl) | (simp [*, errW_none, errW_some] <;> rfl), by (with_reducible repeat (first | apply Kd.S_alloc | apply Kd.S_drewN | apply Kd.S_drew)); exact Kd.S_mono (Kd.S_far (p := ⟨gb302, 1, none⟩) (Kd.S_far (p := ⟨gb302, 0, none⟩) (Kd.S_types HO_307001.out BK302.out (by decide)) (fun _ hk => hk.2) (.int .i64 (wrap64 ((wrap64 (bt t303 0)) - 48)))) (fun _ hk => hk.2) (.slice Ao42 x307001_10.length co42)) (fun _ hk => trivial), by repeat (first | (with_reducible first | exact HB.out | apply below_alloc | apply pw_below_drewN | apply below_drew1 | refine below_set ?_ GE302.out | refine below_set ?_ GE306.out) | exact HB.out)⟩
        ·rw [if_neg c39] at H
         have c39b0 : (t318.toList == a0.toList) = false := beq_eq_false_iff_ne.mpr c39
         have c39b1 : (t318.toList != a0.toList) = true := bne_iff_ne.mpr c39
         simp only [Option.some.injEq, Prod.mk.injEq] at H
         obtain ⟨rfl, rfl, rfl⟩ := H
         have hnb48 := NB306_302.out
         have hnc48 := NB302_306.out
         have hcz49_0 : wc.cell? ⟨gb306, 0, none⟩ = some (.int .i64 (wrap64 ((wrap64 (bt t303 0)) - 48))) := (blk_cell BK306.out 0).trans rfl
         have hcz49_1 : wc.cell? ⟨gb306, 1, none⟩ = some (u307001) := (blk_cell BK306.out 1).trans rfl
         have hfz49_0 := blk_frozen BK306.out 0
         have hfz49_1 := blk_frozen BK306.out 1
         obtain ⟨Ao50, co50, eo50⟩ := Kd.S_slice HO_307001.out
         subst eo50
         go_wp2_with (first | ((with_reducible refine gate_callee (f := 21) rfl ?_); refine goesL_ (some 59) rfl rfl Tryd.func21 (by kernel_rfl) rfl #[.agg #[.int .i64 (wrap64 ((wrap64 (bt t303 0)) - 48)), .slice Ao50 x307001_10.length co50]] rfl (by (try simp only [List.map_toArray, List.map_cons, List.map_nil]); first | done | rfl | (simp only [List.length_drop, List.length_take]; rfl)) ?_; (with_reducible refine (impl_IsGraph.calls kj10 (wrap64 ((wrap64 (bt t303 0)) - 48)) _ _ x307001_10 true _ ?side1 ?side2 A36.out).mono ?_); (case side1 => repeat (first | exact (Kd.S_reads' HO_307001.out).2.2 | (with_reducible refine Kd.C_alloc ?_ _) | (with_reducible refine Kd.C_drewN ?_ _) | (with_reducible refine Kd.C_drew ?_))); (case side2 => exact (Kd.S_reads' HO_307001.out).2.1); rintro e w51 ⟨rfl, hb⟩; refine ⟨_, rfl, ?_⟩; have n0_ := Aside0.mk (Kd.S_below (by (with_reducible repeat (first | apply Kd.S_alloc | apply Kd.S_drewN | apply Kd.S_drew)); exact HO_307001.out) hb); have n1_ := Aside0.mk (blk_below (g := gb302) (o := .cells #[.int .i64 x303000_10, .slice none 0 0] 28 (0, 0)) (by (with_reducible repeat (first | refine blk_drewN ?_ _ | refine blk_drew ?_ | refine blk_alloc ?_ _)); exact BK302.out) hb); have n2_ := Aside0.mk (blk_below (g := gb306) (o := .cells #[.int .i64 (wrap64 ((wrap64 (bt t303 0)) - 48)), .slice Ao50 x307001_10.length co50] 28 (0, 0)) (by (with_reducible repeat (first | refine blk_drewN ?_ _ | refine blk_drew ?_ | refine blk_alloc ?_ _)); exact BK306.out) hb); have n3_ := Aside0.mk (below_step (by repeat (first | (with_reducible first | exact HB.out | apply below_alloc | apply pw_below_drewN | apply below_drew1 | refine below_set ?_ GE302.out | refine below_set ?_ GE306.out) | exact HB.out)) hb); clear HO_307001; clear BK302; clear BK306; clear HB; have HO_307001 := n0_; have BK302 := n1_; have BK306 := n2_; have HB := n3_; clear n0_ n1_ n2_ n3_; (try clear hb); (try clear hb2); (try clear hk); (try clear hi); have hcz52_0 : w51.cell? ⟨gb306, 0, none⟩ = some (.int .i64 (wrap64 ((wrap64 (bt t303 0)) - 48))) := (blk_cell BK306.out 0).trans rfl; have hcz52_1 : w51.cell? ⟨gb306, 1, none⟩ = some (.slice Ao50 x307001_10.length co50) := (blk_cell BK306.out 1).trans rfl; have hfz52_0 := blk_frozen BK306.out 0; have hfz52_1 := blk_frozen BK306.out 1) | (go_at_call 22; (with_reducible refine (impl_graphText.calls kj10 (wrap64 ((wrap64 (bt t303 0)) - 48)) _ _ x307001_10 t318 _ ?side1 ?side2 A38.out).mono ?_); (case side1 => repeat (first | exact (Kd.S_reads' HO_307001.out).2.2 | (with_reducible refine Kd.C_alloc ?_ _) | (with_reducible refine Kd.C_drewN ?_ _) | (with_reducible refine Kd.C_drew ?_))); (case side2 => exact (Kd.S_reads' HO_307001.out).2.1); rintro e w53 ⟨rfl, hb⟩; have n0_ := Aside0.mk (Kd.S_below (by (with_reducible repeat (first | apply Kd.S_alloc | apply Kd.S_drewN | apply Kd.S_drew)); exact HO_307001.out) hb); have n1_ := Aside0.mk (blk_below (g := gb302) (o := .cells #[.int .i64 x303000_10, .slice none 0 0] 28 (0, 0)) (by (with_reducible repeat (first | refine blk_drewN ?_ _ | refine blk_drew ?_ | refine blk_alloc ?_ _)); exact BK302.out) hb); have n2_ := Aside0.mk (blk_below (g := gb306) (o := .cells #[.int .i64 (wrap64 ((wrap64 (bt t303 0)) - 48)), .slice Ao50 x307001_10.length co50] 28 (0, 0)) (by (with_reducible repeat (first | refine blk_drewN ?_ _ | refine blk_drew ?_ | refine blk_alloc ?_ _)); exact BK306.out) hb); have n3_ := Aside0.mk (below_step (by repeat (first | (with_reducible first | exact HB.out | apply below_alloc | apply pw_below_drewN | apply below_drew1 | refine below_set ?_ GE302.out | refine below_set ?_ GE306.out) | exact HB.out)) hb); clear HO_307001; clear BK302; clear BK306; clear HB; have HO_307001 := n0_; have BK302 := n1_; have BK306 := n2_; have HB := n3_; clear n0_ n1_ n2_ n3_; (try clear hb); (try clear hb2); (try clear hk); (try clear hi); have hcz54_0 : w53.cell? ⟨gb302, 0, none⟩ = some (.int .i64 x303000_10) := (blk_cell BK302.out 0).trans rfl; have hcz54_1 : w53.cell? ⟨gb302, 1, none⟩ = some (.slice none 0 0) := (blk_cell BK302.out 1).trans rfl; have hfz54_0 := blk_frozen BK302.out 0; have hfz54_1 := blk_frozen BK302.out 1))
         refine bodyPost_ret (results_ct rfl _ _ gb302 28 #[.int .i64 0, .slice none 0 0] (0, 0) _ rfl (by (with_reducible repeat (first | refine blk_drewN ?_ _ | refine blk_drew ?_ | refine blk_alloc ?_ _)); refine blk_put (cs := #[.int .i64 0, .slice none 0 0]) ?_ 1 _ rfl; (with_reducible repeat (first | refine blk_drewN ?_ _ | refine blk_drew ?_ | refine blk_alloc ?_ _)); refine blk_put (cs := #[.int .i64 x303000_10, .slice none 0 0]) ?_ 0 _ rfl; (with_reducible repeat (first | refine blk_drewN ?_ _ | refine blk_drew ?_ | refine blk_alloc ?_ _)); exact BK302.out) Tryd.underlying28 rfl (by kernel_rfl)) rfl ?_
         exact ⟨_, by first | rfl | (simp [errW_none, errW_some] <;> rfl) | (simp [*, errW_none, errW_some] <;> rfl), by first | exact Kd.S_nil _ _ _ _ _ | exact Kd.N_nil _ _ _ _ _ | exact Kd.V_nil _ _ _ _ _ | exact Kd.Q_nil _ _ _ _ _ | exact Kd.R_nil _ _ _ _ _, by repeat (first | (with_reducible first | exact HB.out | apply below_alloc | apply pw_below_drewN | apply below_drew1 | refine below_set ?_ GE302.out | refine below_set ?_ GE306.out) | exact HB.out)⟩
       ·replace c37 := Bool.eq_false_iff.mpr c37
        subst c37
        have H1 : (some (0, ([] : List (List Int)), 6)) = some (r1, r2, r3) := by rw [if_neg (show ¬ (false = true) by decide)] at H; exact H
        clear H
        have H := H1
        clear H1
        simp only [Option.some.injEq, Prod.mk.injEq] at H
        obtain ⟨rfl, rfl, rfl⟩ := H
        have hnb55 := NB306_302.out
        have hnc55 := NB302_306.out
        have hcz56_0 : wc.cell? ⟨gb306, 0, none⟩ = some (.int .i64 (wrap64 ((wrap64 (bt t303 0)) - 48))) := (blk_cell BK306.out 0).trans rfl
        have hcz56_1 : wc.cell? ⟨gb306, 1, none⟩ = some (u307001) := (blk_cell BK306.out 1).trans rfl
        have hfz56_0 := blk_frozen BK306.out 0
        have hfz56_1 := blk_frozen BK306.out 1
        obtain ⟨Ao57, co57, eo57⟩ := Kd.S_slice HO_307001.out
        subst eo57
        go_wp2_with (first | ((with_reducible refine gate_callee (f := 21) rfl ?_); refine goesL_ (some 59) rfl rfl Tryd.func21 (by kernel_rfl) rfl #[.agg #[.int .i64 (wrap64 ((wrap64 (bt t303 0)) - 48)), .slice Ao57 x307001_10.length co57]] rfl (by (try simp only [List.map_toArray, List.map_cons, List.map_nil]); first | done | rfl | (simp only [List.length_drop, List.length_take]; rfl)) ?_; (with_reducible refine (impl_IsGraph.calls kj10 (wrap64 ((wrap64 (bt t303 0)) - 48)) _ _ x307001_10 false _ ?side1 ?side2 A36.out).mono ?_); (case side1 => repeat (first | exact (Kd.S_reads' HO_307001.out).2.2 | (with_reducible refine Kd.C_alloc ?_ _) | (with_reducible refine Kd.C_drewN ?_ _) | (with_reducible refine Kd.C_drew ?_))); (case side2 => exact (Kd.S_reads' HO_307001.out).2.1); rintro e w58 ⟨rfl, hb⟩; refine ⟨_, rfl, ?_⟩; have n0_ := Aside0.mk (Kd.S_below (by (with_reducible repeat (first | apply Kd.S_alloc | apply Kd.S_drewN | apply Kd.S_drew)); exact HO_307001.out) hb); have n1_ := Aside0.mk (blk_below (g := gb302) (o := .cells #[.int .i64 x303000_10, .slice none 0 0] 28 (0, 0)) (by (with_reducible repeat (first | refine blk_drewN ?_ _ | refine blk_drew ?_ | refine blk_alloc ?_ _)); exact BK302.out) hb); have n2_ := Aside0.mk (blk_below (g := gb306) (o := .cells #[.int .i64 (wrap64 ((wrap64 (bt t303 0)) - 48)), .slice Ao57 x307001_10.length co57] 28 (0, 0)) (by (with_reducible repeat (first | refine blk_drewN ?_ _ | refine blk_drew ?_ | refine blk_alloc ?_ _)); exact BK306.out) hb); have n3_ := Aside0.mk (below_step (by repeat (first | (with_reducible first | exact HB.out | apply below_alloc | apply pw_below_drewN | apply below_drew1 | refine below_set ?_ GE302.out | refine below_set ?_ GE306.out) | exact HB.out)) hb); clear HO_307001; clear BK302; clear BK306; clear HB; have HO_307001 := n0_; have BK302 := n1_; have BK306 := n2_; have HB := n3_; clear n0_ n1_ n2_ n3_; (try clear hb); (try clear hb2); (try clear hk); (try clear hi); have hcz59_0 : w58.cell? ⟨gb302, 0, none⟩ = some (.int .i64 x303000_10) := (blk_cell BK302.out 0).trans rfl; have hcz59_1 : w58.cell? ⟨gb302, 1, none⟩ = some (.slice none 0 0) := (blk_cell BK302.out 1).trans rfl; have hfz59_0 := blk_frozen BK302.out 0; have hfz59_1 := blk_frozen BK302.out 1))
        refine bodyPost_ret (results_ct rfl _ _ gb302 28 #[.int .i64 0, .slice none 0 0] (0, 0) _ rfl (by (with_reducible repeat (first | refine blk_drewN ?_ _ | refine blk_drew ?_ | refine blk_alloc ?_ _)); refine blk_put (cs := #[.int .i64 0, .slice none 0 0]) ?_ 1 _ rfl; (with_reducible repeat (first | refine blk_drewN ?_ _ | refine blk_drew ?_ | refine blk_alloc ?_ _)); refine blk_put (cs := #[.int .i64 x303000_10, .slice none 0 0]) ?_ 0 _ rfl; (with_reducible repeat (first | refine blk_drewN ?_ _ | refine blk_drew ?_ | refine blk_alloc ?_ _)); exact BK302.out) Tryd.underlying28 rfl (by kernel_rfl)) rfl ?_
        exact ⟨_, by first | rfl | (simp [errW_none, errW_some] <;> rfl) | (simp [*, errW_none, errW_some] <;> rfl), by first | exact Kd.S_nil _ _ _ _ _ | exact Kd.N_nil _ _ _ _ _ | exact Kd.V_nil _ _ _ _ _ | exact Kd.Q_nil _ _ _ _ _ | exact Kd.R_nil _ _ _ _ _, by repeat (first | (with_reducible first | exact HB.out | apply below_alloc | apply pw_below_drewN | apply below_drew1 | refine below_set ?_ GE302.out | refine below_set ?_ GE306.out) | exact HB.out)⟩
    ·rw [if_neg c8] at H
     exact absurd H (by simp)

/-! ### laws_markInt64S: function 43 -/
def laws_markInt64S.l0 : Nat → List Int → Int → Int → Option (Int × List Int)
 | 0, _, _, _ => none
 | k + 1, x0, x1, x5 => if x5 < (x0.length : Int) then (if 0 ≤ x5 then (laws_markInt64S.l0 k (x0.set (x5 : Int).toNat x1) (wrap64 (x1 + 1)) (wrap64 (x5 + 1))) else (none)) else (some (x1, x0))
def laws_markInt64S.f (k : Nat) (l0 : List Int) (a1 : Int) : Option (Int × List Int) := laws_markInt64S.l0 k l0 a1 0
theorem laws_markInt64S.mono_l : ∀ k, (∀ y0 y1 y2, LeO (laws_markInt64S.l0 k y0 y1 y2) (laws_markInt64S.l0 (k + 1) y0 y1 y2))
 | 0 => fun _ _ _ r h => by simp [laws_markInt64S.l0] at h
 | k + 1 => by
  have ih0 := laws_markInt64S.mono_l k
  ·intro y0 y1 y2
   unfold laws_markInt64S.l0
   repeat' first
   | (with_reducible exact ih0 _ _ _)
   | (with_reducible exact LeO.refl _)
   | (with_reducible exact LeO.none _)
   | (with_reducible refine LeO.ite ?_ ?_)
   | (with_reducible refine LeO.bind ?_ (fun _ => ?_))
theorem laws_markInt64S.mono : ∀ a0 a1 k, LeO (laws_markInt64S.f k a0 a1) (laws_markInt64S.f (k + 1) a0 a1) := by
 intro a0 a1 k
 have ih0 := laws_markInt64S.mono_l k
 unfold laws_markInt64S.f
 repeat' first
   | (with_reducible exact ih0 _ _ _)
   | (with_reducible exact LeO.refl _)
   | (with_reducible exact LeO.none _)
   | (with_reducible refine LeO.ite ?_ ?_)
   | (with_reducible refine LeO.bind ?_ (fun _ => ?_))
set_option maxHeartbeats 8000000 in
set_option maxRecDepth 100000 in
theorem laws_markInt64S.calls (k : Nat) (P0_ : Nat → Prop) (u9000_ : Value) (l0 : List Int) (a1 : Int) (r1 : Int) (r2 : List Int) (w0 w : World) (hB : Below w0.heap.size w0 w) (ho0 : Kd.R (Kd.int .i64) 2 w w0.heap.size P0_ u9000_ l0) (h : laws_markInt64S.f k l0 a1 = some (r1, r2)) :
  Calls Tryd.prog 43 #[u9000_, .int .i64 a1] w fun e w' => e = .returned (.int .i64 r1) ∧ Kd.R (Kd.int .i64) 2 w' w0.heap.size (fun k_ => (P0_ k_ ∨ w.heap.size ≤ k_)) u9000_ r2 ∧ Below w0.heap.size w0 w' ∧ Kept w w' (fun k_ => P0_ k_) := by
 have HO0 := Aside0.mk (show Kd.R (Kd.int .i64) 2 w w0.heap.size (fun k_ => (P0_ k_ ∨ w.heap.size ≤ k_)) u9000_ l0 from Kd.R_mono ho0 (fun k_ hk => (.inl hk)))
 have HK := Aside0.mk (Kept.refl w (fun k_ => P0_ k_))
 have HW0 := Aside0.mk hB.size
 have HB := Aside0.mk hB
 clear hB
 have H : (laws_markInt64S.l0 k l0 a1 0) = some (r1, r2) := h
 clear h
 have H' := Aside0.mk H
 clear H
 go_enter Tryd.func43, Tryd.ntmps43
 go_wp2
 go_loopg [1, 5] k (fun kq v1 v5 w' => ∃ (x0_1 : List Int) (x1_1 : Int) (x5_1 : Int), v1 = .int .i64 x1_1 ∧ v5 = .int .i64 x5_1 ∧ Aside0 (laws_markInt64S.l0 kq x0_1 x1_1 x5_1 = some (r1, r2)) ∧ Aside0 (kq ≤ k) ∧ Aside0 (Kd.R (Kd.int .i64) 2 w' w0.heap.size (fun k_ => (P0_ k_ ∨ w.heap.size ≤ k_)) u9000_ x0_1) ∧ Aside0 (Kept w w' (fun k_ => P0_ k_)) ∧ Aside0 (Below w0.heap.size w0 w'))
 case atStart => exact ⟨(l0), (a1), (0), (by first | rfl | (simp; done) | (simp [*]; done)), (by first | rfl | (simp; done) | (simp [*]; done)), H', ⟨Nat.le_refl _⟩, ⟨by (with_reducible repeat (first | apply Kd.R_alloc | apply Kd.R_drewN | apply Kd.R_drew)); exact HO0.out⟩, ⟨by repeat (first | (with_reducible first | exact HK.out | apply Kept.alloc | apply Kept.drewN | apply Kept.drew) | exact HK.out)⟩, ⟨by repeat (first | (with_reducible first | exact HB.out | apply below_alloc | apply pw_below_drewN | apply below_drew1) | exact HB.out)⟩⟩
 case round =>
  clear H'
  try clear p2
  obtain ⟨x0_1, x1_1, x5_1, rfl, rfl, HA, HK1, HO_0, HK, HB⟩ := hrel
  cases gk with
  | zero => exact absurd HA.out (by simp [laws_markInt64S.l0])
  | succ k1 =>
   have H := HA.out
   clear HA
   simp only [laws_markInt64S.l0] at H
   by_cases c3 : x5_1 < (x0_1.length : Int)
   ·rw [if_pos c3] at H
    have c3b0 : decide (x5_1 < (x0_1.length : Int)) = true := decide_eq_true c3
    clear c3
    by_cases c4 : 0 ≤ x5_1
    ·rw [if_pos c4] at H
     have c4b0 : decide (0 ≤ x5_1) = true := decide_eq_true c4
     clear c4
     obtain ⟨y319, hy319⟩ : ∃ y_ : List Int, y_ = (x0_1.set (x5_1 : Int).toNat x1_1) := ⟨_, rfl⟩
     replace H : (laws_markInt64S.l0 k1 y319 (wrap64 (x1_1 + 1)) (wrap64 (x5_1 + 1))) = some (r1, r2) := by first | (rw [hy319]; with_reducible exact H) | (have H2_ := (Option.bind_some _ _).symm.trans H; rw [hy319]; with_reducible exact H2_) | (have H2_ := (Option.bind_some _ _).symm.trans H; with_reducible exact H2_) | with_reducible exact H | (rw [hy319]; exact H) | exact H
     have Ny319 := Aside0.mk hy319
     clear hy319
     have H' := Aside0.mk H
     clear H
     obtain ⟨Ao6, co6, eo6⟩ := Kd.R_slice HO_0.out
     subst eo6
     have p5 : 0 ≤ (x5_1 : Int) := of_decide_eq_true (by assumption)
     have q5 : (x5_1 : Int) < ((x0_1.length : Int) : Int) := of_decide_eq_true (by assumption)
     obtain ⟨go5, co5, eo5, gb5, gl5, cl5, HG5⟩ := Kd.R_form HO_0.out (by omega)
     (first | cases eo5 | (injection eo5 with ea_ en_ ec_; (first | subst ea_ | (injection ea_ with ea_; subst ea_)); subst ec_; clear en_))
     have GB5 := Aside0.mk gb5
     have GG5 := Aside0.mk HG5
     clear gb5 gl5 HG5
     have HMgo5 := Aside0.mk (show (P0_ go5 ∨ w.heap.size ≤ go5) from (HO_0.out.1 _ rfl))
     obtain ⟨hx5_0, hf5_0⟩ := Kd.R_celln 0 HO_0.out (x5_1 : Int) p5 q5
     replace p5 := eq_true p5
     replace q5 := eq_true q5
     have HP7 := Kd.R_putg HO_0.out (x5_1 : Int) x1_1
     go_wp2_with (first | ((with_reducible refine gate_store (t := 2) (p := 15) rfl ?_); refine store_event (t := 2) (p := 15) (v := ?vo_w8) (w1 := (wr.setCell ⟨go5, (x5_1 : Int).toNat, none⟩ (.int .i64 x1_1))) ?hg ?ho ?hn ?hr ?_; (case ho => rfl); (case hg => rfl); (case hn => rfl); (case hr => first | (go_simp; done) | (go_simp; rfl)); intro w8 hw; have hg : wr.grownBy w8 (some go5) := (by rw [hw]; exact HP7.2); have hp_ : Kd.R (Kd.int .i64) 2 w8 w0.heap.size (fun k_ => (P0_ k_ ∨ w.heap.size ≤ k_)) (.slice (some ⟨go5, 0, none⟩) x0_1.length co6) y319 := (by rw [hw, Ny319.out]; exact HP7.1); clear HP7; have n0_ := Aside0.mk (hp_); have n1_ := Aside0.mk ((by rw [hw]; exact below_set (HB.out) GB5.out : Below w0.heap.size w0 w8)); have n2_ := Aside0.mk (Kept.of_grown (S := (fun k_ => P0_ k_)) hg (by repeat (first | (with_reducible first | exact HK.out | apply Kept.alloc | apply Kept.drewN | apply Kept.drew) | exact HK.out)) (fun k_ e_ => (HO_0.out.1 k_ e_))); clear HO_0; clear HB; clear HK; have HO_0 := n0_; have HB := n1_; have HK := n2_; clear n0_ n1_ n2_; clear hg hw hp_))
     first | go_roundg k1 | (refine Handed.intro k1 ?measure ?_; rotate_left; go_step; (try simp only [add_plain]); (repeat apply Exists.intro); refine ⟨?rel, rfl⟩)
     case measure => have := HK1.out; omega
     case rel => exact ⟨(y319), (wrap64 (x1_1 + 1)), (wrap64 (x5_1 + 1)), (by first | rfl | (simp; done) | (simp [*]; done)), (by first | rfl | (simp; done) | (simp [*]; done)), H', ⟨by have := HK1.out; omega⟩, ⟨by (with_reducible repeat (first | apply Kd.R_alloc | apply Kd.R_drewN | apply Kd.R_drew)); exact HO_0.out⟩, ⟨by repeat (first | (with_reducible first | exact HK.out | apply Kept.alloc | apply Kept.drewN | apply Kept.drew) | exact HK.out)⟩, ⟨by repeat (first | (with_reducible first | exact HB.out | apply below_alloc | apply pw_below_drewN | apply below_drew1) | exact HB.out)⟩⟩
    ·rw [if_neg c4] at H
     exact absurd H (by simp)
   ·rw [if_neg c3] at H
    have c3b0 : decide (x5_1 < (x0_1.length : Int)) = false := decide_eq_false c3
    clear c3
    simp only [Option.some.injEq, Prod.mk.injEq] at H
    obtain ⟨rfl, rfl⟩ := H
    obtain ⟨Ao9, co9, eo9⟩ := Kd.R_slice HO_0.out
    subst eo9
    go_wp2
    go_ret
    exact ⟨by first | rfl | (simp [errW_none, errW_some] <;> rfl) | (simp [*, errW_none, errW_some] <;> rfl), by (with_reducible repeat (first | apply Kd.R_alloc | apply Kd.R_drewN | apply Kd.R_drew)); exact HO_0.out, by repeat (first | (with_reducible first | exact HB.out | apply below_alloc | apply pw_below_drewN | apply below_drew1) | exact HB.out), by repeat (first | (with_reducible first | exact HK.out | apply Kept.alloc | apply Kept.drewN | apply Kept.drew) | exact HK.out)⟩

/-! ### laws_markInt64SS: function 27 -/
def laws_markInt64SS.l0 : Nat → List (List Int) → Int → Int → Option (Int × List (List Int))
 | 0, _, _, _ => none
 | k + 1, x0, x1, x3 => if x3 < (x0.length : Int) then (if 0 ≤ x3 then ((laws_markInt64S.f k (rd_L1 x0 x3) x1).bind fun b => (laws_markInt64SS.l0 k (x0.set (x3 : Int).toNat b.2) b.1 (wrap64 (x3 + 1)))) else (none)) else (some (x1, x0))
def laws_markInt64SS.f (k : Nat) (l0 : List (List Int)) (a1 : Int) : Option (Int × List (List Int)) := laws_markInt64SS.l0 k l0 a1 0
theorem laws_markInt64SS.mono_l : ∀ k, (∀ y0 y1 y2, LeO (laws_markInt64SS.l0 k y0 y1 y2) (laws_markInt64SS.l0 (k + 1) y0 y1 y2))
 | 0 => fun _ _ _ r h => by simp [laws_markInt64SS.l0] at h
 | k + 1 => by
  have ih0 := laws_markInt64SS.mono_l k
  ·intro y0 y1 y2
   unfold laws_markInt64SS.l0
   repeat' first
   | (with_reducible exact ih0 _ _ _)
   | (with_reducible exact laws_markInt64S.mono _ _ _)
   | (with_reducible exact LeO.refl _)
   | (with_reducible exact LeO.none _)
   | (with_reducible refine LeO.ite ?_ ?_)
   | (with_reducible refine LeO.bind ?_ (fun _ => ?_))
theorem laws_markInt64SS.mono : ∀ a0 a1 k, LeO (laws_markInt64SS.f k a0 a1) (laws_markInt64SS.f (k + 1) a0 a1) := by
 intro a0 a1 k
 have ih0 := laws_markInt64SS.mono_l k
 unfold laws_markInt64SS.f
 repeat' first
   | (with_reducible exact ih0 _ _ _)
   | (with_reducible exact laws_markInt64S.mono _ _ _)
   | (with_reducible exact LeO.refl _)
   | (with_reducible exact LeO.none _)
   | (with_reducible refine LeO.ite ?_ ?_)
   | (with_reducible refine LeO.bind ?_ (fun _ => ?_))
set_option maxHeartbeats 8000000 in
set_option maxRecDepth 100000 in
theorem laws_markInt64SS.calls (k : Nat) (P0_ : Nat → Prop) (u9000_ : Value) (l0 : List (List Int)) (a1 : Int) (r1 : Int) (r2 : List (List Int)) (w0 w : World) (hB : Below w0.heap.size w0 w) (ho0 : Kd.S (Kd.slice 2 (Kd.int .i64)) 47 w w0.heap.size P0_ u9000_ l0) (h : laws_markInt64SS.f k l0 a1 = some (r1, r2)) :
  Calls Tryd.prog 27 #[u9000_, .int .i64 a1] w fun e w' => e = .returned (.int .i64 r1) ∧ Kd.S (Kd.slice 2 (Kd.int .i64)) 47 w' w0.heap.size P0_ u9000_ r2 ∧ Below w0.heap.size w0 w' ∧ Kept w w' (fun k_ => P0_ k_) := by
 obtain ⟨Ao, co, eo⟩ := Kd.S_slice ho0
 subst eo
 have HO := Aside0.mk ho0
 have HB := Aside0.mk hB
 have HK := Aside0.mk (Kept.refl w P0_)
 have H' := Aside0.mk (show laws_markInt64SS.l0 k l0 a1 0 = some (r1, r2) from h)
 clear ho0 hB h
 go_enter Tryd.func27, Tryd.ntmps27
 go_wp2
 go_loopg [1, 5] k (fun kq v1 v5 w' => ∃ (x0 : List (List Int)) (x1 : Int) (x3 : Int), v1 = .int .i64 x1 ∧ v5 = .int .i64 x3 ∧ Aside0 (laws_markInt64SS.l0 kq x0 x1 x3 = some (r1, r2)) ∧ Aside0 (kq ≤ k) ∧ Aside0 (Kd.S (Kd.slice 2 (Kd.int .i64)) 47 w' w0.heap.size P0_ (.slice Ao l0.length co) x0) ∧ Aside0 (Kept w w' P0_) ∧ Aside0 (Below w0.heap.size w0 w'))
 case atStart => exact ⟨l0, a1, 0, rfl, rfl, H', ⟨Nat.le_refl _⟩, HO, HK, HB⟩
 case round =>
  clear H' HO HK HB
  obtain ⟨x0, x1, x3, rfl, rfl, HA, HK1, HO, HK, HB⟩ := hrel
  cases gk with
  | zero => exact absurd HA.out (by simp [laws_markInt64SS.l0])
  | succ k1 =>
   have hlen : l0.length = x0.length := (Kd.S_reads' HO.out).1
   have H := HA.out
   clear HA
   simp only [laws_markInt64SS.l0] at H
   by_cases c1 : x3 < (x0.length : Int)
   ·rw [if_pos c1] at H
    have c1b0 : decide (x3 < (l0.length : Int)) = true := decide_eq_true (by omega)
    by_cases c2 : 0 ≤ x3
    ·rw [if_pos c2] at H
     have c2b0 : decide (0 ≤ x3) = true := decide_eq_true c2
     replace H := Option.bind_eq_some_iff.mp H
     obtain ⟨⟨t1, t2⟩, A0, H⟩ := H
     have H' := Aside0.mk H
     clear H
     obtain ⟨le, hle⟩ : ∃ le_ : List Int, List.getD x0 x3.toNat [] = le_ := ⟨_, rfl⟩
     have A := Aside0.mk (show laws_markInt64S.f k1 le x1 = some (t1, t2) from by rw [← hle]; exact A0)
     clear A0
     obtain ⟨g, cap, eg, _, _, _⟩ := Kd.S_form HO.out (by omega)
     have eg' : Ao = some ⟨g, 0, none⟩ := by injection eg
     subst eg'
     clear eg
     obtain ⟨oki, ce, hcl, hM, hcc, hfr, hoki, hH⟩ := Kd.S_elem HO.out [] x3 c2 (by omega)
     rw [hle] at hM
     obtain ⟨ve, rfl, hR⟩ := hM
     have hx := hcc 0 _ rfl
     simp only [show (Kd.slice 2 (Kd.int .i64)).sz = 1 from rfl, Nat.mul_one, Nat.add_zero] at hx
     obtain ⟨Ae, cE, ee⟩ := Kd.R_slice hR
     subst ee
     have HR := Aside0.mk hR
     have HH := Aside0.mk hH
     have HI := Aside0.mk hoki
     clear hR hH hoki hcc hfr hcl
     have p2 : (0 ≤ x3) = True := eq_true c2
     have q2 : (x3 < (l0.length : Int)) = True := eq_true (by omega)
     clear hlen c1 c2 hle
     go_wp2_with (first | ((with_reducible refine gate_callee (f := 43) rfl ?_); refine goesL_ (some 17) rfl rfl Tryd.func43 (by kernel_rfl) rfl #[.slice Ae le.length cE, .int .i64 x1] rfl (by (try simp only [List.map_toArray, List.map_cons, List.map_nil]); first | done | rfl | (simp only [List.length_drop, List.length_take]; rfl)) ?_; (with_reducible refine (laws_markInt64S.calls k1 oki (.slice Ae le.length cE) le x1 t1 t2 w0 _ HB.out HR.out A.out).mono ?_); rintro e w5 ⟨rfl, hy, hb, hkp⟩; refine ⟨_, rfl, ?_⟩; have n0_ := Aside0.mk (Kd.H_back (Kd.H_step HH.out (fun k_ hk hn hl => hkp.2 k_ hl hn)) (x' := t2) (okp := oki) ⟨.slice Ae le.length cE, rfl, Kd.R_reok rfl hy (fun k_ e_ => HR.out.1 k_ e_)⟩ (fun _ h_ => h_)); have n1_ := Aside0.mk (Kept.then_ HK.out hkp (fun k_ hk => .inl (HI.out k_ hk).1)); have n2_ := Aside0.mk hb; clear HO HK HB HR HH HI hy hb hkp; have HO := n0_; have HK := n1_; have HB := n2_; clear n0_ n1_ n2_))
     go_roundg k1
     case measure => have := HK1.out; omega
     case rel => exact ⟨x0.set x3.toNat t2, t1, wrap64 (x3 + 1), rfl, (by first | rfl | (simp; done)), H', ⟨by have := HK1.out; omega⟩, HO, HK, HB⟩
    ·rw [if_neg c2] at H
     exact absurd H (by simp)
   ·rw [if_neg c1] at H
    have c1b0 : decide (x3 < (l0.length : Int)) = false := decide_eq_false (by omega)
    simp only [Option.some.injEq, Prod.mk.injEq] at H
    obtain ⟨rfl, rfl⟩ := H
    clear hlen c1
    go_wp2
    go_ret
    exact ⟨rfl, HO.out, HB.out, HK.out⟩

/-! ### laws_markGraph: function 13 -/
def laws_markGraph.f (k : Nat) (a0_0 : Int) (l0_1 : List (List Int)) (a1 : Int) : Option (Int × List (List Int)) := laws_markInt64SS.f k l0_1 a1
theorem laws_markGraph.mono : ∀ a0 a1 a2 k, LeO (laws_markGraph.f k a0 a1 a2) (laws_markGraph.f (k + 1) a0 a1 a2) := fun _ _ _ _ => laws_markInt64SS.mono _ _ _
set_option maxHeartbeats 8000000 in
set_option maxRecDepth 100000 in
theorem laws_markGraph.calls (k : Nat) (a0_0 : Int) (P0_1_ : Nat → Prop) (u9000_ : Value) (l0_1 : List (List Int)) (a1 : Int) (r1 : Int) (r2 : List (List Int)) (w0 w : World) (hB : Below w0.heap.size w0 w) (ho0_1 : Kd.S (Kd.slice 2 (Kd.int .i64)) 47 w w0.heap.size P0_1_ u9000_ l0_1) (h : laws_markGraph.f k a0_0 l0_1 a1 = some (r1, r2)) :
  Calls Tryd.prog 13 #[.agg #[.int .i64 a0_0, u9000_], .int .i64 a1] w fun e w' => e = .returned (.int .i64 r1) ∧ Kd.S (Kd.slice 2 (Kd.int .i64)) 47 w' w0.heap.size P0_1_ u9000_ r2 ∧ Below w0.heap.size w0 w' ∧ Kept w w' (fun k_ => P0_1_ k_) := by
 have hu28 := Tryd.underlying28
 obtain ⟨Ao, co, eo⟩ := Kd.S_slice ho0_1
 subst eo
 have HO := Aside0.mk ho0_1
 have HB := Aside0.mk hB
 have A := Aside0.mk (show laws_markInt64SS.f k l0_1 a1 = some (r1, r2) from h)
 clear ho0_1 hB h
 go_enter Tryd.func13, Tryd.ntmps13
 go_upto_region 1 with (first | ((with_reducible refine gate_dst (N := 2) rfl ?_); refine box_event ?hg (N := 2) ?hd (cs := #[.int .i64 a0_0, .slice Ao l0_1.length co]) (t := 28) ?hr ?_; (case hd => rfl); (case hg => rfl); (case hr => first | (go_simp; done) | (go_simp; rfl)); intro gb hg w3 hbox hb; have n0_ := Aside0.mk (below_step HB.out hb); have n1_ := Aside0.mk (Kd.S_below HO.out hb); have n2_ := Aside0.mk hbox; have n3_ := Aside0.mk hb; clear HB HO; have HB := n0_; have HO := n1_; have BK := n2_; have HN := n3_; clear n0_ n1_ n2_ n3_ hb hbox hg))
 (try simp only [Act.put, List.setIfInBounds_toArray, List.set_cons_zero, List.set_cons_succ])
 have hc0 : w3.cell? ⟨gb, 0, none⟩ = some (.int .i64 a0_0) := (blk_cell BK.out 0).trans rfl
 have hc1 : w3.cell? ⟨gb, 1, none⟩ = some (.slice Ao l0_1.length co) := (blk_cell BK.out 1).trans rfl
 have hf0 := blk_frozen BK.out 0
 have hf1 := blk_frozen BK.out 1
 go_wp2_with (first | ((with_reducible refine gate_callee (f := 27) rfl ?_); refine goesL_ (some 8) rfl rfl Tryd.func27 (by kernel_rfl) rfl #[.slice Ao l0_1.length co, .int .i64 a1] rfl (by (try simp only [List.map_toArray, List.map_cons, List.map_nil]); first | done | rfl) ?_; (with_reducible refine (laws_markInt64SS.calls k P0_1_ (.slice Ao l0_1.length co) l0_1 a1 r1 r2 w0 _ HB.out HO.out A.out).mono ?_); rintro e w5 ⟨rfl, hy, hb, hkp⟩; refine ⟨_, rfl, ?_⟩; have n0_ := Aside0.mk hy; have n1_ := Aside0.mk (Kept.then_ (Kept.of_below HN.out (fun k_ => P0_1_ k_)) hkp (fun k_ hk => .inl hk)); have n2_ := Aside0.mk hb; clear HO HB hy hb hkp; have HO := n0_; have HK := n1_; have HB := n2_; clear n0_ n1_ n2_))
 go_ret
 exact ⟨rfl, HO.out, HB.out, HK.out⟩

/-! ### laws_heldInt64S: function 44 -/
def laws_heldInt64S.l0 : Nat → List Int → Int → Int → Option (Int)
 | 0, _, _, _ => none
 | k + 1, x0, x1, x5 => if x5 < (x0.length : Int) then (if 0 ≤ x5 then (if (rd x0 x5) = x1 then (laws_heldInt64S.l0 k x0 (wrap64 (x1 + 1)) (wrap64 (x5 + 1))) else (some (-1))) else (none)) else (some x1)
def laws_heldInt64S.f (k : Nat) (l0 : List Int) (a1 : Int) : Option (Int) := laws_heldInt64S.l0 k l0 a1 0
theorem laws_heldInt64S.mono_l : ∀ k, (∀ y0 y1 y2, LeO (laws_heldInt64S.l0 k y0 y1 y2) (laws_heldInt64S.l0 (k + 1) y0 y1 y2))
 | 0 => fun _ _ _ r h => by simp [laws_heldInt64S.l0] at h
 | k + 1 => by
  have ih0 := laws_heldInt64S.mono_l k
  ·intro y0 y1 y2
   unfold laws_heldInt64S.l0
   repeat' first
   | (with_reducible exact ih0 _ _ _)
   | (with_reducible exact LeO.refl _)
   | (with_reducible exact LeO.none _)
   | (with_reducible refine LeO.ite ?_ ?_)
   | (with_reducible refine LeO.bind ?_ (fun _ => ?_))
theorem laws_heldInt64S.mono : ∀ a0 a1 k, LeO (laws_heldInt64S.f k a0 a1) (laws_heldInt64S.f (k + 1) a0 a1) := by
 intro a0 a1 k
 have ih0 := laws_heldInt64S.mono_l k
 unfold laws_heldInt64S.f
 repeat' first
   | (with_reducible exact ih0 _ _ _)
   | (with_reducible exact LeO.refl _)
   | (with_reducible exact LeO.none _)
   | (with_reducible refine LeO.ite ?_ ?_)
   | (with_reducible refine LeO.bind ?_ (fun _ => ?_))
set_option maxHeartbeats 8000000 in
set_option maxRecDepth 100000 in
theorem laws_heldInt64S.calls (k : Nat) (A0 : Option Addr) (c0 : Nat) (l0 : List Int) (a1 : Int) (r : Int) (w : World) (hr0 : Kd.C (Kd.int .i64) w A0 l0.length l0) (hc0 : l0.length ≤ c0) (h : laws_heldInt64S.f k l0 a1 = some r) :
  Calls Tryd.prog 44 #[.slice A0 l0.length c0, .int .i64 a1] w fun e w' => e = .returned (.int .i64 r) ∧ Drawn0 w w' := by
 have HR0 := Aside0.mk hr0
 have HC0 := Aside0.mk hc0
 clear hr0 hc0
 have H : (laws_heldInt64S.l0 k l0 a1 0) = some r := h
 clear h
 have H' := Aside0.mk H
 clear H
 go_enter Tryd.func44, Tryd.ntmps44
 go_wp2
 go_loopg [1, 5] k (fun kq v1 v5 w' => ∃ (x1_1 : Int) (x5_1 : Int), v1 = .int .i64 x1_1 ∧ v5 = .int .i64 x5_1 ∧ Aside0 (laws_heldInt64S.l0 kq l0 x1_1 x5_1 = some r) ∧ Aside0 (kq ≤ k) ∧ Drawn0 w w')
 case atStart => exact ⟨(a1), (0), (by first | rfl | (simp; done) | (simp [*]; done)), (by first | rfl | (simp; done) | (simp [*]; done)), H', ⟨Nat.le_refl _⟩, by repeat (first | exact Drawn0.refl _ | apply Drawn0.step)⟩
 case round =>
  clear H'
  try clear p2
  obtain ⟨x1_1, x5_1, rfl, rfl, HA, HK1, ⟨m1, rfl⟩⟩ := hrel
  cases gk with
  | zero => exact absurd HA.out (by simp [laws_heldInt64S.l0])
  | succ k1 =>
   have H := HA.out
   clear HA
   simp only [laws_heldInt64S.l0] at H
   by_cases c3 : x5_1 < (l0.length : Int)
   ·rw [if_pos c3] at H
    have c3b0 : decide (x5_1 < (l0.length : Int)) = true := decide_eq_true c3
    clear c3
    by_cases c4 : 0 ≤ x5_1
    ·rw [if_pos c4] at H
     have c4b0 : decide (0 ≤ x5_1) = true := decide_eq_true c4
     clear c4
     by_cases c5 : (rd l0 x5_1) = x1_1
     ·rw [if_pos c5] at H
      have c5b0 : ((rd l0 x5_1) == x1_1) = true := beq_iff_eq.mpr c5
      have c5b1 : ((rd l0 x5_1) != x1_1) = false := bne_eq_false_iff_eq.mpr c5
      clear c5
      have H' := Aside0.mk H
      clear H
      have p320 : 0 ≤ (x5_1 : Int) := of_decide_eq_true (by assumption)
      have q320 : x5_1 < (l0.length : Int) := of_decide_eq_true (by assumption)
      obtain ⟨ad320, e320, hx320_0⟩ := Kd.at_int HR0.out x5_1 p320 q320
      cases e320
      replace p320 := eq_true p320
      replace q320 := eq_true q320
      go_wp2
      go_roundg k1
      case measure => have := HK1.out; omega
      case rel => exact ⟨(wrap64 (x1_1 + 1)), (wrap64 (x5_1 + 1)), (by first | rfl | (simp; done) | (simp [*]; done)), (by first | rfl | (simp; done) | (simp [*]; done)), H', ⟨by have := HK1.out; omega⟩, by repeat (first | exact Drawn0.refl _ | apply Drawn0.step)⟩
     ·rw [if_neg c5] at H
      have c5b0 : ((rd l0 x5_1) == x1_1) = false := beq_eq_false_iff_ne.mpr c5
      have c5b1 : ((rd l0 x5_1) != x1_1) = true := bne_iff_ne.mpr c5
      obtain rfl := Option.some.inj H
      have p320 : 0 ≤ (x5_1 : Int) := of_decide_eq_true (by assumption)
      have q320 : x5_1 < (l0.length : Int) := of_decide_eq_true (by assumption)
      obtain ⟨ad320, e320, hx320_0⟩ := Kd.at_int HR0.out x5_1 p320 q320
      cases e320
      replace p320 := eq_true p320
      replace q320 := eq_true q320
      go_wp2
      go_ret
      exact ⟨by first | rfl | (simp; done) | (simp [*]; done), by repeat (first | exact Drawn0.refl _ | apply Drawn0.step)⟩
    ·rw [if_neg c4] at H
     exact absurd H (by simp)
   ·rw [if_neg c3] at H
    have c3b0 : decide (x5_1 < (l0.length : Int)) = false := decide_eq_false c3
    clear c3
    obtain rfl := Option.some.inj H
    go_wp2
    go_ret
    exact ⟨by first | rfl | (simp; done) | (simp [*]; done), by repeat (first | exact Drawn0.refl _ | apply Drawn0.step)⟩

/-! ### laws_heldInt64SS: function 28 -/
def laws_heldInt64SS.l0 : Nat → List (List Int) → Int → Int → Option (Int)
 | 0, _, _, _ => none
 | k + 1, x0, x1, x5 => if x5 < (x0.length : Int) then (if 0 ≤ x5 then ((laws_heldInt64S.f k (rd_L1 x0 x5) x1).bind fun t322 => (if t322 < 0 then (some (-1)) else (laws_heldInt64SS.l0 k x0 t322 (wrap64 (x5 + 1))))) else (none)) else (some x1)
def laws_heldInt64SS.f (k : Nat) (l0 : List (List Int)) (a1 : Int) : Option (Int) := laws_heldInt64SS.l0 k l0 a1 0
theorem laws_heldInt64SS.mono_l : ∀ k, (∀ y0 y1 y2, LeO (laws_heldInt64SS.l0 k y0 y1 y2) (laws_heldInt64SS.l0 (k + 1) y0 y1 y2))
 | 0 => fun _ _ _ r h => by simp [laws_heldInt64SS.l0] at h
 | k + 1 => by
  have ih0 := laws_heldInt64SS.mono_l k
  ·intro y0 y1 y2
   unfold laws_heldInt64SS.l0
   repeat' first
   | (with_reducible exact ih0 _ _ _)
   | (with_reducible exact laws_heldInt64S.mono _ _ _)
   | (with_reducible exact LeO.refl _)
   | (with_reducible exact LeO.none _)
   | (with_reducible refine LeO.ite ?_ ?_)
   | (with_reducible refine LeO.bind ?_ (fun _ => ?_))
theorem laws_heldInt64SS.mono : ∀ a0 a1 k, LeO (laws_heldInt64SS.f k a0 a1) (laws_heldInt64SS.f (k + 1) a0 a1) := by
 intro a0 a1 k
 have ih0 := laws_heldInt64SS.mono_l k
 unfold laws_heldInt64SS.f
 repeat' first
   | (with_reducible exact ih0 _ _ _)
   | (with_reducible exact laws_heldInt64S.mono _ _ _)
   | (with_reducible exact LeO.refl _)
   | (with_reducible exact LeO.none _)
   | (with_reducible refine LeO.ite ?_ ?_)
   | (with_reducible refine LeO.bind ?_ (fun _ => ?_))
set_option maxHeartbeats 8000000 in
set_option maxRecDepth 100000 in
theorem laws_heldInt64SS.calls (k : Nat) (A0 : Option Addr) (c0 : Nat) (l0 : List (List Int)) (a1 : Int) (r : Int) (w : World) (hr0 : Kd.C (Kd.slice 2 (Kd.int .i64)) w A0 l0.length l0) (hc0 : l0.length ≤ c0) (h : laws_heldInt64SS.f k l0 a1 = some r) :
  Calls Tryd.prog 28 #[.slice A0 l0.length c0, .int .i64 a1] w fun e w' => e = .returned (.int .i64 r) ∧ Drawn0 w w' := by
 have HR0 := Aside0.mk hr0
 have HC0 := Aside0.mk hc0
 clear hr0 hc0
 have H : (laws_heldInt64SS.l0 k l0 a1 0) = some r := h
 clear h
 have H' := Aside0.mk H
 clear H
 go_enter Tryd.func28, Tryd.ntmps28
 go_wp2
 go_loopg [1, 5] k (fun kq v1 v5 w' => ∃ (x1_1 : Int) (x5_1 : Int), v1 = .int .i64 x1_1 ∧ v5 = .int .i64 x5_1 ∧ Aside0 (laws_heldInt64SS.l0 kq l0 x1_1 x5_1 = some r) ∧ Aside0 (kq ≤ k) ∧ Drawn0 w w')
 case atStart => exact ⟨(a1), (0), (by first | rfl | (simp; done) | (simp [*]; done)), (by first | rfl | (simp; done) | (simp [*]; done)), H', ⟨Nat.le_refl _⟩, by repeat (first | exact Drawn0.refl _ | apply Drawn0.step)⟩
 case round =>
  clear H'
  try clear c2
  try clear p2
  obtain ⟨x1_1, x5_1, rfl, rfl, HA, HK1, ⟨m1, rfl⟩⟩ := hrel
  cases gk with
  | zero => exact absurd HA.out (by simp [laws_heldInt64SS.l0])
  | succ k1 =>
   have H := HA.out
   clear HA
   simp only [laws_heldInt64SS.l0] at H
   by_cases c3 : x5_1 < (l0.length : Int)
   ·rw [if_pos c3] at H
    have c3b0 : decide (x5_1 < (l0.length : Int)) = true := decide_eq_true c3
    clear c3
    by_cases c4 : 0 ≤ x5_1
    ·rw [if_pos c4] at H
     have c4b0 : decide (0 ≤ x5_1) = true := decide_eq_true c4
     clear c4
     replace H := Option.bind_eq_some_iff.mp H
     obtain ⟨t322, A50, H⟩ := H
     replace H : (if t322 < 0 then (some (-1)) else (laws_heldInt64SS.l0 k1 l0 t322 (wrap64 (x5_1 + 1)))) = some r := H
     have A5 := Aside0.mk A50
     clear A50
     by_cases c6 : t322 < 0
     ·rw [if_pos c6] at H
      have c6b0 : decide (t322 < 0) = true := decide_eq_true c6
      clear c6
      obtain rfl := Option.some.inj H
      have p321 : 0 ≤ (x5_1 : Int) := of_decide_eq_true (by assumption)
      have q321 : x5_1 < (l0.length : Int) := of_decide_eq_true (by assumption)
      obtain ⟨ad321, A321_0, c321_0, e321, hx321_0, hl321_0, hi321_0⟩ := at_L1 HR0.out x5_1 p321 q321
      cases e321
      have HR321_0 := Aside0.mk hi321_0
      have HC321_0 := Aside0.mk hl321_0
      clear hi321_0 hl321_0
      replace p321 := eq_true p321
      replace q321 := eq_true q321
      go_wp2_with (first | ((with_reducible refine gate_callee (f := 44) rfl ?_); refine goesL_ (some 17) rfl rfl Tryd.func44 (by kernel_rfl) rfl #[.slice A321_0 (rd_L1 l0 x5_1).length c321_0, .int .i64 x1_1] rfl (by (try simp only [List.map_toArray, List.map_cons, List.map_nil]); first | done | rfl | (simp only [List.length_drop, List.length_take]; rfl)) ?_; (with_reducible refine (laws_heldInt64S.calls k1 _ _ (rd_L1 l0 x5_1) x1_1 t322 _ ?side1 ?side2 A5.out).mono ?_); (case side1 => repeat (first | exact HR321_0.out | (with_reducible refine Kd.C_alloc ?_ _) | (with_reducible refine Kd.C_drewN ?_ _) | (with_reducible refine Kd.C_drew ?_))); (case side2 => exact HC321_0.out); rintro e w' ⟨rfl, ⟨nd, rfl⟩⟩; refine ⟨_, rfl, ?_⟩))
      go_ret
      exact ⟨by first | rfl | (simp; done) | (simp [*]; done), by repeat (first | exact Drawn0.refl _ | apply Drawn0.step)⟩
     ·rw [if_neg c6] at H
      have c6b0 : decide (t322 < 0) = false := decide_eq_false c6
      clear c6
      have H' := Aside0.mk H
      clear H
      have p321 : 0 ≤ (x5_1 : Int) := of_decide_eq_true (by assumption)
      have q321 : x5_1 < (l0.length : Int) := of_decide_eq_true (by assumption)
      obtain ⟨ad321, A321_0, c321_0, e321, hx321_0, hl321_0, hi321_0⟩ := at_L1 HR0.out x5_1 p321 q321
      cases e321
      have HR321_0 := Aside0.mk hi321_0
      have HC321_0 := Aside0.mk hl321_0
      clear hi321_0 hl321_0
      replace p321 := eq_true p321
      replace q321 := eq_true q321
      go_wp2_with (first | ((with_reducible refine gate_callee (f := 44) rfl ?_); refine goesL_ (some 17) rfl rfl Tryd.func44 (by kernel_rfl) rfl #[.slice A321_0 (rd_L1 l0 x5_1).length c321_0, .int .i64 x1_1] rfl (by (try simp only [List.map_toArray, List.map_cons, List.map_nil]); first | done | rfl | (simp only [List.length_drop, List.length_take]; rfl)) ?_; (with_reducible refine (laws_heldInt64S.calls k1 _ _ (rd_L1 l0 x5_1) x1_1 t322 _ ?side1 ?side2 A5.out).mono ?_); (case side1 => repeat (first | exact HR321_0.out | (with_reducible refine Kd.C_alloc ?_ _) | (with_reducible refine Kd.C_drewN ?_ _) | (with_reducible refine Kd.C_drew ?_))); (case side2 => exact HC321_0.out); rintro e w' ⟨rfl, ⟨nd, rfl⟩⟩; refine ⟨_, rfl, ?_⟩))
      go_roundg k1
      case measure => have := HK1.out; omega
      case rel => exact ⟨(t322), (wrap64 (x5_1 + 1)), (by first | rfl | (simp; done) | (simp [*]; done)), (by first | rfl | (simp; done) | (simp [*]; done)), H', ⟨by have := HK1.out; omega⟩, by repeat (first | exact Drawn0.refl _ | apply Drawn0.step)⟩
    ·rw [if_neg c4] at H
     exact absurd H (by simp)
   ·rw [if_neg c3] at H
    have c3b0 : decide (x5_1 < (l0.length : Int)) = false := decide_eq_false c3
    clear c3
    obtain rfl := Option.some.inj H
    go_wp2
    go_ret
    exact ⟨by first | rfl | (simp; done) | (simp [*]; done), by repeat (first | exact Drawn0.refl _ | apply Drawn0.step)⟩

/-! ### laws_heldGraph: function 14 -/
def laws_heldGraph.f (k : Nat) (a0_0 : Int) (l0_1 : List (List Int)) (a1 : Int) : Option (Int) := (laws_heldInt64SS.f k l0_1 a1).bind fun t324 => (if t324 < 0 then (some (-1)) else (some t324))
theorem laws_heldGraph.mono : ∀ a0 a1 a2 k, LeO (laws_heldGraph.f k a0 a1 a2) (laws_heldGraph.f (k + 1) a0 a1 a2) := by
 intro a0 a1 a2 k
 unfold laws_heldGraph.f
 repeat' first
   | (with_reducible exact laws_heldInt64SS.mono _ _ _)
   | (with_reducible exact LeO.refl _)
   | (with_reducible exact LeO.none _)
   | (with_reducible refine LeO.ite ?_ ?_)
   | (with_reducible refine LeO.bind ?_ (fun _ => ?_))
set_option maxHeartbeats 8000000 in
set_option maxRecDepth 100000 in
theorem laws_heldGraph.calls (k : Nat) (a0_0 : Int) (A0_1 : Option Addr) (c0_1 : Nat) (l0_1 : List (List Int)) (a1 : Int) (r : Int) (w : World) (hr0_1 : Kd.C (Kd.slice 2 (Kd.int .i64)) w A0_1 l0_1.length l0_1) (hc0_1 : l0_1.length ≤ c0_1) (h : laws_heldGraph.f k a0_0 l0_1 a1 = some r) :
  Calls Tryd.prog 14 #[.agg #[.int .i64 a0_0, .slice A0_1 l0_1.length c0_1], .int .i64 a1] w fun e w' => e = .returned (.int .i64 r) ∧ Below w.heap.size w w' := by
 have hu28 := Tryd.underlying28
 have HR0_1 := Aside0.mk hr0_1
 have HC0_1 := Aside0.mk hc0_1
 clear hr0_1 hc0_1
 have HB := Aside0.mk (Below.refl w.heap.size w)
 have H : ((laws_heldInt64SS.f k l0_1 a1).bind fun t324 => (if t324 < 0 then (some (-1)) else (some t324))) = some r := h
 clear h
 replace H := Option.bind_eq_some_iff.mp H
 obtain ⟨t324, A30, H⟩ := H
 replace H : (if t324 < 0 then (some (-1)) else (some t324)) = some r := H
 have A3 := Aside0.mk A30
 clear A30
 by_cases c4 : t324 < 0
 ·rw [if_pos c4] at H
  have c4b0 : decide (t324 < 0) = true := decide_eq_true c4
  clear c4
  obtain rfl := Option.some.inj H
  go_enter Tryd.func14, Tryd.ntmps14
  go_wp2_with (first | ((with_reducible refine gate_dst (N := 2) rfl ?_); refine box_event ?hg (N := 2) ?hd (cs := #[.int .i64 a0_0, .slice A0_1 l0_1.length c0_1]) (t := 28) ?hr ?_; (case hd => rfl); (case hg => rfl); (case hr => first | (go_simp; done) | (go_simp; rfl)); intro gb323 hg w5 hbox hb; have n0_ := Aside0.mk (below_step (by repeat (first | (with_reducible first | exact HB.out | apply below_alloc | apply pw_below_drewN | apply below_drew1) | exact HB.out)) hb); have n1_ := Aside0.mk (hbox); have n2_ := Aside0.mk ((by rw [hg]; exact (below_size (by repeat (first | (with_reducible first | exact HB.out | apply below_alloc | apply pw_below_drewN | apply below_drew1) | exact HB.out))) : w.heap.size ≤ gb323)); have n3_ := Aside0.mk ((by rw [hg]; exact (below_size (by repeat (first | (with_reducible first | exact HB.out | apply below_alloc | apply pw_below_drewN | apply below_drew1) | exact HB.out))) : w.heap.size ≤ gb323)); clear HB; have HB := n0_; have BK323 := n1_; have GW323 := n2_; have GE323 := n3_; clear n0_ n1_ n2_ n3_; clear hb hbox hg; have hcz6_0 : w5.cell? ⟨gb323, 0, none⟩ = some (.int .i64 a0_0) := (blk_cell BK323.out 0).trans rfl; have hcz6_1 : w5.cell? ⟨gb323, 1, none⟩ = some (.slice A0_1 l0_1.length c0_1) := (blk_cell BK323.out 1).trans rfl; have hfz6_0 := blk_frozen BK323.out 0; have hfz6_1 := blk_frozen BK323.out 1) | ((with_reducible refine gate_callee (f := 28) rfl ?_); refine goesL_ (some 8) rfl rfl Tryd.func28 (by kernel_rfl) rfl #[.slice A0_1 l0_1.length c0_1, .int .i64 a1] rfl (by (try simp only [List.map_toArray, List.map_cons, List.map_nil]); first | done | rfl | (simp only [List.length_drop, List.length_take]; rfl)) ?_; (with_reducible refine (laws_heldInt64SS.calls k _ _ l0_1 a1 t324 _ ?side1 ?side2 A3.out).mono ?_); (case side1 => repeat (first | exact (Kd.C_below HR0_1.out HB.out) | (with_reducible refine Kd.C_alloc ?_ _) | (with_reducible refine Kd.C_drewN ?_ _) | (with_reducible refine Kd.C_drew ?_))); (case side2 => exact HC0_1.out); rintro e w' ⟨rfl, ⟨nd, rfl⟩⟩; refine ⟨_, rfl, ?_⟩))
  go_ret
  exact ⟨by first | rfl | (simp [errW_none, errW_some] <;> rfl) | (simp [*, errW_none, errW_some] <;> rfl), by repeat (first | (with_reducible first | exact HB.out | apply below_alloc | apply pw_below_drewN | apply below_drew1 | refine below_set ?_ GE323.out) | exact HB.out)⟩
 ·rw [if_neg c4] at H
  have c4b0 : decide (t324 < 0) = false := decide_eq_false c4
  clear c4
  obtain rfl := Option.some.inj H
  go_enter Tryd.func14, Tryd.ntmps14
  go_wp2_with (first | ((with_reducible refine gate_dst (N := 2) rfl ?_); refine box_event ?hg (N := 2) ?hd (cs := #[.int .i64 a0_0, .slice A0_1 l0_1.length c0_1]) (t := 28) ?hr ?_; (case hd => rfl); (case hg => rfl); (case hr => first | (go_simp; done) | (go_simp; rfl)); intro gb323 hg w7 hbox hb; have n0_ := Aside0.mk (below_step (by repeat (first | (with_reducible first | exact HB.out | apply below_alloc | apply pw_below_drewN | apply below_drew1) | exact HB.out)) hb); have n1_ := Aside0.mk (hbox); have n2_ := Aside0.mk ((by rw [hg]; exact (below_size (by repeat (first | (with_reducible first | exact HB.out | apply below_alloc | apply pw_below_drewN | apply below_drew1) | exact HB.out))) : w.heap.size ≤ gb323)); have n3_ := Aside0.mk ((by rw [hg]; exact (below_size (by repeat (first | (with_reducible first | exact HB.out | apply below_alloc | apply pw_below_drewN | apply below_drew1) | exact HB.out))) : w.heap.size ≤ gb323)); clear HB; have HB := n0_; have BK323 := n1_; have GW323 := n2_; have GE323 := n3_; clear n0_ n1_ n2_ n3_; clear hb hbox hg; have hcz8_0 : w7.cell? ⟨gb323, 0, none⟩ = some (.int .i64 a0_0) := (blk_cell BK323.out 0).trans rfl; have hcz8_1 : w7.cell? ⟨gb323, 1, none⟩ = some (.slice A0_1 l0_1.length c0_1) := (blk_cell BK323.out 1).trans rfl; have hfz8_0 := blk_frozen BK323.out 0; have hfz8_1 := blk_frozen BK323.out 1) | ((with_reducible refine gate_callee (f := 28) rfl ?_); refine goesL_ (some 8) rfl rfl Tryd.func28 (by kernel_rfl) rfl #[.slice A0_1 l0_1.length c0_1, .int .i64 a1] rfl (by (try simp only [List.map_toArray, List.map_cons, List.map_nil]); first | done | rfl | (simp only [List.length_drop, List.length_take]; rfl)) ?_; (with_reducible refine (laws_heldInt64SS.calls k _ _ l0_1 a1 t324 _ ?side1 ?side2 A3.out).mono ?_); (case side1 => repeat (first | exact (Kd.C_below HR0_1.out HB.out) | (with_reducible refine Kd.C_alloc ?_ _) | (with_reducible refine Kd.C_drewN ?_ _) | (with_reducible refine Kd.C_drew ?_))); (case side2 => exact HC0_1.out); rintro e w' ⟨rfl, ⟨nd, rfl⟩⟩; refine ⟨_, rfl, ?_⟩))
  go_ret
  exact ⟨by first | rfl | (simp [errW_none, errW_some] <;> rfl) | (simp [*, errW_none, errW_some] <;> rfl), by repeat (first | (with_reducible first | exact HB.out | apply below_alloc | apply pw_below_drewN | apply below_drew1 | refine below_set ?_ GE323.out) | exact HB.out)⟩

/-! ### laws_FnExactParseGraph: function 4 -/
def laws_FnExactParseGraph.f (k : Nat) (a0 : ByteArray) : Option (Bool) := if (a0.size : Int) > 1048576 then (some true) else ((spec_ParseGraph.f k a0).bind fun bt325 => ((impl_ParseGraph.f k a0).bind fun bt331 => ((laws_eqGraph.f k bt331.1 bt331.2.1 bt325.1 bt325.2.1).bind fun t337 => (if t337 = true then (if bt331.2.2 = bt325.2.2 then ((laws_markGraph.f k bt331.1 bt331.2.1 1).bind fun bt338 => ((laws_heldGraph.f k bt331.1 bt338.2 1).bind fun t340 => (if t340 < 0 then (some false) else (if t340 = bt338.1 then ((impl_ParseGraph.f k a0).bind fun bt341 => ((laws_eqGraph.f k bt341.1 bt341.2.1 bt325.1 bt325.2.1).bind fun t347 => (if t347 = true then (if bt341.2.2 = bt325.2.2 then ((laws_heldGraph.f k bt331.1 bt338.2 1).bind fun t348 => (if t348 < 0 then (some false) else (if t348 = bt338.1 then (some true) else (some false)))) else (some false)) else (some false)))) else (some false))))) else (some false)) else (some false)))))
theorem laws_FnExactParseGraph.mono : ∀ a0 k, LeO (laws_FnExactParseGraph.f k a0) (laws_FnExactParseGraph.f (k + 1) a0) := by
 intro a0 k
 unfold laws_FnExactParseGraph.f
 repeat' first
   | (with_reducible exact impl_ParseGraph.mono _ _)
   | (with_reducible exact laws_eqGraph.mono _ _ _ _ _)
   | (with_reducible exact laws_heldGraph.mono _ _ _ _)
   | (with_reducible exact laws_markGraph.mono _ _ _ _)
   | (with_reducible exact spec_ParseGraph.mono _ _)
   | (with_reducible exact LeO.refl _)
   | (with_reducible exact LeO.none _)
   | (with_reducible refine LeO.ite ?_ ?_)
   | (with_reducible refine LeO.bind ?_ (fun _ => ?_))
set_option maxHeartbeats 8000000 in
set_option maxRecDepth 100000 in
theorem laws_FnExactParseGraph.calls (k : Nat) (a0 : ByteArray) (w : World) (h : laws_FnExactParseGraph.f k a0 = some true) :
  Calls Tryd.prog 4 #[.string a0] w fun e w' => e = .returned (.bool true) ∧ Below w.heap.size w w' := by
 have hu28 := Tryd.underlying28
 have HB := Aside0.mk (Below.refl w.heap.size w)
 have H : (if (a0.size : Int) > 1048576 then (some true) else ((spec_ParseGraph.f k a0).bind fun bt325 => ((impl_ParseGraph.f k a0).bind fun bt331 => ((laws_eqGraph.f k bt331.1 bt331.2.1 bt325.1 bt325.2.1).bind fun t337 => (if t337 = true then (if bt331.2.2 = bt325.2.2 then ((laws_markGraph.f k bt331.1 bt331.2.1 1).bind fun bt338 => ((laws_heldGraph.f k bt331.1 bt338.2 1).bind fun t340 => (if t340 < 0 then (some false) else (if t340 = bt338.1 then ((impl_ParseGraph.f k a0).bind fun bt341 => ((laws_eqGraph.f k bt341.1 bt341.2.1 bt325.1 bt325.2.1).bind fun t347 => (if t347 = true then (if bt341.2.2 = bt325.2.2 then ((laws_heldGraph.f k bt331.1 bt338.2 1).bind fun t348 => (if t348 < 0 then (some false) else (if t348 = bt338.1 then (some true) else (some false)))) else (some false)) else (some false)))) else (some false))))) else (some false)) else (some false)))))) = some true := h
 clear h
 by_cases c2 : (a0.size : Int) > 1048576
 ·rw [if_pos c2] at H
  have c2b0 : decide (1048576 < (a0.size : Int)) = true := decide_eq_true c2
  have c2b1 : decide (1048576 < a0.size) = true := decide_eq_true (by omega)
  clear c2
  try clear H
  go_enter Tryd.func4, Tryd.ntmps4
  go_wp2
  go_ret
  exact ⟨by first | rfl | (simp [errW_none, errW_some] <;> rfl) | (simp [*, errW_none, errW_some] <;> rfl), by repeat (first | (with_reducible first | exact HB.out | apply below_alloc | apply pw_below_drewN | apply below_drew1) | exact HB.out)⟩
 ·rw [if_neg c2] at H
  have c2b0 : decide (1048576 < (a0.size : Int)) = false := decide_eq_false c2
  have c2b1 : decide (1048576 < a0.size) = false := decide_eq_false (by omega)
  clear c2
  replace H := Option.bind_eq_some_iff.mp H
  obtain ⟨⟨t325, t326, t329⟩, A30, H⟩ := H
  replace H : ((impl_ParseGraph.f k a0).bind fun bt331 => ((laws_eqGraph.f k bt331.1 bt331.2.1 t325 t326).bind fun t337 => (if t337 = true then (if bt331.2.2 = t329 then ((laws_markGraph.f k bt331.1 bt331.2.1 1).bind fun bt338 => ((laws_heldGraph.f k bt331.1 bt338.2 1).bind fun t340 => (if t340 < 0 then (some false) else (if t340 = bt338.1 then ((impl_ParseGraph.f k a0).bind fun bt341 => ((laws_eqGraph.f k bt341.1 bt341.2.1 t325 t326).bind fun t347 => (if t347 = true then (if bt341.2.2 = t329 then ((laws_heldGraph.f k bt331.1 bt338.2 1).bind fun t348 => (if t348 < 0 then (some false) else (if t348 = bt338.1 then (some true) else (some false)))) else (some false)) else (some false)))) else (some false))))) else (some false)) else (some false)))) = some true := H
  have A3 := Aside0.mk A30
  clear A30
  replace H := Option.bind_eq_some_iff.mp H
  obtain ⟨⟨t331, t332, t335⟩, A40, H⟩ := H
  replace H : ((laws_eqGraph.f k t331 t332 t325 t326).bind fun t337 => (if t337 = true then (if t335 = t329 then ((laws_markGraph.f k t331 t332 1).bind fun bt338 => ((laws_heldGraph.f k t331 bt338.2 1).bind fun t340 => (if t340 < 0 then (some false) else (if t340 = bt338.1 then ((impl_ParseGraph.f k a0).bind fun bt341 => ((laws_eqGraph.f k bt341.1 bt341.2.1 t325 t326).bind fun t347 => (if t347 = true then (if bt341.2.2 = t329 then ((laws_heldGraph.f k t331 bt338.2 1).bind fun t348 => (if t348 < 0 then (some false) else (if t348 = bt338.1 then (some true) else (some false)))) else (some false)) else (some false)))) else (some false))))) else (some false)) else (some false))) = some true := H
  have A4 := Aside0.mk A40
  clear A40
  replace H := Option.bind_eq_some_iff.mp H
  obtain ⟨t337, A50, H⟩ := H
  replace H : (if t337 = true then (if t335 = t329 then ((laws_markGraph.f k t331 t332 1).bind fun bt338 => ((laws_heldGraph.f k t331 bt338.2 1).bind fun t340 => (if t340 < 0 then (some false) else (if t340 = bt338.1 then ((impl_ParseGraph.f k a0).bind fun bt341 => ((laws_eqGraph.f k bt341.1 bt341.2.1 t325 t326).bind fun t347 => (if t347 = true then (if bt341.2.2 = t329 then ((laws_heldGraph.f k t331 bt338.2 1).bind fun t348 => (if t348 < 0 then (some false) else (if t348 = bt338.1 then (some true) else (some false)))) else (some false)) else (some false)))) else (some false))))) else (some false)) else (some false)) = some true := H
  have A5 := Aside0.mk A50
  clear A50
  by_cases c6 : t337 = true
  ·subst c6
   have H1 : (if t335 = t329 then ((laws_markGraph.f k t331 t332 1).bind fun bt338 => ((laws_heldGraph.f k t331 bt338.2 1).bind fun t340 => (if t340 < 0 then (some false) else (if t340 = bt338.1 then ((impl_ParseGraph.f k a0).bind fun bt341 => ((laws_eqGraph.f k bt341.1 bt341.2.1 t325 t326).bind fun t347 => (if t347 = true then (if bt341.2.2 = t329 then ((laws_heldGraph.f k t331 bt338.2 1).bind fun t348 => (if t348 < 0 then (some false) else (if t348 = bt338.1 then (some true) else (some false)))) else (some false)) else (some false)))) else (some false))))) else (some false)) = some true := by rw [if_pos rfl] at H; exact H
   clear H
   have H := H1
   clear H1
   by_cases c7 : t335 = t329
   ·rw [if_pos c7] at H
    have c7b0 : (t335 == t329) = true := beq_iff_eq.mpr c7
    have c7b1 : (t335 != t329) = false := bne_eq_false_iff_eq.mpr c7
    clear c7
    replace H := Option.bind_eq_some_iff.mp H
    obtain ⟨⟨t338, t339⟩, A80, H⟩ := H
    replace H : ((laws_heldGraph.f k t331 t339 1).bind fun t340 => (if t340 < 0 then (some false) else (if t340 = t338 then ((impl_ParseGraph.f k a0).bind fun bt341 => ((laws_eqGraph.f k bt341.1 bt341.2.1 t325 t326).bind fun t347 => (if t347 = true then (if bt341.2.2 = t329 then ((laws_heldGraph.f k t331 t339 1).bind fun t348 => (if t348 < 0 then (some false) else (if t348 = t338 then (some true) else (some false)))) else (some false)) else (some false)))) else (some false)))) = some true := H
    have A8 := Aside0.mk A80
    clear A80
    replace H := Option.bind_eq_some_iff.mp H
    obtain ⟨t340, A90, H⟩ := H
    replace H : (if t340 < 0 then (some false) else (if t340 = t338 then ((impl_ParseGraph.f k a0).bind fun bt341 => ((laws_eqGraph.f k bt341.1 bt341.2.1 t325 t326).bind fun t347 => (if t347 = true then (if bt341.2.2 = t329 then ((laws_heldGraph.f k t331 t339 1).bind fun t348 => (if t348 < 0 then (some false) else (if t348 = t338 then (some true) else (some false)))) else (some false)) else (some false)))) else (some false))) = some true := H
    have A9 := Aside0.mk A90
    clear A90
    by_cases c10 : t340 < 0
    ·rw [if_pos c10] at H
     have c10b0 : decide (t340 < 0) = true := decide_eq_true c10
     clear c10
     exact absurd H (by simp)
    ·rw [if_neg c10] at H
     have c10b0 : decide (t340 < 0) = false := decide_eq_false c10
     clear c10
     by_cases c11 : t340 = t338
     ·rw [if_pos c11] at H
      have c11b0 : (t340 == t338) = true := beq_iff_eq.mpr c11
      have c11b1 : (t340 != t338) = false := bne_eq_false_iff_eq.mpr c11
      clear c11
      replace H := Option.bind_eq_some_iff.mp H
      obtain ⟨⟨t341, t342, t345⟩, A120, H⟩ := H
      replace H : ((laws_eqGraph.f k t341 t342 t325 t326).bind fun t347 => (if t347 = true then (if t345 = t329 then ((laws_heldGraph.f k t331 t339 1).bind fun t348 => (if t348 < 0 then (some false) else (if t348 = t338 then (some true) else (some false)))) else (some false)) else (some false))) = some true := H
      have A12 := Aside0.mk A120
      clear A120
      replace H := Option.bind_eq_some_iff.mp H
      obtain ⟨t347, A130, H⟩ := H
      replace H : (if t347 = true then (if t345 = t329 then ((laws_heldGraph.f k t331 t339 1).bind fun t348 => (if t348 < 0 then (some false) else (if t348 = t338 then (some true) else (some false)))) else (some false)) else (some false)) = some true := H
      have A13 := Aside0.mk A130
      clear A130
      by_cases c14 : t347 = true
      ·subst c14
       have H1 : (if t345 = t329 then ((laws_heldGraph.f k t331 t339 1).bind fun t348 => (if t348 < 0 then (some false) else (if t348 = t338 then (some true) else (some false)))) else (some false)) = some true := by rw [if_pos rfl] at H; exact H
       clear H
       have H := H1
       clear H1
       by_cases c15 : t345 = t329
       ·rw [if_pos c15] at H
        have c15b0 : (t345 == t329) = true := beq_iff_eq.mpr c15
        have c15b1 : (t345 != t329) = false := bne_eq_false_iff_eq.mpr c15
        clear c15
        replace H := Option.bind_eq_some_iff.mp H
        obtain ⟨t348, A160, H⟩ := H
        replace H : (if t348 < 0 then (some false) else (if t348 = t338 then (some true) else (some false))) = some true := H
        have A16 := Aside0.mk A160
        clear A160
        by_cases c17 : t348 < 0
        ·rw [if_pos c17] at H
         have c17b0 : decide (t348 < 0) = true := decide_eq_true c17
         clear c17
         exact absurd H (by simp)
        ·rw [if_neg c17] at H
         have c17b0 : decide (t348 < 0) = false := decide_eq_false c17
         clear c17
         by_cases c18 : t348 = t338
         ·rw [if_pos c18] at H
          have c18b0 : (t348 == t338) = true := beq_iff_eq.mpr c18
          have c18b1 : (t348 != t338) = false := bne_eq_false_iff_eq.mpr c18
          clear c18
          try clear H
          go_enter Tryd.func4, Tryd.ntmps4
          go_wp2_with (first | ((with_reducible refine gate_callee (f := 11) rfl ?_); refine goesL_ (some 16) rfl rfl Tryd.func11 (by kernel_rfl) rfl #[.string a0] rfl (by (try simp only [List.map_toArray, List.map_cons, List.map_nil]); first | done | rfl) ?_; (with_reducible refine (spec_ParseGraph.calls k a0 t325 t326 t329 _ A3.out).mono ?_); rintro e w19 ⟨v327, rfl, ho0, hb⟩; refine ⟨_, rfl, ?_⟩; have n0_ := Aside0.mk (Kd.S_lower (Kd.S_mono (Kd.S_bound ho0) (fun k_ hk_ => (⟨hk_.2.1, hk_.2.2.1⟩ : w.heap.size ≤ k_ ∧ k_ < w19.heap.size))) HB.out.size); have n1_ := Aside0.mk (below_step HB.out hb); have n2_ := Aside0.mk (hb.size); clear HB; have HO328 := n0_; have HB := n1_; have Zw19 := n2_; clear n0_ n1_ n2_; (try clear hb); (try clear hkp); (try clear hd_); (try clear ho0); obtain ⟨Ao20, co20, eo20⟩ := Kd.S_slice HO328.out; subst eo20) | ((with_reducible refine gate_dst (N := 3) rfl ?_); refine box_event ?hg (N := 3) ?hd (cs := #[.int .i64 0, .slice none 0 0]) (t := 28) ?hr ?_; (case hd => rfl); (case hg => rfl); (case hr => first | (go_simp; done) | (go_simp; rfl)); intro gb330 hg w21 hbox hb; have n0_ := Aside0.mk (Kd.S_below HO328.out hb); have n1_ := Aside0.mk (hb.size); have n2_ := Aside0.mk ((⟨Nat.le_of_eq hg.symm, blk_lt hbox⟩ : w19.heap.size ≤ gb330 ∧ gb330 < w21.heap.size)); have n3_ := Aside0.mk (below_step (by repeat (first | (with_reducible first | exact HB.out | apply below_alloc | apply pw_below_drewN | apply below_drew1) | exact HB.out)) hb); have n4_ := Aside0.mk (hbox); have n5_ := Aside0.mk ((by rw [hg]; exact (below_size (by repeat (first | (with_reducible first | exact HB.out | apply below_alloc | apply pw_below_drewN | apply below_drew1) | exact HB.out))) : w.heap.size ≤ gb330)); have n6_ := Aside0.mk ((by rw [hg]; exact (below_size (by repeat (first | (with_reducible first | exact HB.out | apply below_alloc | apply pw_below_drewN | apply below_drew1) | exact HB.out))) : w.heap.size ≤ gb330)); clear HO328; clear HB; have HO328 := n0_; have Zw21 := n1_; have ZB330 := n2_; have HB := n3_; have BK330 := n4_; have GW330 := n5_; have GE330 := n6_; clear n0_ n1_ n2_ n3_ n4_ n5_ n6_; clear hb hbox hg; have hcz22_0 : w21.cell? ⟨gb330, 0, none⟩ = some (.int .i64 0) := (blk_cell BK330.out 0).trans rfl; have hcz22_1 : w21.cell? ⟨gb330, 1, none⟩ = some (.slice none 0 0) := (blk_cell BK330.out 1).trans rfl; have hfz22_0 := blk_frozen BK330.out 0; have hfz22_1 := blk_frozen BK330.out 1) | ((with_reducible refine gate_callee (f := 12) rfl ?_); have n0_ := Aside0.mk (show Kd.S (Kd.slice 2 (Kd.int .i64)) 47 ((w21.setCell ⟨gb330, 0, none⟩ (.int .i64 t325)).setCell ⟨gb330, 1, none⟩ (.slice Ao20 t326.length co20)) w.heap.size (fun k_ => w.heap.size ≤ k_ ∧ k_ < w19.heap.size) (.slice Ao20 t326.length co20) t326 from (Kd.S_far (Kd.S_far HO328.out (fun k_ ho_ => (show k_ ≠ gb330 from by have h1_ := ho_.1; have h2_ := ho_.2; have h3_ := ZB330.out.1; have h4_ := ZB330.out.2; have := Zw19.out; have := Zw21.out; omega)) _) (fun k_ ho_ => (show k_ ≠ gb330 from by have h1_ := ho_.1; have h2_ := ho_.2; have h3_ := ZB330.out.1; have h4_ := ZB330.out.2; have := Zw19.out; have := Zw21.out; omega)) _)); have n1_ := Aside0.mk (show ((w21.setCell ⟨gb330, 0, none⟩ (.int .i64 t325)).setCell ⟨gb330, 1, none⟩ (.slice Ao20 t326.length co20)).heap[gb330]? = some (.cells #[.int .i64 t325, .slice Ao20 t326.length co20] 28 (0, 0)) from (by (with_reducible repeat (first | refine blk_drewN ?_ _ | refine blk_drew ?_ | refine blk_alloc ?_ _)); refine blk_put (cs := #[.int .i64 t325, .slice none 0 0]) ?_ 1 _ rfl; (with_reducible repeat (first | refine blk_drewN ?_ _ | refine blk_drew ?_ | refine blk_alloc ?_ _)); refine blk_put (cs := #[.int .i64 0, .slice none 0 0]) ?_ 0 _ rfl; (with_reducible repeat (first | refine blk_drewN ?_ _ | refine blk_drew ?_ | refine blk_alloc ?_ _)); exact BK330.out)); have n2_ := Aside0.mk (show Below w.heap.size w ((w21.setCell ⟨gb330, 0, none⟩ (.int .i64 t325)).setCell ⟨gb330, 1, none⟩ (.slice Ao20 t326.length co20)) from (below_set (below_set HB.out GE330.out) GE330.out)); have n3_ := Aside0.mk (show w21.heap.size ≤ ((w21.setCell ⟨gb330, 0, none⟩ (.int .i64 t325)).setCell ⟨gb330, 1, none⟩ (.slice Ao20 t326.length co20)).heap.size from (Kept.setCell (Kept.setCell (Kept.refl w21 (fun _ => True)) (.inl trivial) _) (.inl trivial) _).1); clear HO328; clear BK330; clear HB; generalize hW_ : ((w21.setCell ⟨gb330, 0, none⟩ (.int .i64 t325)).setCell ⟨gb330, 1, none⟩ (.slice Ao20 t326.length co20)) = w23 at n0_ n1_ n2_ n3_ ⊢; clear hW_; have HO328 := n0_; have BK330 := n1_; have HB := n2_; have Zw23 := n3_; clear n0_ n1_ n2_ n3_; refine goesL_ (some 21) rfl rfl Tryd.func12 (by kernel_rfl) rfl #[.string a0] rfl (by (try simp only [List.map_toArray, List.map_cons, List.map_nil]); first | done | rfl) ?_; (with_reducible refine (impl_ParseGraph.calls k a0 t331 t332 t335 _ A4.out).mono ?_); rintro e w24 ⟨v333, rfl, ho0, hb⟩; refine ⟨_, rfl, ?_⟩; have n0_ := Aside0.mk (Kd.S_below HO328.out hb); have n1_ := Aside0.mk (blk_below (g := gb330) (o := .cells #[.int .i64 t325, .slice Ao20 t326.length co20] 28 (0, 0)) (by (with_reducible repeat (first | refine blk_drewN ?_ _ | refine blk_drew ?_ | refine blk_alloc ?_ _)); exact BK330.out) hb); have n2_ := Aside0.mk (Kd.S_lower (Kd.S_mono (Kd.S_bound ho0) (fun k_ hk_ => (⟨hk_.2.1, hk_.2.2.1⟩ : w23.heap.size ≤ k_ ∧ k_ < w24.heap.size))) HB.out.size); have n3_ := Aside0.mk (below_step HB.out hb); have n4_ := Aside0.mk (hb.size); clear HO328; clear BK330; clear HB; have HO328 := n0_; have BK330 := n1_; have HO334 := n2_; have HB := n3_; have Zw24 := n4_; clear n0_ n1_ n2_ n3_ n4_; (try clear hb); (try clear hkp); (try clear hd_); (try clear ho0); obtain ⟨Ao25, co25, eo25⟩ := Kd.S_slice HO334.out; subst eo25) | ((with_reducible refine gate_dst (N := 5) rfl ?_); refine box_event ?hg (N := 5) ?hd (cs := #[.int .i64 0, .slice none 0 0]) (t := 28) ?hr ?_; (case hd => rfl); (case hg => rfl); (case hr => first | (go_simp; done) | (go_simp; rfl)); intro gb336 hg w26 hbox hb; have n0_ := Aside0.mk (Kd.S_below HO328.out hb); have n1_ := Aside0.mk (Kd.S_below HO334.out hb); have n2_ := Aside0.mk (blk_below (g := gb330) (o := .cells #[.int .i64 t325, .slice Ao20 t326.length co20] 28 (0, 0)) (by (with_reducible repeat (first | refine blk_drewN ?_ _ | refine blk_drew ?_ | refine blk_alloc ?_ _)); exact BK330.out) hb); have n3_ := Aside0.mk (hb.size); have n4_ := Aside0.mk ((⟨Nat.le_of_eq hg.symm, blk_lt hbox⟩ : w24.heap.size ≤ gb336 ∧ gb336 < w26.heap.size)); have n5_ := Aside0.mk (below_step (by repeat (first | (with_reducible first | exact HB.out | apply below_alloc | apply pw_below_drewN | apply below_drew1 | refine below_set ?_ GE330.out) | exact HB.out)) hb); have n6_ := Aside0.mk (hbox); have n7_ := Aside0.mk ((by rw [hg]; exact (below_size (by repeat (first | (with_reducible first | exact HB.out | apply below_alloc | apply pw_below_drewN | apply below_drew1 | refine below_set ?_ GE330.out) | exact HB.out))) : w.heap.size ≤ gb336)); have n8_ := Aside0.mk ((by rw [hg]; exact (below_size (by repeat (first | (with_reducible first | exact HB.out | apply below_alloc | apply pw_below_drewN | apply below_drew1 | refine below_set ?_ GE330.out) | exact HB.out))) : w.heap.size ≤ gb336)); have n9_ := Aside0.mk ((by rw [hg]; exact Nat.ne_of_lt (blk_lt (g := gb330) (o := .cells #[.int .i64 t325, .slice Ao20 t326.length co20] 28 (0, 0)) (by (with_reducible repeat (first | refine blk_drewN ?_ _ | refine blk_drew ?_ | refine blk_alloc ?_ _)); exact BK330.out)) : gb330 ≠ gb336)); have n10_ := Aside0.mk ((by rw [hg]; exact Nat.ne_of_gt (blk_lt (g := gb330) (o := .cells #[.int .i64 t325, .slice Ao20 t326.length co20] 28 (0, 0)) (by (with_reducible repeat (first | refine blk_drewN ?_ _ | refine blk_drew ?_ | refine blk_alloc ?_ _)); exact BK330.out)) : gb336 ≠ gb330)); clear HO328; clear HO334; clear BK330; clear HB; have HO328 := n0_; have HO334 := n1_; have BK330 := n2_; have Zw26 := n3_; have ZB336 := n4_; have HB := n5_; have BK336 := n6_; have GW336 := n7_; have GE336 := n8_; have NB330_336 := n9_; have NB336_330 := n10_; clear n0_ n1_ n2_ n3_ n4_ n5_ n6_ n7_ n8_ n9_ n10_; clear hb hbox hg; have hnb27 := NB336_330.out; have hnc27 := NB330_336.out; have hcz28_0 : w26.cell? ⟨gb336, 0, none⟩ = some (.int .i64 0) := (blk_cell BK336.out 0).trans rfl; have hcz28_1 : w26.cell? ⟨gb336, 1, none⟩ = some (.slice none 0 0) := (blk_cell BK336.out 1).trans rfl; have hfz28_0 := blk_frozen BK336.out 0; have hfz28_1 := blk_frozen BK336.out 1; have hcz29_0 : w26.cell? ⟨gb330, 0, none⟩ = some (.int .i64 t325) := (blk_cell BK330.out 0).trans rfl; have hcz29_1 : w26.cell? ⟨gb330, 1, none⟩ = some (.slice Ao20 t326.length co20) := (blk_cell BK330.out 1).trans rfl; have hfz29_0 := blk_frozen BK330.out 0; have hfz29_1 := blk_frozen BK330.out 1) | ((with_reducible refine gate_callee (f := 10) rfl ?_); have n0_ := Aside0.mk (show Kd.S (Kd.slice 2 (Kd.int .i64)) 47 ((w26.setCell ⟨gb336, 0, none⟩ (.int .i64 t331)).setCell ⟨gb336, 1, none⟩ (.slice Ao25 t332.length co25)) w.heap.size (fun k_ => w.heap.size ≤ k_ ∧ k_ < w19.heap.size) (.slice Ao20 t326.length co20) t326 from (Kd.S_far (Kd.S_far HO328.out (fun k_ ho_ => (show k_ ≠ gb336 from by have h1_ := ho_.1; have h2_ := ho_.2; have h3_ := ZB336.out.1; have h4_ := ZB336.out.2; have := Zw19.out; have := Zw21.out; have := Zw23.out; have := Zw24.out; have := Zw26.out; omega)) _) (fun k_ ho_ => (show k_ ≠ gb336 from by have h1_ := ho_.1; have h2_ := ho_.2; have h3_ := ZB336.out.1; have h4_ := ZB336.out.2; have := Zw19.out; have := Zw21.out; have := Zw23.out; have := Zw24.out; have := Zw26.out; omega)) _)); have n1_ := Aside0.mk (show ((w26.setCell ⟨gb336, 0, none⟩ (.int .i64 t331)).setCell ⟨gb336, 1, none⟩ (.slice Ao25 t332.length co25)).heap[gb330]? = some (.cells #[.int .i64 t325, .slice Ao20 t326.length co20] 28 (0, 0)) from (by (with_reducible repeat (first | refine blk_drewN ?_ _ | refine blk_drew ?_ | refine blk_alloc ?_ _)); refine blk_far ?_ NB330_336.out _; (with_reducible repeat (first | refine blk_drewN ?_ _ | refine blk_drew ?_ | refine blk_alloc ?_ _)); refine blk_far ?_ NB330_336.out _; (with_reducible repeat (first | refine blk_drewN ?_ _ | refine blk_drew ?_ | refine blk_alloc ?_ _)); exact BK330.out)); have n2_ := Aside0.mk (show Kd.S (Kd.slice 2 (Kd.int .i64)) 47 ((w26.setCell ⟨gb336, 0, none⟩ (.int .i64 t331)).setCell ⟨gb336, 1, none⟩ (.slice Ao25 t332.length co25)) w.heap.size (fun k_ => w23.heap.size ≤ k_ ∧ k_ < w24.heap.size) (.slice Ao25 t332.length co25) t332 from (Kd.S_far (Kd.S_far HO334.out (fun k_ ho_ => (show k_ ≠ gb336 from by have h1_ := ho_.1; have h2_ := ho_.2; have h3_ := ZB336.out.1; have h4_ := ZB336.out.2; have := Zw19.out; have := Zw21.out; have := Zw23.out; have := Zw24.out; have := Zw26.out; omega)) _) (fun k_ ho_ => (show k_ ≠ gb336 from by have h1_ := ho_.1; have h2_ := ho_.2; have h3_ := ZB336.out.1; have h4_ := ZB336.out.2; have := Zw19.out; have := Zw21.out; have := Zw23.out; have := Zw24.out; have := Zw26.out; omega)) _)); have n3_ := Aside0.mk (show ((w26.setCell ⟨gb336, 0, none⟩ (.int .i64 t331)).setCell ⟨gb336, 1, none⟩ (.slice Ao25 t332.length co25)).heap[gb336]? = some (.cells #[.int .i64 t331, .slice Ao25 t332.length co25] 28 (0, 0)) from (by (with_reducible repeat (first | refine blk_drewN ?_ _ | refine blk_drew ?_ | refine blk_alloc ?_ _)); refine blk_put (cs := #[.int .i64 t331, .slice none 0 0]) ?_ 1 _ rfl; (with_reducible repeat (first | refine blk_drewN ?_ _ | refine blk_drew ?_ | refine blk_alloc ?_ _)); refine blk_put (cs := #[.int .i64 0, .slice none 0 0]) ?_ 0 _ rfl; (with_reducible repeat (first | refine blk_drewN ?_ _ | refine blk_drew ?_ | refine blk_alloc ?_ _)); exact BK336.out)); have n4_ := Aside0.mk (show Below w.heap.size w ((w26.setCell ⟨gb336, 0, none⟩ (.int .i64 t331)).setCell ⟨gb336, 1, none⟩ (.slice Ao25 t332.length co25)) from (below_set (below_set HB.out GE336.out) GE336.out)); have n5_ := Aside0.mk (show w26.heap.size ≤ ((w26.setCell ⟨gb336, 0, none⟩ (.int .i64 t331)).setCell ⟨gb336, 1, none⟩ (.slice Ao25 t332.length co25)).heap.size from (Kept.setCell (Kept.setCell (Kept.refl w26 (fun _ => True)) (.inl trivial) _) (.inl trivial) _).1); clear HO328; clear BK330; clear HO334; clear BK336; clear HB; generalize hW_ : ((w26.setCell ⟨gb336, 0, none⟩ (.int .i64 t331)).setCell ⟨gb336, 1, none⟩ (.slice Ao25 t332.length co25)) = w30 at n0_ n1_ n2_ n3_ n4_ n5_ ⊢; clear hW_; have HO328 := n0_; have BK330 := n1_; have HO334 := n2_; have BK336 := n3_; have HB := n4_; have Zw30 := n5_; clear n0_ n1_ n2_ n3_ n4_ n5_; refine goesL_ (some 26) rfl rfl Tryd.func10 (by kernel_rfl) rfl #[.agg #[.int .i64 t331, .slice Ao25 t332.length co25], .agg #[.int .i64 t325, .slice Ao20 t326.length co20]] rfl (by (try simp only [List.map_toArray, List.map_cons, List.map_nil]); first | done | rfl) ?_; (with_reducible refine (laws_eqGraph.calls k t331 _ _ t332 t325 _ _ t326 true _ ?side1 ?side2 ?side3 ?side4 A5.out).mono ?_); (case side1 => exact (Kd.S_reads' HO334.out).2.2); (case side2 => (have e_ := Kd.S_reads' HO334.out; have e1_ := e_.1; have e2_ := e_.2.1; omega)); (case side3 => exact (Kd.S_reads' HO328.out).2.2); (case side4 => (have e_ := Kd.S_reads' HO328.out; have e1_ := e_.1; have e2_ := e_.2.1; omega)); rintro e w31 ⟨rfl, hb⟩; refine ⟨_, rfl, ?_⟩; have n0_ := Aside0.mk (Kd.S_below HO328.out hb); have n1_ := Aside0.mk (blk_below (g := gb330) (o := .cells #[.int .i64 t325, .slice Ao20 t326.length co20] 28 (0, 0)) (by (with_reducible repeat (first | refine blk_drewN ?_ _ | refine blk_drew ?_ | refine blk_alloc ?_ _)); exact BK330.out) hb); have n2_ := Aside0.mk (Kd.S_below HO334.out hb); have n3_ := Aside0.mk (blk_below (g := gb336) (o := .cells #[.int .i64 t331, .slice Ao25 t332.length co25] 28 (0, 0)) (by (with_reducible repeat (first | refine blk_drewN ?_ _ | refine blk_drew ?_ | refine blk_alloc ?_ _)); exact BK336.out) hb); have n4_ := Aside0.mk (below_step HB.out hb); have n5_ := Aside0.mk (hb.size); clear HO328; clear BK330; clear HO334; clear BK336; clear HB; have HO328 := n0_; have BK330 := n1_; have HO334 := n2_; have BK336 := n3_; have HB := n4_; have Zw31 := n5_; clear n0_ n1_ n2_ n3_ n4_ n5_; (try clear hb); (try clear hkp); (try clear hd_); have hcz32_0 : w31.cell? ⟨gb336, 0, none⟩ = some (.int .i64 t331) := (blk_cell BK336.out 0).trans rfl; have hcz32_1 : w31.cell? ⟨gb336, 1, none⟩ = some (.slice Ao25 t332.length co25) := (blk_cell BK336.out 1).trans rfl; have hfz32_0 := blk_frozen BK336.out 0; have hfz32_1 := blk_frozen BK336.out 1) | ((with_reducible refine gate_callee (f := 13) rfl ?_); refine goesL_ (some 35) rfl rfl Tryd.func13 (by kernel_rfl) rfl #[.agg #[.int .i64 t331, .slice Ao25 t332.length co25], .int .i64 1] rfl (by (try simp only [List.map_toArray, List.map_cons, List.map_nil]); first | done | rfl) ?_; (with_reducible refine (laws_markGraph.calls k t331 (fun k_ => w23.heap.size ≤ k_ ∧ k_ < w24.heap.size) (.slice Ao25 t332.length co25) t332 1 t338 t339 w _ ?side1 ?side2 A8.out).mono ?_); (case side1 => exact HB.out); (case side2 => exact HO334.out); rintro e w33 ⟨rfl, hy0, hb, hkp⟩; refine ⟨_, rfl, ?_⟩; have n0_ := Aside0.mk (Kd.S_step HO328.out (fun k_ ho_ hl_ => hkp.2 k_ hl_ (fun hs_ => by have h1_ := ho_.1; have h2_ := ho_.2; have := Zw19.out; have := Zw21.out; have := Zw23.out; have := Zw24.out; have := Zw26.out; have := Zw30.out; have := Zw31.out; have h3_ := hs_.1; have h4_ := hs_.2; omega))); have n1_ := Aside0.mk (blk_kept (by (with_reducible repeat (first | refine blk_drewN ?_ _ | refine blk_drew ?_ | refine blk_alloc ?_ _)); exact BK330.out) hkp (fun hs_ => by have h1_ := ZB330.out.1; have h2_ := ZB330.out.2; have := Zw19.out; have := Zw21.out; have := Zw23.out; have := Zw24.out; have := Zw26.out; have := Zw30.out; have := Zw31.out; have h3_ := hs_.1; have h4_ := hs_.2; omega)); have n2_ := Aside0.mk (hy0); have n3_ := Aside0.mk (blk_kept (by (with_reducible repeat (first | refine blk_drewN ?_ _ | refine blk_drew ?_ | refine blk_alloc ?_ _)); exact BK336.out) hkp (fun hs_ => by have h1_ := ZB336.out.1; have h2_ := ZB336.out.2; have := Zw19.out; have := Zw21.out; have := Zw23.out; have := Zw24.out; have := Zw26.out; have := Zw30.out; have := Zw31.out; have h3_ := hs_.1; have h4_ := hs_.2; omega)); have n4_ := Aside0.mk (hb); have n5_ := Aside0.mk (hkp.1); clear HO328; clear BK330; clear HO334; clear BK336; clear HB; have HO328 := n0_; have BK330 := n1_; have HO334 := n2_; have BK336 := n3_; have HB := n4_; have Zw33 := n5_; clear n0_ n1_ n2_ n3_ n4_ n5_; (try clear hb); (try clear hkp); (try clear hd_); (try clear hy0); have hcz34_0 : w33.cell? ⟨gb336, 0, none⟩ = some (.int .i64 t331) := (blk_cell BK336.out 0).trans rfl; have hcz34_1 : w33.cell? ⟨gb336, 1, none⟩ = some (.slice Ao25 t332.length co25) := (blk_cell BK336.out 1).trans rfl; have hfz34_0 := blk_frozen BK336.out 0; have hfz34_1 := blk_frozen BK336.out 1) | ((with_reducible refine gate_callee (f := 14) rfl ?_); refine goesL_ (some 38) rfl rfl Tryd.func14 (by kernel_rfl) rfl #[.agg #[.int .i64 t331, .slice Ao25 t332.length co25], .int .i64 1] rfl (by (try simp only [List.map_toArray, List.map_cons, List.map_nil]); first | done | rfl) ?_; refine calls_of_args (args' := #[.agg #[.int .i64 t331, .slice Ao25 t339.length co25], .int .i64 1]) (by first | rfl | (rw [show t332.length = t339.length from (Kd.S_reads' HO334.out).1] <;> rfl) | (simp only [show t332.length = t339.length from (Kd.S_reads' HO334.out).1])) ?_; (with_reducible refine (laws_heldGraph.calls k t331 _ _ t339 1 t340 _ ?side1 ?side2 A9.out).mono ?_); (case side1 => exact (Kd.S_reads' HO334.out).2.2); (case side2 => (have e_ := Kd.S_reads' HO334.out; have e1_ := e_.1; have e2_ := e_.2.1; omega)); rintro e w35 ⟨rfl, hb⟩; refine ⟨_, rfl, ?_⟩; have n0_ := Aside0.mk (Kd.S_below HO328.out hb); have n1_ := Aside0.mk (blk_below (g := gb330) (o := .cells #[.int .i64 t325, .slice Ao20 t326.length co20] 28 (0, 0)) (by (with_reducible repeat (first | refine blk_drewN ?_ _ | refine blk_drew ?_ | refine blk_alloc ?_ _)); exact BK330.out) hb); have n2_ := Aside0.mk (Kd.S_below HO334.out hb); have n3_ := Aside0.mk (blk_below (g := gb336) (o := .cells #[.int .i64 t331, .slice Ao25 t332.length co25] 28 (0, 0)) (by (with_reducible repeat (first | refine blk_drewN ?_ _ | refine blk_drew ?_ | refine blk_alloc ?_ _)); exact BK336.out) hb); have n4_ := Aside0.mk (below_step HB.out hb); have n5_ := Aside0.mk (hb.size); clear HO328; clear BK330; clear HO334; clear BK336; clear HB; have HO328 := n0_; have BK330 := n1_; have HO334 := n2_; have BK336 := n3_; have HB := n4_; have Zw35 := n5_; clear n0_ n1_ n2_ n3_ n4_ n5_; (try clear hb); (try clear hkp); (try clear hd_)) | ((with_reducible refine gate_callee (f := 12) rfl ?_); refine goesL_ (some 46) rfl rfl Tryd.func12 (by kernel_rfl) rfl #[.string a0] rfl (by (try simp only [List.map_toArray, List.map_cons, List.map_nil]); first | done | rfl) ?_; (with_reducible refine (impl_ParseGraph.calls k a0 t341 t342 t345 _ A12.out).mono ?_); rintro e w36 ⟨v343, rfl, ho0, hb⟩; refine ⟨_, rfl, ?_⟩; have n0_ := Aside0.mk (Kd.S_below HO328.out hb); have n1_ := Aside0.mk (blk_below (g := gb330) (o := .cells #[.int .i64 t325, .slice Ao20 t326.length co20] 28 (0, 0)) (by (with_reducible repeat (first | refine blk_drewN ?_ _ | refine blk_drew ?_ | refine blk_alloc ?_ _)); exact BK330.out) hb); have n2_ := Aside0.mk (Kd.S_below HO334.out hb); have n3_ := Aside0.mk (blk_below (g := gb336) (o := .cells #[.int .i64 t331, .slice Ao25 t332.length co25] 28 (0, 0)) (by (with_reducible repeat (first | refine blk_drewN ?_ _ | refine blk_drew ?_ | refine blk_alloc ?_ _)); exact BK336.out) hb); have n4_ := Aside0.mk (Kd.S_lower (Kd.S_mono (Kd.S_bound ho0) (fun k_ hk_ => (⟨hk_.2.1, hk_.2.2.1⟩ : w35.heap.size ≤ k_ ∧ k_ < w36.heap.size))) HB.out.size); have n5_ := Aside0.mk (below_step HB.out hb); have n6_ := Aside0.mk (hb.size); clear HO328; clear BK330; clear HO334; clear BK336; clear HB; have HO328 := n0_; have BK330 := n1_; have HO334 := n2_; have BK336 := n3_; have HO344 := n4_; have HB := n5_; have Zw36 := n6_; clear n0_ n1_ n2_ n3_ n4_ n5_ n6_; (try clear hb); (try clear hkp); (try clear hd_); (try clear ho0); obtain ⟨Ao37, co37, eo37⟩ := Kd.S_slice HO344.out; subst eo37) | ((with_reducible refine gate_dst (N := 9) rfl ?_); refine box_event ?hg (N := 9) ?hd (cs := #[.int .i64 0, .slice none 0 0]) (t := 28) ?hr ?_; (case hd => rfl); (case hg => rfl); (case hr => first | (go_simp; done) | (go_simp; rfl)); intro gb346 hg w38 hbox hb; have n0_ := Aside0.mk (Kd.S_below HO328.out hb); have n1_ := Aside0.mk (Kd.S_below HO334.out hb); have n2_ := Aside0.mk (Kd.S_below HO344.out hb); have n3_ := Aside0.mk (blk_below (g := gb330) (o := .cells #[.int .i64 t325, .slice Ao20 t326.length co20] 28 (0, 0)) (by (with_reducible repeat (first | refine blk_drewN ?_ _ | refine blk_drew ?_ | refine blk_alloc ?_ _)); exact BK330.out) hb); have n4_ := Aside0.mk (blk_below (g := gb336) (o := .cells #[.int .i64 t331, .slice Ao25 t332.length co25] 28 (0, 0)) (by (with_reducible repeat (first | refine blk_drewN ?_ _ | refine blk_drew ?_ | refine blk_alloc ?_ _)); exact BK336.out) hb); have n5_ := Aside0.mk (hb.size); have n6_ := Aside0.mk ((⟨Nat.le_of_eq hg.symm, blk_lt hbox⟩ : w36.heap.size ≤ gb346 ∧ gb346 < w38.heap.size)); have n7_ := Aside0.mk (below_step (by repeat (first | (with_reducible first | exact HB.out | apply below_alloc | apply pw_below_drewN | apply below_drew1 | refine below_set ?_ GE330.out | refine below_set ?_ GE336.out) | exact HB.out)) hb); have n8_ := Aside0.mk (hbox); have n9_ := Aside0.mk ((by rw [hg]; exact (below_size (by repeat (first | (with_reducible first | exact HB.out | apply below_alloc | apply pw_below_drewN | apply below_drew1 | refine below_set ?_ GE330.out | refine below_set ?_ GE336.out) | exact HB.out))) : w.heap.size ≤ gb346)); have n10_ := Aside0.mk ((by rw [hg]; exact (below_size (by repeat (first | (with_reducible first | exact HB.out | apply below_alloc | apply pw_below_drewN | apply below_drew1 | refine below_set ?_ GE330.out | refine below_set ?_ GE336.out) | exact HB.out))) : w.heap.size ≤ gb346)); have n11_ := Aside0.mk ((by rw [hg]; exact Nat.ne_of_lt (blk_lt (g := gb330) (o := .cells #[.int .i64 t325, .slice Ao20 t326.length co20] 28 (0, 0)) (by (with_reducible repeat (first | refine blk_drewN ?_ _ | refine blk_drew ?_ | refine blk_alloc ?_ _)); exact BK330.out)) : gb330 ≠ gb346)); have n12_ := Aside0.mk ((by rw [hg]; exact Nat.ne_of_gt (blk_lt (g := gb330) (o := .cells #[.int .i64 t325, .slice Ao20 t326.length co20] 28 (0, 0)) (by (with_reducible repeat (first | refine blk_drewN ?_ _ | refine blk_drew ?_ | refine blk_alloc ?_ _)); exact BK330.out)) : gb346 ≠ gb330)); have n13_ := Aside0.mk ((by rw [hg]; exact Nat.ne_of_lt (blk_lt (g := gb336) (o := .cells #[.int .i64 t331, .slice Ao25 t332.length co25] 28 (0, 0)) (by (with_reducible repeat (first | refine blk_drewN ?_ _ | refine blk_drew ?_ | refine blk_alloc ?_ _)); exact BK336.out)) : gb336 ≠ gb346)); have n14_ := Aside0.mk ((by rw [hg]; exact Nat.ne_of_gt (blk_lt (g := gb336) (o := .cells #[.int .i64 t331, .slice Ao25 t332.length co25] 28 (0, 0)) (by (with_reducible repeat (first | refine blk_drewN ?_ _ | refine blk_drew ?_ | refine blk_alloc ?_ _)); exact BK336.out)) : gb346 ≠ gb336)); clear HO328; clear HO334; clear HO344; clear BK330; clear BK336; clear HB; have HO328 := n0_; have HO334 := n1_; have HO344 := n2_; have BK330 := n3_; have BK336 := n4_; have Zw38 := n5_; have ZB346 := n6_; have HB := n7_; have BK346 := n8_; have GW346 := n9_; have GE346 := n10_; have NB330_346 := n11_; have NB346_330 := n12_; have NB336_346 := n13_; have NB346_336 := n14_; clear n0_ n1_ n2_ n3_ n4_ n5_ n6_ n7_ n8_ n9_ n10_ n11_ n12_ n13_ n14_; clear hb hbox hg; have hnb39 := NB346_330.out; have hnc39 := NB330_346.out; have hnb40 := NB346_336.out; have hnc40 := NB336_346.out; have hcz41_0 : w38.cell? ⟨gb346, 0, none⟩ = some (.int .i64 0) := (blk_cell BK346.out 0).trans rfl; have hcz41_1 : w38.cell? ⟨gb346, 1, none⟩ = some (.slice none 0 0) := (blk_cell BK346.out 1).trans rfl; have hfz41_0 := blk_frozen BK346.out 0; have hfz41_1 := blk_frozen BK346.out 1; have hcz42_0 : w38.cell? ⟨gb330, 0, none⟩ = some (.int .i64 t325) := (blk_cell BK330.out 0).trans rfl; have hcz42_1 : w38.cell? ⟨gb330, 1, none⟩ = some (.slice Ao20 t326.length co20) := (blk_cell BK330.out 1).trans rfl; have hfz42_0 := blk_frozen BK330.out 0; have hfz42_1 := blk_frozen BK330.out 1) | ((with_reducible refine gate_callee (f := 10) rfl ?_); have n0_ := Aside0.mk (show Kd.S (Kd.slice 2 (Kd.int .i64)) 47 ((w38.setCell ⟨gb346, 0, none⟩ (.int .i64 t341)).setCell ⟨gb346, 1, none⟩ (.slice Ao37 t342.length co37)) w.heap.size (fun k_ => w.heap.size ≤ k_ ∧ k_ < w19.heap.size) (.slice Ao20 t326.length co20) t326 from (Kd.S_far (Kd.S_far HO328.out (fun k_ ho_ => (show k_ ≠ gb346 from by have h1_ := ho_.1; have h2_ := ho_.2; have h3_ := ZB346.out.1; have h4_ := ZB346.out.2; have := Zw19.out; have := Zw21.out; have := Zw23.out; have := Zw24.out; have := Zw26.out; have := Zw30.out; have := Zw31.out; have := Zw33.out; have := Zw35.out; have := Zw36.out; have := Zw38.out; omega)) _) (fun k_ ho_ => (show k_ ≠ gb346 from by have h1_ := ho_.1; have h2_ := ho_.2; have h3_ := ZB346.out.1; have h4_ := ZB346.out.2; have := Zw19.out; have := Zw21.out; have := Zw23.out; have := Zw24.out; have := Zw26.out; have := Zw30.out; have := Zw31.out; have := Zw33.out; have := Zw35.out; have := Zw36.out; have := Zw38.out; omega)) _)); have n1_ := Aside0.mk (show ((w38.setCell ⟨gb346, 0, none⟩ (.int .i64 t341)).setCell ⟨gb346, 1, none⟩ (.slice Ao37 t342.length co37)).heap[gb330]? = some (.cells #[.int .i64 t325, .slice Ao20 t326.length co20] 28 (0, 0)) from (by (with_reducible repeat (first | refine blk_drewN ?_ _ | refine blk_drew ?_ | refine blk_alloc ?_ _)); refine blk_far ?_ NB330_346.out _; (with_reducible repeat (first | refine blk_drewN ?_ _ | refine blk_drew ?_ | refine blk_alloc ?_ _)); refine blk_far ?_ NB330_346.out _; (with_reducible repeat (first | refine blk_drewN ?_ _ | refine blk_drew ?_ | refine blk_alloc ?_ _)); exact BK330.out)); have n2_ := Aside0.mk (show Kd.S (Kd.slice 2 (Kd.int .i64)) 47 ((w38.setCell ⟨gb346, 0, none⟩ (.int .i64 t341)).setCell ⟨gb346, 1, none⟩ (.slice Ao37 t342.length co37)) w.heap.size (fun k_ => w23.heap.size ≤ k_ ∧ k_ < w24.heap.size) (.slice Ao25 t332.length co25) t339 from (Kd.S_far (Kd.S_far HO334.out (fun k_ ho_ => (show k_ ≠ gb346 from by have h1_ := ho_.1; have h2_ := ho_.2; have h3_ := ZB346.out.1; have h4_ := ZB346.out.2; have := Zw19.out; have := Zw21.out; have := Zw23.out; have := Zw24.out; have := Zw26.out; have := Zw30.out; have := Zw31.out; have := Zw33.out; have := Zw35.out; have := Zw36.out; have := Zw38.out; omega)) _) (fun k_ ho_ => (show k_ ≠ gb346 from by have h1_ := ho_.1; have h2_ := ho_.2; have h3_ := ZB346.out.1; have h4_ := ZB346.out.2; have := Zw19.out; have := Zw21.out; have := Zw23.out; have := Zw24.out; have := Zw26.out; have := Zw30.out; have := Zw31.out; have := Zw33.out; have := Zw35.out; have := Zw36.out; have := Zw38.out; omega)) _)); have n3_ := Aside0.mk (show ((w38.setCell ⟨gb346, 0, none⟩ (.int .i64 t341)).setCell ⟨gb346, 1, none⟩ (.slice Ao37 t342.length co37)).heap[gb336]? = some (.cells #[.int .i64 t331, .slice Ao25 t332.length co25] 28 (0, 0)) from (by (with_reducible repeat (first | refine blk_drewN ?_ _ | refine blk_drew ?_ | refine blk_alloc ?_ _)); refine blk_far ?_ NB336_346.out _; (with_reducible repeat (first | refine blk_drewN ?_ _ | refine blk_drew ?_ | refine blk_alloc ?_ _)); refine blk_far ?_ NB336_346.out _; (with_reducible repeat (first | refine blk_drewN ?_ _ | refine blk_drew ?_ | refine blk_alloc ?_ _)); exact BK336.out)); have n4_ := Aside0.mk (show Kd.S (Kd.slice 2 (Kd.int .i64)) 47 ((w38.setCell ⟨gb346, 0, none⟩ (.int .i64 t341)).setCell ⟨gb346, 1, none⟩ (.slice Ao37 t342.length co37)) w.heap.size (fun k_ => w35.heap.size ≤ k_ ∧ k_ < w36.heap.size) (.slice Ao37 t342.length co37) t342 from (Kd.S_far (Kd.S_far HO344.out (fun k_ ho_ => (show k_ ≠ gb346 from by have h1_ := ho_.1; have h2_ := ho_.2; have h3_ := ZB346.out.1; have h4_ := ZB346.out.2; have := Zw19.out; have := Zw21.out; have := Zw23.out; have := Zw24.out; have := Zw26.out; have := Zw30.out; have := Zw31.out; have := Zw33.out; have := Zw35.out; have := Zw36.out; have := Zw38.out; omega)) _) (fun k_ ho_ => (show k_ ≠ gb346 from by have h1_ := ho_.1; have h2_ := ho_.2; have h3_ := ZB346.out.1; have h4_ := ZB346.out.2; have := Zw19.out; have := Zw21.out; have := Zw23.out; have := Zw24.out; have := Zw26.out; have := Zw30.out; have := Zw31.out; have := Zw33.out; have := Zw35.out; have := Zw36.out; have := Zw38.out; omega)) _)); have n5_ := Aside0.mk (show ((w38.setCell ⟨gb346, 0, none⟩ (.int .i64 t341)).setCell ⟨gb346, 1, none⟩ (.slice Ao37 t342.length co37)).heap[gb346]? = some (.cells #[.int .i64 t341, .slice Ao37 t342.length co37] 28 (0, 0)) from (by (with_reducible repeat (first | refine blk_drewN ?_ _ | refine blk_drew ?_ | refine blk_alloc ?_ _)); refine blk_put (cs := #[.int .i64 t341, .slice none 0 0]) ?_ 1 _ rfl; (with_reducible repeat (first | refine blk_drewN ?_ _ | refine blk_drew ?_ | refine blk_alloc ?_ _)); refine blk_put (cs := #[.int .i64 0, .slice none 0 0]) ?_ 0 _ rfl; (with_reducible repeat (first | refine blk_drewN ?_ _ | refine blk_drew ?_ | refine blk_alloc ?_ _)); exact BK346.out)); have n6_ := Aside0.mk (show Below w.heap.size w ((w38.setCell ⟨gb346, 0, none⟩ (.int .i64 t341)).setCell ⟨gb346, 1, none⟩ (.slice Ao37 t342.length co37)) from (below_set (below_set HB.out GE346.out) GE346.out)); have n7_ := Aside0.mk (show w38.heap.size ≤ ((w38.setCell ⟨gb346, 0, none⟩ (.int .i64 t341)).setCell ⟨gb346, 1, none⟩ (.slice Ao37 t342.length co37)).heap.size from (Kept.setCell (Kept.setCell (Kept.refl w38 (fun _ => True)) (.inl trivial) _) (.inl trivial) _).1); clear HO328; clear BK330; clear HO334; clear BK336; clear HO344; clear BK346; clear HB; generalize hW_ : ((w38.setCell ⟨gb346, 0, none⟩ (.int .i64 t341)).setCell ⟨gb346, 1, none⟩ (.slice Ao37 t342.length co37)) = w43 at n0_ n1_ n2_ n3_ n4_ n5_ n6_ n7_ ⊢; clear hW_; have HO328 := n0_; have BK330 := n1_; have HO334 := n2_; have BK336 := n3_; have HO344 := n4_; have BK346 := n5_; have HB := n6_; have Zw43 := n7_; clear n0_ n1_ n2_ n3_ n4_ n5_ n6_ n7_; refine goesL_ (some 51) rfl rfl Tryd.func10 (by kernel_rfl) rfl #[.agg #[.int .i64 t341, .slice Ao37 t342.length co37], .agg #[.int .i64 t325, .slice Ao20 t326.length co20]] rfl (by (try simp only [List.map_toArray, List.map_cons, List.map_nil]); first | done | rfl) ?_; (with_reducible refine (laws_eqGraph.calls k t341 _ _ t342 t325 _ _ t326 true _ ?side1 ?side2 ?side3 ?side4 A13.out).mono ?_); (case side1 => exact (Kd.S_reads' HO344.out).2.2); (case side2 => (have e_ := Kd.S_reads' HO344.out; have e1_ := e_.1; have e2_ := e_.2.1; omega)); (case side3 => exact (Kd.S_reads' HO328.out).2.2); (case side4 => (have e_ := Kd.S_reads' HO328.out; have e1_ := e_.1; have e2_ := e_.2.1; omega)); rintro e w44 ⟨rfl, hb⟩; refine ⟨_, rfl, ?_⟩; have n0_ := Aside0.mk (Kd.S_below HO328.out hb); have n1_ := Aside0.mk (blk_below (g := gb330) (o := .cells #[.int .i64 t325, .slice Ao20 t326.length co20] 28 (0, 0)) (by (with_reducible repeat (first | refine blk_drewN ?_ _ | refine blk_drew ?_ | refine blk_alloc ?_ _)); exact BK330.out) hb); have n2_ := Aside0.mk (Kd.S_below HO334.out hb); have n3_ := Aside0.mk (blk_below (g := gb336) (o := .cells #[.int .i64 t331, .slice Ao25 t332.length co25] 28 (0, 0)) (by (with_reducible repeat (first | refine blk_drewN ?_ _ | refine blk_drew ?_ | refine blk_alloc ?_ _)); exact BK336.out) hb); have n4_ := Aside0.mk (Kd.S_below HO344.out hb); have n5_ := Aside0.mk (blk_below (g := gb346) (o := .cells #[.int .i64 t341, .slice Ao37 t342.length co37] 28 (0, 0)) (by (with_reducible repeat (first | refine blk_drewN ?_ _ | refine blk_drew ?_ | refine blk_alloc ?_ _)); exact BK346.out) hb); have n6_ := Aside0.mk (below_step HB.out hb); have n7_ := Aside0.mk (hb.size); clear HO328; clear BK330; clear HO334; clear BK336; clear HO344; clear BK346; clear HB; have HO328 := n0_; have BK330 := n1_; have HO334 := n2_; have BK336 := n3_; have HO344 := n4_; have BK346 := n5_; have HB := n6_; have Zw44 := n7_; clear n0_ n1_ n2_ n3_ n4_ n5_ n6_ n7_; (try clear hb); (try clear hkp); (try clear hd_); have hcz45_0 : w44.cell? ⟨gb336, 0, none⟩ = some (.int .i64 t331) := (blk_cell BK336.out 0).trans rfl; have hcz45_1 : w44.cell? ⟨gb336, 1, none⟩ = some (.slice Ao25 t332.length co25) := (blk_cell BK336.out 1).trans rfl; have hfz45_0 := blk_frozen BK336.out 0; have hfz45_1 := blk_frozen BK336.out 1) | ((with_reducible refine gate_callee (f := 14) rfl ?_); refine goesL_ (some 60) rfl rfl Tryd.func14 (by kernel_rfl) rfl #[.agg #[.int .i64 t331, .slice Ao25 t332.length co25], .int .i64 1] rfl (by (try simp only [List.map_toArray, List.map_cons, List.map_nil]); first | done | rfl) ?_; refine calls_of_args (args' := #[.agg #[.int .i64 t331, .slice Ao25 t339.length co25], .int .i64 1]) (by first | rfl | (rw [show t332.length = t339.length from (Kd.S_reads' HO334.out).1] <;> rfl) | (simp only [show t332.length = t339.length from (Kd.S_reads' HO334.out).1])) ?_; (with_reducible refine (laws_heldGraph.calls k t331 _ _ t339 1 t348 _ ?side1 ?side2 A16.out).mono ?_); (case side1 => exact (Kd.S_reads' HO334.out).2.2); (case side2 => (have e_ := Kd.S_reads' HO334.out; have e1_ := e_.1; have e2_ := e_.2.1; omega)); rintro e w46 ⟨rfl, hb⟩; refine ⟨_, rfl, ?_⟩; have n0_ := Aside0.mk (Kd.S_below HO328.out hb); have n1_ := Aside0.mk (blk_below (g := gb330) (o := .cells #[.int .i64 t325, .slice Ao20 t326.length co20] 28 (0, 0)) (by (with_reducible repeat (first | refine blk_drewN ?_ _ | refine blk_drew ?_ | refine blk_alloc ?_ _)); exact BK330.out) hb); have n2_ := Aside0.mk (Kd.S_below HO334.out hb); have n3_ := Aside0.mk (blk_below (g := gb336) (o := .cells #[.int .i64 t331, .slice Ao25 t332.length co25] 28 (0, 0)) (by (with_reducible repeat (first | refine blk_drewN ?_ _ | refine blk_drew ?_ | refine blk_alloc ?_ _)); exact BK336.out) hb); have n4_ := Aside0.mk (Kd.S_below HO344.out hb); have n5_ := Aside0.mk (blk_below (g := gb346) (o := .cells #[.int .i64 t341, .slice Ao37 t342.length co37] 28 (0, 0)) (by (with_reducible repeat (first | refine blk_drewN ?_ _ | refine blk_drew ?_ | refine blk_alloc ?_ _)); exact BK346.out) hb); have n6_ := Aside0.mk (below_step HB.out hb); have n7_ := Aside0.mk (hb.size); clear HO328; clear BK330; clear HO334; clear BK336; clear HO344; clear BK346; clear HB; have HO328 := n0_; have BK330 := n1_; have HO334 := n2_; have BK336 := n3_; have HO344 := n4_; have BK346 := n5_; have HB := n6_; have Zw46 := n7_; clear n0_ n1_ n2_ n3_ n4_ n5_ n6_ n7_; (try clear hb); (try clear hkp); (try clear hd_)))
          go_ret
          exact ⟨by first | rfl | (simp [errW_none, errW_some] <;> rfl) | (simp [*, errW_none, errW_some] <;> rfl), by repeat (first | (with_reducible first | exact HB.out | apply below_alloc | apply pw_below_drewN | apply below_drew1 | refine below_set ?_ GE330.out | refine below_set ?_ GE336.out | refine below_set ?_ GE346.out) | exact HB.out)⟩
         ·rw [if_neg c18] at H
          have c18b0 : (t348 == t338) = false := beq_eq_false_iff_ne.mpr c18
          have c18b1 : (t348 != t338) = true := bne_iff_ne.mpr c18
          exact absurd H (by simp)
       ·rw [if_neg c15] at H
        have c15b0 : (t345 == t329) = false := beq_eq_false_iff_ne.mpr c15
        have c15b1 : (t345 != t329) = true := bne_iff_ne.mpr c15
        exact absurd H (by simp)
      ·replace c14 := Bool.eq_false_iff.mpr c14
       subst c14
       have H1 : (some false) = some true := by rw [if_neg (show ¬ (false = true) by decide)] at H; exact H
       clear H
       have H := H1
       clear H1
       exact absurd H (by simp)
     ·rw [if_neg c11] at H
      have c11b0 : (t340 == t338) = false := beq_eq_false_iff_ne.mpr c11
      have c11b1 : (t340 != t338) = true := bne_iff_ne.mpr c11
      exact absurd H (by simp)
   ·rw [if_neg c7] at H
    have c7b0 : (t335 == t329) = false := beq_eq_false_iff_ne.mpr c7
    have c7b1 : (t335 != t329) = true := bne_iff_ne.mpr c7
    exact absurd H (by simp)
  ·replace c6 := Bool.eq_false_iff.mpr c6
   subst c6
   have H1 : (some false) = some true := by rw [if_neg (show ¬ (false = true) by decide)] at H; exact H
   clear H
   have H := H1
   clear H1
   exact absurd H (by simp)

/-- THE ONE PURE STATEMENT of laws_FnExactParseGraph: yours. -/
def laws_FnExactParseGraph.Pure : Prop := ∀ (a0 : ByteArray), a0.size ≤ 140737488351232 → ∃ k, laws_FnExactParseGraph.f k a0 = some true
theorem laws_FnExactParseGraph.walk (P : laws_FnExactParseGraph.Pure) (a0 : ByteArray) (w : World) (w0 : a0.size ≤ 140737488351232) :
  Calls Tryd.prog 4 #[.string a0] w fun e w' => e = .returned (.bool true) ∧ Below w.heap.size w w' := by
 obtain ⟨k, h⟩ := P a0 w0
 refine (laws_FnExactParseGraph.calls k a0 w h).mono ?_
 rintro e w' ⟨rfl, hd⟩
 exact ⟨rfl, hd⟩

end Go.Proofs.YtipigagbgpoecaaDoor.G
