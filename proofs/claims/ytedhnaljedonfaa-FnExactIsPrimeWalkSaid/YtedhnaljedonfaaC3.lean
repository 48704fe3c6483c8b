/- The printed functions that this law reaches, and their contracts: part 3. -/
-- printed by this repo's wip/printer out of the kit's print with its own changes
import Derived.Test.YtedhnaljedonfaaC2
namespace Go.Proofs.Ytedhnaljedonfaa.G
open Go.RowKit Go.Proofs.YtedhnaljedonfaaW.PrintWords Go.Proofs.YtedhnaljedonfaaW.PrintLast Go.Proofs.YtedhnaljedonfaaW.PrintMore
attribute [local go_sem] max2_int min2_int max_two min_two max_three min_three max_four min_four   -- for this text's walks alone
set_option linter.unusedVariables false
set_option linter.unusedSimpArgs false

/-! ### impl_Graph_isPrime: function 85 -/
def impl_Graph_isPrime.l0 : Nat → List Int → Int → Int → List (List Int) → Option (Bool)
 | 0, _, _, _, _ => none
 | k + 1, x1, x5, x884000, x884001 => if x5 < (x1.length : Int) then ((impl_turned.f x1 x5).bind fun t885 => ((slices_Equal_int64_int64.f k t885 x1).bind fun t888 => (if t888 = true then (some false) else (impl_Graph_isPrime.l0 k x1 (wrap64 (x5 + 1)) x884000 x884001)))) else ((impl_Graph_isStraight.f k x884000 x884001 x1).bind fun t884 => (some t884))
def impl_Graph_isPrime.f (k : Nat) (a0_0 : Int) (l0_1 : List (List Int)) (l1 : List Int) : Option (Bool) := impl_Graph_isPrime.l0 k l1 1 a0_0 l0_1
theorem impl_Graph_isPrime.mono_l : ∀ k, (∀ y0 y1 y2 y3, LeO (impl_Graph_isPrime.l0 k y0 y1 y2 y3) (impl_Graph_isPrime.l0 (k + 1) y0 y1 y2 y3))
 | 0 => fun _ _ _ _ r h => by simp [impl_Graph_isPrime.l0] at h
 | k + 1 => by
  have ih0 := impl_Graph_isPrime.mono_l k
  ·intro y0 y1 y2 y3
   unfold impl_Graph_isPrime.l0
   repeat' first
   | (with_reducible exact ih0 _ _ _ _)
   | (with_reducible exact impl_Graph_isStraight.mono _ _ _ _)
   | (with_reducible exact slices_Equal_int64_int64.mono _ _ _)
   | (with_reducible exact LeO.refl _)
   | (with_reducible exact LeO.none _)
   | (with_reducible refine LeO.ite ?_ ?_)
   | (with_reducible refine LeO.bind ?_ (fun _ => ?_))
theorem impl_Graph_isPrime.mono : ∀ a0 a1 a2 k, LeO (impl_Graph_isPrime.f k a0 a1 a2) (impl_Graph_isPrime.f (k + 1) a0 a1 a2) := by
 intro a0 a1 a2 k
 have ih0 := impl_Graph_isPrime.mono_l k
 unfold impl_Graph_isPrime.f
 repeat' first
   | (with_reducible exact ih0 _ _ _ _)
   | (with_reducible exact impl_Graph_isStraight.mono _ _ _ _)
   | (with_reducible exact slices_Equal_int64_int64.mono _ _ _)
   | (with_reducible exact LeO.refl _)
   | (with_reducible exact LeO.none _)
   | (with_reducible refine LeO.ite ?_ ?_)
   | (with_reducible refine LeO.bind ?_ (fun _ => ?_))
set_option maxHeartbeats 8000000 in
set_option maxRecDepth 100000 in
theorem impl_Graph_isPrime.calls (k : Nat) (a0_0 : Int) (A0_1 : Option Addr) (c0_1 : Nat) (l0_1 : List (List Int)) (A1 : Option Addr) (c1 : Nat) (l1 : List Int) (r : Bool) (w : World) (hr0_1 : Kd.C (Kd.slice 2 (Kd.int .i64)) w A0_1 l0_1.length l0_1) (hc0_1 : l0_1.length ≤ c0_1) (hr1 : Kd.C (Kd.int .i64) w A1 l1.length l1) (hc1 : l1.length ≤ c1) (h : impl_Graph_isPrime.f k a0_0 l0_1 l1 = some r) :
  Calls Try.prog 85 #[.agg #[.int .i64 a0_0, .slice A0_1 l0_1.length c0_1], .slice A1 l1.length c1] w fun e w' => e = .returned (.bool r) ∧ Below w.heap.size w w' := by
 have hu29 := Try.underlying29
 have HR0_1 := Aside0.mk hr0_1
 have HC0_1 := Aside0.mk hc0_1
 clear hr0_1 hc0_1
 have HR1 := Aside0.mk hr1
 have HC1 := Aside0.mk hc1
 clear hr1 hc1
 have HB := Aside0.mk (Below.refl w.heap.size w)
 have H : (impl_Graph_isPrime.l0 k l1 1 a0_0 l0_1) = some r := h
 clear h
 have H' := Aside0.mk H
 clear H
 go_enter Try.func85, Try.ntmps85
 go_wp2_with (first | ((with_reducible refine gate_dst (N := 2) rfl ?_); refine box_event ?hg (N := 2) ?hd (cs := #[.int .i64 a0_0, .slice A0_1 l0_1.length c0_1]) (t := 29) ?hr ?_; (case hd => rfl); (case hg => rfl); (case hr => first | (go_simp; done) | (go_simp; rfl)); intro gb883 hg w3 hbox hb; have n0_ := Aside0.mk (below_step (by repeat (first | (with_reducible first | exact HB.out | apply below_alloc | apply pw_below_drewN | apply below_drew1) | exact HB.out)) hb); have n1_ := Aside0.mk (hbox); have n2_ := Aside0.mk ((by rw [hg]; exact (below_size (by repeat (first | (with_reducible first | exact HB.out | apply below_alloc | apply pw_below_drewN | apply below_drew1) | exact HB.out))) : w.heap.size ≤ gb883)); have n3_ := Aside0.mk ((by rw [hg]; exact (below_size (by repeat (first | (with_reducible first | exact HB.out | apply below_alloc | apply pw_below_drewN | apply below_drew1) | exact HB.out))) : w.heap.size ≤ gb883)); clear HB; have HB := n0_; have BK883 := n1_; have GW883 := n2_; have GE883 := n3_; clear n0_ n1_ n2_ n3_; clear hb hbox hg))
 go_loopg [5] k (fun kq v5 w' => ∃ (x5_1 : Int), v5 = .int .i64 x5_1 ∧ Aside0 (impl_Graph_isPrime.l0 kq l1 x5_1 a0_0 l0_1 = some r) ∧ Aside0 (kq ≤ k) ∧ Aside0 (w'.heap[gb883]? = some (.cells #[.int .i64 a0_0, (.slice A0_1 l0_1.length c0_1)] 29 (0, 0))) ∧ Aside0 (Below w.heap.size w w'))
 case atStart => exact ⟨(1), (by first | rfl | (simp; done) | (simp [*]; done)), H', ⟨Nat.le_refl _⟩, ⟨by (with_reducible repeat (first | refine blk_drewN ?_ _ | refine blk_drew ?_ | refine blk_alloc ?_ _)); exact BK883.out⟩, ⟨by repeat (first | (with_reducible first | exact HB.out | apply below_alloc | apply pw_below_drewN | apply below_drew1 | refine below_set ?_ GE883.out) | exact HB.out)⟩⟩
 case round =>
  clear H'
  try clear c1
  try clear p2
  obtain ⟨x5_1, rfl, HA, HK1, BK883, HB⟩ := hrel
  cases gk with
  | zero => exact absurd HA.out (by simp [impl_Graph_isPrime.l0])
  | succ k1 =>
   have H := HA.out
   clear HA
   simp only [impl_Graph_isPrime.l0] at H
   by_cases c4 : x5_1 < (l1.length : Int)
   ·rw [if_pos c4] at H
    have c4b0 : decide (x5_1 < (l1.length : Int)) = true := decide_eq_true c4
    clear c4
    replace H := Option.bind_eq_some_iff.mp H
    obtain ⟨t885, A50, H⟩ := H
    replace H : ((slices_Equal_int64_int64.f k1 t885 l1).bind fun t888 => (if t888 = true then (some false) else (impl_Graph_isPrime.l0 k1 l1 (wrap64 (x5_1 + 1)) a0_0 l0_1))) = some r := H
    have A5 := Aside0.mk A50
    clear A50
    replace H := Option.bind_eq_some_iff.mp H
    obtain ⟨t888, A60, H⟩ := H
    replace H : (if t888 = true then (some false) else (impl_Graph_isPrime.l0 k1 l1 (wrap64 (x5_1 + 1)) a0_0 l0_1)) = some r := H
    have A6 := Aside0.mk A60
    clear A60
    by_cases c7 : t888 = true
    ·subst c7
     have H1 : (some false) = some r := by rw [if_pos rfl] at H; exact H
     clear H
     have H := H1
     clear H1
     obtain rfl := Option.some.inj H
     go_wp2_with (first | ((with_reducible refine gate_callee (f := 105) rfl ?_); refine goesL_ (some 14) rfl rfl Try.func105 (by kernel_rfl) rfl #[.slice A1 l1.length c1, .int .i64 x5_1] rfl (by (try simp only [List.map_toArray, List.map_cons, List.map_nil]); first | done | rfl | (simp only [List.length_drop, List.length_take]; rfl)) ?_; (with_reducible refine (impl_turned.calls _ _ l1 x5_1 t885 _ ?side1 ?side2 A5.out).mono ?_); (case side1 => repeat (first | exact (Kd.C_below HR1.out HB.out) | (with_reducible refine Kd.C_alloc ?_ _) | (with_reducible refine Kd.C_drewN ?_ _) | (with_reducible refine Kd.C_drew ?_))); (case side2 => exact HC1.out); rintro e w8 ⟨v886, rfl, ho0, hb⟩; refine ⟨_, rfl, ?_⟩; have n0_ := Aside0.mk (Kd.R_lower ho0 (below_size (by repeat (first | (with_reducible first | exact HB.out | apply below_alloc | apply pw_below_drewN | apply below_drew1 | refine below_set ?_ GE883.out) | exact HB.out)))); have n1_ := Aside0.mk (blk_below (g := gb883) (o := .cells #[.int .i64 a0_0, .slice A0_1 l0_1.length c0_1] 29 (0, 0)) (by (with_reducible repeat (first | refine blk_drewN ?_ _ | refine blk_drew ?_ | refine blk_alloc ?_ _)); exact BK883.out) hb); have n2_ := Aside0.mk (below_step (by repeat (first | (with_reducible first | exact HB.out | apply below_alloc | apply pw_below_drewN | apply below_drew1 | refine below_set ?_ GE883.out) | exact HB.out)) hb); clear BK883; clear HB; have HO887 := n0_; have BK883 := n1_; have HB := n2_; clear n0_ n1_ n2_; (try clear hb); (try clear hb2); (try clear hk); (try clear hi); (try clear ho0); obtain ⟨Ao9, co9, eo9⟩ := Kd.R_slice HO887.out; subst eo9) | ((with_reducible refine gate_callee (f := 104) rfl ?_); refine goesL_ (some 16) rfl rfl Try.func104 (by kernel_rfl) rfl #[.slice Ao9 t885.length co9, .slice A1 l1.length c1] rfl (by (try simp only [List.map_toArray, List.map_cons, List.map_nil]); first | done | rfl | (simp only [List.length_drop, List.length_take]; rfl)) ?_; (with_reducible refine (slices_Equal_int64_int64.calls k1 _ _ t885 _ _ l1 true _ ?side1 ?side2 ?side3 ?side4 A6.out).mono ?_); (case side1 => repeat (first | exact (Kd.R_reads' HO887.out).2.2 | (with_reducible refine Kd.C_alloc ?_ _) | (with_reducible refine Kd.C_drewN ?_ _) | (with_reducible refine Kd.C_drew ?_))); (case side2 => exact (Kd.R_reads' HO887.out).2.1); (case side3 => repeat (first | exact (Kd.C_below HR1.out HB.out) | (with_reducible refine Kd.C_alloc ?_ _) | (with_reducible refine Kd.C_drewN ?_ _) | (with_reducible refine Kd.C_drew ?_))); (case side4 => exact HC1.out); rintro e w' ⟨rfl, ⟨nd, rfl⟩⟩; refine ⟨_, rfl, ?_⟩))
     go_ret
     exact ⟨by first | rfl | (simp [errW_none, errW_some] <;> rfl) | (simp [*, errW_none, errW_some] <;> rfl), by repeat (first | (with_reducible first | exact HB.out | apply below_alloc | apply pw_below_drewN | apply below_drew1 | refine below_set ?_ GE883.out) | exact HB.out)⟩
    ·replace c7 := Bool.eq_false_iff.mpr c7
     subst c7
     have H1 : (impl_Graph_isPrime.l0 k1 l1 (wrap64 (x5_1 + 1)) a0_0 l0_1) = some r := by rw [if_neg (show ¬ (false = true) by decide)] at H; exact H
     clear H
     have H := H1
     clear H1
     have H' := Aside0.mk H
     clear H
     go_wp2_with (first | ((with_reducible refine gate_callee (f := 105) rfl ?_); refine goesL_ (some 14) rfl rfl Try.func105 (by kernel_rfl) rfl #[.slice A1 l1.length c1, .int .i64 x5_1] rfl (by (try simp only [List.map_toArray, List.map_cons, List.map_nil]); first | done | rfl | (simp only [List.length_drop, List.length_take]; rfl)) ?_; (with_reducible refine (impl_turned.calls _ _ l1 x5_1 t885 _ ?side1 ?side2 A5.out).mono ?_); (case side1 => repeat (first | exact (Kd.C_below HR1.out HB.out) | (with_reducible refine Kd.C_alloc ?_ _) | (with_reducible refine Kd.C_drewN ?_ _) | (with_reducible refine Kd.C_drew ?_))); (case side2 => exact HC1.out); rintro e w10 ⟨v886, rfl, ho0, hb⟩; refine ⟨_, rfl, ?_⟩; have n0_ := Aside0.mk (Kd.R_lower ho0 (below_size (by repeat (first | (with_reducible first | exact HB.out | apply below_alloc | apply pw_below_drewN | apply below_drew1 | refine below_set ?_ GE883.out) | exact HB.out)))); have n1_ := Aside0.mk (blk_below (g := gb883) (o := .cells #[.int .i64 a0_0, .slice A0_1 l0_1.length c0_1] 29 (0, 0)) (by (with_reducible repeat (first | refine blk_drewN ?_ _ | refine blk_drew ?_ | refine blk_alloc ?_ _)); exact BK883.out) hb); have n2_ := Aside0.mk (below_step (by repeat (first | (with_reducible first | exact HB.out | apply below_alloc | apply pw_below_drewN | apply below_drew1 | refine below_set ?_ GE883.out) | exact HB.out)) hb); clear BK883; clear HB; have HO887 := n0_; have BK883 := n1_; have HB := n2_; clear n0_ n1_ n2_; (try clear hb); (try clear hb2); (try clear hk); (try clear hi); (try clear ho0); obtain ⟨Ao11, co11, eo11⟩ := Kd.R_slice HO887.out; subst eo11) | ((with_reducible refine gate_callee (f := 104) rfl ?_); refine goesL_ (some 16) rfl rfl Try.func104 (by kernel_rfl) rfl #[.slice Ao11 t885.length co11, .slice A1 l1.length c1] rfl (by (try simp only [List.map_toArray, List.map_cons, List.map_nil]); first | done | rfl | (simp only [List.length_drop, List.length_take]; rfl)) ?_; (with_reducible refine (slices_Equal_int64_int64.calls k1 _ _ t885 _ _ l1 false _ ?side1 ?side2 ?side3 ?side4 A6.out).mono ?_); (case side1 => repeat (first | exact (Kd.R_reads' HO887.out).2.2 | (with_reducible refine Kd.C_alloc ?_ _) | (with_reducible refine Kd.C_drewN ?_ _) | (with_reducible refine Kd.C_drew ?_))); (case side2 => exact (Kd.R_reads' HO887.out).2.1); (case side3 => repeat (first | exact (Kd.C_below HR1.out HB.out) | (with_reducible refine Kd.C_alloc ?_ _) | (with_reducible refine Kd.C_drewN ?_ _) | (with_reducible refine Kd.C_drew ?_))); (case side4 => exact HC1.out); rintro e w' ⟨rfl, ⟨nd, rfl⟩⟩; refine ⟨_, rfl, ?_⟩))
     first | go_roundg k1 | (refine Handed.intro k1 ?measure ?_; rotate_left; go_step; (try simp only [add_plain]); (repeat apply Exists.intro); refine ⟨?rel, rfl⟩)
     case measure => have := HK1.out; omega
     case rel => exact ⟨(wrap64 (x5_1 + 1)), (by first | rfl | (simp; done) | (simp [*]; done)), H', ⟨by have := HK1.out; omega⟩, ⟨by (with_reducible repeat (first | refine blk_drewN ?_ _ | refine blk_drew ?_ | refine blk_alloc ?_ _)); exact BK883.out⟩, ⟨by repeat (first | (with_reducible first | exact HB.out | apply below_alloc | apply pw_below_drewN | apply below_drew1 | refine below_set ?_ GE883.out) | exact HB.out)⟩⟩
   ·rw [if_neg c4] at H
    have c4b0 : decide (x5_1 < (l1.length : Int)) = false := decide_eq_false c4
    clear c4
    replace H := Option.bind_eq_some_iff.mp H
    obtain ⟨t884, A120, H⟩ := H
    replace H : (some t884) = some r := H
    have A12 := Aside0.mk A120
    clear A120
    obtain rfl := Option.some.inj H
    have hcz13_0 : wr.cell? ⟨gb883, 0, none⟩ = some (.int .i64 a0_0) := (blk_cell BK883.out 0).trans rfl
    have hcz13_1 : wr.cell? ⟨gb883, 1, none⟩ = some (.slice A0_1 l0_1.length c0_1) := (blk_cell BK883.out 1).trans rfl
    have hfz13_0 := blk_frozen BK883.out 0
    have hfz13_1 := blk_frozen BK883.out 1
    go_wp2_with (first | ((with_reducible refine gate_callee (f := 67) rfl ?_); refine goesL_ (some 19) rfl rfl Try.func67 (by kernel_rfl) rfl #[.agg #[.int .i64 a0_0, .slice A0_1 l0_1.length c0_1], .slice A1 l1.length c1] rfl (by (try simp only [List.map_toArray, List.map_cons, List.map_nil]); first | done | rfl | (simp only [List.length_drop, List.length_take]; rfl)) ?_; (with_reducible refine (impl_Graph_isStraight.calls k1 a0_0 _ _ l0_1 _ _ l1 t884 _ ?side1 ?side2 ?side3 ?side4 A12.out).mono ?_); (case side1 => repeat (first | exact (Kd.C_below HR0_1.out HB.out) | (with_reducible refine Kd.C_alloc ?_ _) | (with_reducible refine Kd.C_drewN ?_ _) | (with_reducible refine Kd.C_drew ?_))); (case side2 => exact HC0_1.out); (case side3 => repeat (first | exact (Kd.C_below HR1.out HB.out) | (with_reducible refine Kd.C_alloc ?_ _) | (with_reducible refine Kd.C_drewN ?_ _) | (with_reducible refine Kd.C_drew ?_))); (case side4 => exact HC1.out); rintro e w14 ⟨rfl, hb⟩; refine ⟨_, rfl, ?_⟩; have n0_ := Aside0.mk (blk_below (g := gb883) (o := .cells #[.int .i64 a0_0, .slice A0_1 l0_1.length c0_1] 29 (0, 0)) (by (with_reducible repeat (first | refine blk_drewN ?_ _ | refine blk_drew ?_ | refine blk_alloc ?_ _)); exact BK883.out) hb); have n1_ := Aside0.mk (below_step (by repeat (first | (with_reducible first | exact HB.out | apply below_alloc | apply pw_below_drewN | apply below_drew1 | refine below_set ?_ GE883.out) | exact HB.out)) hb); clear BK883; clear HB; have BK883 := n0_; have HB := n1_; clear n0_ n1_; (try clear hb); (try clear hb2); (try clear hk); (try clear hi)))
    go_ret
    exact ⟨by first | rfl | (simp [errW_none, errW_some] <;> rfl) | (simp [*, errW_none, errW_some] <;> rfl), by repeat (first | (with_reducible first | exact HB.out | apply below_alloc | apply pw_below_drewN | apply below_drew1 | refine below_set ?_ GE883.out) | exact HB.out)⟩

/-! ### impl_IsPrimeWalk: function 48 -/
def impl_IsPrimeWalk.f (k : Nat) (a0_0 : Int) (l0_1 : List (List Int)) (l1 : List Int) : Option (Bool × Int) := (impl_walkCode.f k a0_0 l0_1 l1).bind fun t890 => (if t890 = 0 then ((impl_Graph_isPrime.f k a0_0 l0_1 l1).bind fun t891 => (some (t891, 0))) else (some (false, t890)))
theorem impl_IsPrimeWalk.mono : ∀ a0 a1 a2 k, LeO (impl_IsPrimeWalk.f k a0 a1 a2) (impl_IsPrimeWalk.f (k + 1) a0 a1 a2) := by
 intro a0 a1 a2 k
 unfold impl_IsPrimeWalk.f
 repeat' first
   | (with_reducible exact impl_Graph_isPrime.mono _ _ _ _)
   | (with_reducible exact impl_walkCode.mono _ _ _ _)
   | (with_reducible exact LeO.refl _)
   | (with_reducible exact LeO.none _)
   | (with_reducible refine LeO.ite ?_ ?_)
   | (with_reducible refine LeO.bind ?_ (fun _ => ?_))
set_option maxHeartbeats 8000000 in
set_option maxRecDepth 100000 in
theorem impl_IsPrimeWalk.calls (k : Nat) (a0_0 : Int) (A0_1 : Option Addr) (c0_1 : Nat) (l0_1 : List (List Int)) (A1 : Option Addr) (c1 : Nat) (l1 : List Int) (r1 : Bool) (r2 : Int) (w : World) (hr0_1 : Kd.C (Kd.slice 2 (Kd.int .i64)) w A0_1 l0_1.length l0_1) (hc0_1 : l0_1.length ≤ c0_1) (hr1 : Kd.C (Kd.int .i64) w A1 l1.length l1) (hc1 : l1.length ≤ c1) (h : impl_IsPrimeWalk.f k a0_0 l0_1 l1 = some (r1, r2)) :
  Calls Try.prog 48 #[.agg #[.int .i64 a0_0, .slice A0_1 l0_1.length c0_1], .slice A1 l1.length c1] w fun e w' => e = .returned (.tuple #[.bool r1, .int .i64 r2]) ∧ Below w.heap.size w w' := by
 have hu29 := Try.underlying29
 have HR0_1 := Aside0.mk hr0_1
 have HC0_1 := Aside0.mk hc0_1
 clear hr0_1 hc0_1
 have HR1 := Aside0.mk hr1
 have HC1 := Aside0.mk hc1
 clear hr1 hc1
 have HB := Aside0.mk (Below.refl w.heap.size w)
 have H : ((impl_walkCode.f k a0_0 l0_1 l1).bind fun t890 => (if t890 = 0 then ((impl_Graph_isPrime.f k a0_0 l0_1 l1).bind fun t891 => (some (t891, 0))) else (some (false, t890)))) = some (r1, r2) := h
 clear h
 replace H := Option.bind_eq_some_iff.mp H
 obtain ⟨t890, A30, H⟩ := H
 replace H : (if t890 = 0 then ((impl_Graph_isPrime.f k a0_0 l0_1 l1).bind fun t891 => (some (t891, 0))) else (some (false, t890))) = some (r1, r2) := H
 have A3 := Aside0.mk A30
 clear A30
 by_cases c4 : t890 = 0
 ·rw [if_pos c4] at H
  have c4b0 : (t890 == 0) = true := beq_iff_eq.mpr c4
  have c4b1 : (t890 != 0) = false := bne_eq_false_iff_eq.mpr c4
  clear c4
  replace H := Option.bind_eq_some_iff.mp H
  obtain ⟨t891, A50, H⟩ := H
  replace H : (some (t891, 0)) = some (r1, r2) := H
  have A5 := Aside0.mk A50
  clear A50
  simp only [Option.some.injEq, Prod.mk.injEq] at H
  obtain ⟨rfl, rfl⟩ := H
  go_enter Try.func48, Try.ntmps48
  go_wp2_with (first | ((with_reducible refine gate_dst (N := 2) rfl ?_); refine box_event ?hg (N := 2) ?hd (cs := #[.int .i64 a0_0, .slice A0_1 l0_1.length c0_1]) (t := 29) ?hr ?_; (case hd => rfl); (case hg => rfl); (case hr => first | (go_simp; done) | (go_simp; rfl)); intro gb889 hg w6 hbox hb; have n0_ := Aside0.mk (below_step (by repeat (first | (with_reducible first | exact HB.out | apply below_alloc | apply pw_below_drewN | apply below_drew1) | exact HB.out)) hb); have n1_ := Aside0.mk (hbox); have n2_ := Aside0.mk ((by rw [hg]; exact (below_size (by repeat (first | (with_reducible first | exact HB.out | apply below_alloc | apply pw_below_drewN | apply below_drew1) | exact HB.out))) : w.heap.size ≤ gb889)); have n3_ := Aside0.mk ((by rw [hg]; exact (below_size (by repeat (first | (with_reducible first | exact HB.out | apply below_alloc | apply pw_below_drewN | apply below_drew1) | exact HB.out))) : w.heap.size ≤ gb889)); clear HB; have HB := n0_; have BK889 := n1_; have GW889 := n2_; have GE889 := n3_; clear n0_ n1_ n2_ n3_; clear hb hbox hg; have hcz7_0 : w6.cell? ⟨gb889, 0, none⟩ = some (.int .i64 a0_0) := (blk_cell BK889.out 0).trans rfl; have hcz7_1 : w6.cell? ⟨gb889, 1, none⟩ = some (.slice A0_1 l0_1.length c0_1) := (blk_cell BK889.out 1).trans rfl; have hfz7_0 := blk_frozen BK889.out 0; have hfz7_1 := blk_frozen BK889.out 1) | ((with_reducible refine gate_callee (f := 81) rfl ?_); refine goesL_ (some 9) rfl rfl Try.func81 (by kernel_rfl) rfl #[.agg #[.int .i64 a0_0, .slice A0_1 l0_1.length c0_1], .slice A1 l1.length c1] rfl (by (try simp only [List.map_toArray, List.map_cons, List.map_nil]); first | done | rfl | (simp only [List.length_drop, List.length_take]; rfl)) ?_; (with_reducible refine (impl_walkCode.calls k a0_0 _ _ l0_1 _ _ l1 t890 _ ?side1 ?side2 ?side3 ?side4 A3.out).mono ?_); (case side1 => repeat (first | exact (Kd.C_below HR0_1.out HB.out) | (with_reducible refine Kd.C_alloc ?_ _) | (with_reducible refine Kd.C_drewN ?_ _) | (with_reducible refine Kd.C_drew ?_))); (case side2 => exact HC0_1.out); (case side3 => repeat (first | exact (Kd.C_below HR1.out HB.out) | (with_reducible refine Kd.C_alloc ?_ _) | (with_reducible refine Kd.C_drewN ?_ _) | (with_reducible refine Kd.C_drew ?_))); (case side4 => exact HC1.out); rintro e w8 ⟨rfl, hb⟩; refine ⟨_, rfl, ?_⟩; have n0_ := Aside0.mk (blk_below (g := gb889) (o := .cells #[.int .i64 a0_0, .slice A0_1 l0_1.length c0_1] 29 (0, 0)) (by (with_reducible repeat (first | refine blk_drewN ?_ _ | refine blk_drew ?_ | refine blk_alloc ?_ _)); exact BK889.out) hb); have n1_ := Aside0.mk (below_step (by repeat (first | (with_reducible first | exact HB.out | apply below_alloc | apply pw_below_drewN | apply below_drew1 | refine below_set ?_ GE889.out) | exact HB.out)) hb); clear BK889; clear HB; have BK889 := n0_; have HB := n1_; clear n0_ n1_; (try clear hb); (try clear hb2); (try clear hk); (try clear hi); have hcz9_0 : w8.cell? ⟨gb889, 0, none⟩ = some (.int .i64 a0_0) := (blk_cell BK889.out 0).trans rfl; have hcz9_1 : w8.cell? ⟨gb889, 1, none⟩ = some (.slice A0_1 l0_1.length c0_1) := (blk_cell BK889.out 1).trans rfl; have hfz9_0 := blk_frozen BK889.out 0; have hfz9_1 := blk_frozen BK889.out 1) | ((with_reducible refine gate_callee (f := 85) rfl ?_); refine goesL_ (some 15) rfl rfl Try.func85 (by kernel_rfl) rfl #[.agg #[.int .i64 a0_0, .slice A0_1 l0_1.length c0_1], .slice A1 l1.length c1] rfl (by (try simp only [List.map_toArray, List.map_cons, List.map_nil]); first | done | rfl | (simp only [List.length_drop, List.length_take]; rfl)) ?_; (with_reducible refine (impl_Graph_isPrime.calls k a0_0 _ _ l0_1 _ _ l1 t891 _ ?side1 ?side2 ?side3 ?side4 A5.out).mono ?_); (case side1 => repeat (first | exact (Kd.C_below HR0_1.out HB.out) | (with_reducible refine Kd.C_alloc ?_ _) | (with_reducible refine Kd.C_drewN ?_ _) | (with_reducible refine Kd.C_drew ?_))); (case side2 => exact HC0_1.out); (case side3 => repeat (first | exact (Kd.C_below HR1.out HB.out) | (with_reducible refine Kd.C_alloc ?_ _) | (with_reducible refine Kd.C_drewN ?_ _) | (with_reducible refine Kd.C_drew ?_))); (case side4 => exact HC1.out); rintro e w10 ⟨rfl, hb⟩; refine ⟨_, rfl, ?_⟩; have n0_ := Aside0.mk (blk_below (g := gb889) (o := .cells #[.int .i64 a0_0, .slice A0_1 l0_1.length c0_1] 29 (0, 0)) (by (with_reducible repeat (first | refine blk_drewN ?_ _ | refine blk_drew ?_ | refine blk_alloc ?_ _)); exact BK889.out) hb); have n1_ := Aside0.mk (below_step (by repeat (first | (with_reducible first | exact HB.out | apply below_alloc | apply pw_below_drewN | apply below_drew1 | refine below_set ?_ GE889.out) | exact HB.out)) hb); clear BK889; clear HB; have BK889 := n0_; have HB := n1_; clear n0_ n1_; (try clear hb); (try clear hb2); (try clear hk); (try clear hi)))
  go_ret2
  exact ⟨by first | rfl | (simp [errW_none, errW_some] <;> rfl) | (simp [*, errW_none, errW_some] <;> rfl), by repeat (first | (with_reducible first | exact HB.out | apply below_alloc | apply pw_below_drewN | apply below_drew1 | refine below_set ?_ GE889.out) | exact HB.out)⟩
 ·rw [if_neg c4] at H
  have c4b0 : (t890 == 0) = false := beq_eq_false_iff_ne.mpr c4
  have c4b1 : (t890 != 0) = true := bne_iff_ne.mpr c4
  simp only [Option.some.injEq, Prod.mk.injEq] at H
  obtain ⟨rfl, rfl⟩ := H
  go_enter Try.func48, Try.ntmps48
  go_wp2_with (first | ((with_reducible refine gate_dst (N := 2) rfl ?_); refine box_event ?hg (N := 2) ?hd (cs := #[.int .i64 a0_0, .slice A0_1 l0_1.length c0_1]) (t := 29) ?hr ?_; (case hd => rfl); (case hg => rfl); (case hr => first | (go_simp; done) | (go_simp; rfl)); intro gb889 hg w11 hbox hb; have n0_ := Aside0.mk (below_step (by repeat (first | (with_reducible first | exact HB.out | apply below_alloc | apply pw_below_drewN | apply below_drew1) | exact HB.out)) hb); have n1_ := Aside0.mk (hbox); have n2_ := Aside0.mk ((by rw [hg]; exact (below_size (by repeat (first | (with_reducible first | exact HB.out | apply below_alloc | apply pw_below_drewN | apply below_drew1) | exact HB.out))) : w.heap.size ≤ gb889)); have n3_ := Aside0.mk ((by rw [hg]; exact (below_size (by repeat (first | (with_reducible first | exact HB.out | apply below_alloc | apply pw_below_drewN | apply below_drew1) | exact HB.out))) : w.heap.size ≤ gb889)); clear HB; have HB := n0_; have BK889 := n1_; have GW889 := n2_; have GE889 := n3_; clear n0_ n1_ n2_ n3_; clear hb hbox hg; have hcz12_0 : w11.cell? ⟨gb889, 0, none⟩ = some (.int .i64 a0_0) := (blk_cell BK889.out 0).trans rfl; have hcz12_1 : w11.cell? ⟨gb889, 1, none⟩ = some (.slice A0_1 l0_1.length c0_1) := (blk_cell BK889.out 1).trans rfl; have hfz12_0 := blk_frozen BK889.out 0; have hfz12_1 := blk_frozen BK889.out 1) | ((with_reducible refine gate_callee (f := 81) rfl ?_); refine goesL_ (some 9) rfl rfl Try.func81 (by kernel_rfl) rfl #[.agg #[.int .i64 a0_0, .slice A0_1 l0_1.length c0_1], .slice A1 l1.length c1] rfl (by (try simp only [List.map_toArray, List.map_cons, List.map_nil]); first | done | rfl | (simp only [List.length_drop, List.length_take]; rfl)) ?_; (with_reducible refine (impl_walkCode.calls k a0_0 _ _ l0_1 _ _ l1 t890 _ ?side1 ?side2 ?side3 ?side4 A3.out).mono ?_); (case side1 => repeat (first | exact (Kd.C_below HR0_1.out HB.out) | (with_reducible refine Kd.C_alloc ?_ _) | (with_reducible refine Kd.C_drewN ?_ _) | (with_reducible refine Kd.C_drew ?_))); (case side2 => exact HC0_1.out); (case side3 => repeat (first | exact (Kd.C_below HR1.out HB.out) | (with_reducible refine Kd.C_alloc ?_ _) | (with_reducible refine Kd.C_drewN ?_ _) | (with_reducible refine Kd.C_drew ?_))); (case side4 => exact HC1.out); rintro e w13 ⟨rfl, hb⟩; refine ⟨_, rfl, ?_⟩; have n0_ := Aside0.mk (blk_below (g := gb889) (o := .cells #[.int .i64 a0_0, .slice A0_1 l0_1.length c0_1] 29 (0, 0)) (by (with_reducible repeat (first | refine blk_drewN ?_ _ | refine blk_drew ?_ | refine blk_alloc ?_ _)); exact BK889.out) hb); have n1_ := Aside0.mk (below_step (by repeat (first | (with_reducible first | exact HB.out | apply below_alloc | apply pw_below_drewN | apply below_drew1 | refine below_set ?_ GE889.out) | exact HB.out)) hb); clear BK889; clear HB; have BK889 := n0_; have HB := n1_; clear n0_ n1_; (try clear hb); (try clear hb2); (try clear hk); (try clear hi)))
  go_ret2
  exact ⟨by first | rfl | (simp [errW_none, errW_some] <;> rfl) | (simp [*, errW_none, errW_some] <;> rfl), by repeat (first | (with_reducible first | exact HB.out | apply below_alloc | apply pw_below_drewN | apply below_drew1 | refine below_set ?_ GE889.out) | exact HB.out)⟩

/-! ### laws_FnExactIsPrimeWalk: function 12 -/
def laws_FnExactIsPrimeWalk.f (k : Nat) (a0_0 : Int) (l0_1 : List (List Int)) (l1 : List Int) : Option (Bool) := if (l1.length : Int) > 1048576 then (some true) else ((laws_szGraph.f k a0_0 l0_1 1048576).bind fun t893 => (if t893 < 0 then (some true) else ((laws_toGraph.f k a0_0 l0_1).bind fun bt894 => ((laws_toInt64S.f k l1).bind fun t898 => ((spec_IsPrimeWalk.f k bt894.1 bt894.2 t898).bind fun bt901 => ((laws_toGraph.f k a0_0 l0_1).bind fun bt903 => ((laws_toInt64S.f k l1).bind fun t908 => ((impl_IsPrimeWalk.f k bt903.1 bt903.2 t908).bind fun bt911 => (if (bt911.1 != bt901.1) = true then (some false) else (if bt911.2 = bt901.2 then ((laws_toGraph.f k a0_0 l0_1).bind fun bt913 => ((laws_eqGraph.f k bt903.1 bt903.2 bt913.1 bt913.2).bind fun t917 => (if t917 = true then ((laws_toInt64S.f k l1).bind fun t918 => ((laws_eqInt64S.f k t908 t918).bind fun t921 => (if t921 = true then (some true) else (some false)))) else (some false)))) else (some false)))))))))))
theorem laws_FnExactIsPrimeWalk.mono : ∀ a0 a1 a2 k, LeO (laws_FnExactIsPrimeWalk.f k a0 a1 a2) (laws_FnExactIsPrimeWalk.f (k + 1) a0 a1 a2) := by
 intro a0 a1 a2 k
 unfold laws_FnExactIsPrimeWalk.f
 repeat' first
   | (with_reducible exact impl_IsPrimeWalk.mono _ _ _ _)
   | (with_reducible exact laws_eqGraph.mono _ _ _ _ _)
   | (with_reducible exact laws_eqInt64S.mono _ _ _)
   | (with_reducible exact laws_szGraph.mono _ _ _ _)
   | (with_reducible exact laws_toGraph.mono _ _ _)
   | (with_reducible exact laws_toInt64S.mono _ _)
   | (with_reducible exact spec_IsPrimeWalk.mono _ _ _ _)
   | (with_reducible exact LeO.refl _)
   | (with_reducible exact LeO.none _)
   | (with_reducible refine LeO.ite ?_ ?_)
   | (with_reducible refine LeO.bind ?_ (fun _ => ?_))
set_option maxHeartbeats 8000000 in
set_option maxRecDepth 100000 in
theorem laws_FnExactIsPrimeWalk.calls (k : Nat) (a0_0 : Int) (A0_1 : Option Addr) (c0_1 : Nat) (l0_1 : List (List Int)) (A1 : Option Addr) (c1 : Nat) (l1 : List Int) (w : World) (hr0_1 : Kd.C (Kd.slice 2 (Kd.int .i64)) w A0_1 l0_1.length l0_1) (hc0_1 : l0_1.length ≤ c0_1) (hr1 : Kd.C (Kd.int .i64) w A1 l1.length l1) (hc1 : l1.length ≤ c1) (h : laws_FnExactIsPrimeWalk.f k a0_0 l0_1 l1 = some true) :
  Calls Try.prog 12 #[.agg #[.int .i64 a0_0, .slice A0_1 l0_1.length c0_1], .slice A1 l1.length c1] w fun e w' => e = .returned (.bool true) ∧ Below w.heap.size w w' := by
 have hu24 := Try.underlying24
 have hu29 := Try.underlying29
 have HR0_1 := Aside0.mk hr0_1
 have HC0_1 := Aside0.mk hc0_1
 clear hr0_1 hc0_1
 have HR1 := Aside0.mk hr1
 have HC1 := Aside0.mk hc1
 clear hr1 hc1
 have HB := Aside0.mk (Below.refl w.heap.size w)
 have H : (if (l1.length : Int) > 1048576 then (some true) else ((laws_szGraph.f k a0_0 l0_1 1048576).bind fun t893 => (if t893 < 0 then (some true) else ((laws_toGraph.f k a0_0 l0_1).bind fun bt894 => ((laws_toInt64S.f k l1).bind fun t898 => ((spec_IsPrimeWalk.f k bt894.1 bt894.2 t898).bind fun bt901 => ((laws_toGraph.f k a0_0 l0_1).bind fun bt903 => ((laws_toInt64S.f k l1).bind fun t908 => ((impl_IsPrimeWalk.f k bt903.1 bt903.2 t908).bind fun bt911 => (if (bt911.1 != bt901.1) = true then (some false) else (if bt911.2 = bt901.2 then ((laws_toGraph.f k a0_0 l0_1).bind fun bt913 => ((laws_eqGraph.f k bt903.1 bt903.2 bt913.1 bt913.2).bind fun t917 => (if t917 = true then ((laws_toInt64S.f k l1).bind fun t918 => ((laws_eqInt64S.f k t908 t918).bind fun t921 => (if t921 = true then (some true) else (some false)))) else (some false)))) else (some false)))))))))))) = some true := h
 clear h
 by_cases c3 : (l1.length : Int) > 1048576
 ·rw [if_pos c3] at H
  have c3b0 : decide (1048576 < (l1.length : Int)) = true := decide_eq_true c3
  have c3b1 : decide (1048576 < l1.length) = true := decide_eq_true (by omega)
  clear c3
  try clear H
  go_enter Try.func12, Try.ntmps12
  go_wp2_with (first | ((with_reducible refine gate_dst (N := 2) rfl ?_); refine box_event ?hg (N := 2) ?hd (cs := #[.int .i64 a0_0, .slice A0_1 l0_1.length c0_1]) (t := 24) ?hr ?_; (case hd => rfl); (case hg => rfl); (case hr => first | (go_simp; done) | (go_simp; rfl)); intro gb892 hg w4 hbox hb; have n0_ := Aside0.mk (hb.size); have n1_ := Aside0.mk ((⟨Nat.le_of_eq hg.symm, blk_lt hbox⟩ : w.heap.size ≤ gb892 ∧ gb892 < w4.heap.size)); have n2_ := Aside0.mk (below_step (by repeat (first | (with_reducible first | exact HB.out | apply below_alloc | apply pw_below_drewN | apply below_drew1) | exact HB.out)) hb); have n3_ := Aside0.mk (hbox); have n4_ := Aside0.mk ((by rw [hg]; exact (below_size (by repeat (first | (with_reducible first | exact HB.out | apply below_alloc | apply pw_below_drewN | apply below_drew1) | exact HB.out))) : w.heap.size ≤ gb892)); have n5_ := Aside0.mk ((by rw [hg]; exact (below_size (by repeat (first | (with_reducible first | exact HB.out | apply below_alloc | apply pw_below_drewN | apply below_drew1) | exact HB.out))) : w.heap.size ≤ gb892)); clear HB; have Zw4 := n0_; have ZB892 := n1_; have HB := n2_; have BK892 := n3_; have GW892 := n4_; have GE892 := n5_; clear n0_ n1_ n2_ n3_ n4_ n5_; clear hb hbox hg))
  go_ret
  exact ⟨by first | rfl | (simp [errW_none, errW_some] <;> rfl) | (simp [*, errW_none, errW_some] <;> rfl), by repeat (first | (with_reducible first | exact HB.out | apply below_alloc | apply pw_below_drewN | apply below_drew1 | refine below_set ?_ GE892.out) | exact HB.out)⟩
 ·rw [if_neg c3] at H
  have c3b0 : decide (1048576 < (l1.length : Int)) = false := decide_eq_false c3
  have c3b1 : decide (1048576 < l1.length) = false := decide_eq_false (by omega)
  clear c3
  replace H := Option.bind_eq_some_iff.mp H
  obtain ⟨t893, A50, H⟩ := H
  replace H : (if t893 < 0 then (some true) else ((laws_toGraph.f k a0_0 l0_1).bind fun bt894 => ((laws_toInt64S.f k l1).bind fun t898 => ((spec_IsPrimeWalk.f k bt894.1 bt894.2 t898).bind fun bt901 => ((laws_toGraph.f k a0_0 l0_1).bind fun bt903 => ((laws_toInt64S.f k l1).bind fun t908 => ((impl_IsPrimeWalk.f k bt903.1 bt903.2 t908).bind fun bt911 => (if (bt911.1 != bt901.1) = true then (some false) else (if bt911.2 = bt901.2 then ((laws_toGraph.f k a0_0 l0_1).bind fun bt913 => ((laws_eqGraph.f k bt903.1 bt903.2 bt913.1 bt913.2).bind fun t917 => (if t917 = true then ((laws_toInt64S.f k l1).bind fun t918 => ((laws_eqInt64S.f k t908 t918).bind fun t921 => (if t921 = true then (some true) else (some false)))) else (some false)))) else (some false)))))))))) = some true := H
  have A5 := Aside0.mk A50
  clear A50
  by_cases c6 : t893 < 0
  ·rw [if_pos c6] at H
   have c6b0 : decide (t893 < 0) = true := decide_eq_true c6
   clear c6
   try clear H
   go_enter Try.func12, Try.ntmps12
   go_wp2_with (first | ((with_reducible refine gate_dst (N := 2) rfl ?_); refine box_event ?hg (N := 2) ?hd (cs := #[.int .i64 a0_0, .slice A0_1 l0_1.length c0_1]) (t := 24) ?hr ?_; (case hd => rfl); (case hg => rfl); (case hr => first | (go_simp; done) | (go_simp; rfl)); intro gb892 hg w7 hbox hb; have n0_ := Aside0.mk (hb.size); have n1_ := Aside0.mk ((⟨Nat.le_of_eq hg.symm, blk_lt hbox⟩ : w.heap.size ≤ gb892 ∧ gb892 < w7.heap.size)); have n2_ := Aside0.mk (below_step (by repeat (first | (with_reducible first | exact HB.out | apply below_alloc | apply pw_below_drewN | apply below_drew1) | exact HB.out)) hb); have n3_ := Aside0.mk (hbox); have n4_ := Aside0.mk ((by rw [hg]; exact (below_size (by repeat (first | (with_reducible first | exact HB.out | apply below_alloc | apply pw_below_drewN | apply below_drew1) | exact HB.out))) : w.heap.size ≤ gb892)); have n5_ := Aside0.mk ((by rw [hg]; exact (below_size (by repeat (first | (with_reducible first | exact HB.out | apply below_alloc | apply pw_below_drewN | apply below_drew1) | exact HB.out))) : w.heap.size ≤ gb892)); clear HB; have Zw7 := n0_; have ZB892 := n1_; have HB := n2_; have BK892 := n3_; have GW892 := n4_; have GE892 := n5_; clear n0_ n1_ n2_ n3_ n4_ n5_; clear hb hbox hg; have hcz8_0 : w7.cell? ⟨gb892, 0, none⟩ = some (.int .i64 a0_0) := (blk_cell BK892.out 0).trans rfl; have hcz8_1 : w7.cell? ⟨gb892, 1, none⟩ = some (.slice A0_1 l0_1.length c0_1) := (blk_cell BK892.out 1).trans rfl; have hfz8_0 := blk_frozen BK892.out 0; have hfz8_1 := blk_frozen BK892.out 1) | ((with_reducible refine gate_callee (f := 15) rfl ?_); refine goesL_ (some 17) rfl rfl Try.func15 (by kernel_rfl) rfl #[.agg #[.int .i64 a0_0, .slice A0_1 l0_1.length c0_1], .int .i64 1048576] rfl (by (try simp only [List.map_toArray, List.map_cons, List.map_nil]); first | done | rfl) ?_; (with_reducible refine (laws_szGraph.calls k a0_0 _ _ l0_1 1048576 t893 _ ?side1 ?side2 A5.out).mono ?_); (case side1 => exact (Kd.C_below HR0_1.out HB.out)); (case side2 => exact HC0_1.out); rintro e w9 ⟨rfl, hb⟩; refine ⟨_, rfl, ?_⟩; have n0_ := Aside0.mk (blk_below (g := gb892) (o := .cells #[.int .i64 a0_0, .slice A0_1 l0_1.length c0_1] 24 (0, 0)) (by (with_reducible repeat (first | refine blk_drewN ?_ _ | refine blk_drew ?_ | refine blk_alloc ?_ _)); exact BK892.out) hb); have n1_ := Aside0.mk (below_step HB.out hb); have n2_ := Aside0.mk (hb.size); clear BK892; clear HB; have BK892 := n0_; have HB := n1_; have Zw9 := n2_; clear n0_ n1_ n2_; (try clear hb); (try clear hkp); (try clear hd_)))
   go_ret
   exact ⟨by first | rfl | (simp [errW_none, errW_some] <;> rfl) | (simp [*, errW_none, errW_some] <;> rfl), by repeat (first | (with_reducible first | exact HB.out | apply below_alloc | apply pw_below_drewN | apply below_drew1 | refine below_set ?_ GE892.out) | exact HB.out)⟩
  ·rw [if_neg c6] at H
   have c6b0 : decide (t893 < 0) = false := decide_eq_false c6
   clear c6
   replace H := Option.bind_eq_some_iff.mp H
   obtain ⟨⟨t894, t895⟩, A100, H⟩ := H
   replace H : ((laws_toInt64S.f k l1).bind fun t898 => ((spec_IsPrimeWalk.f k t894 t895 t898).bind fun bt901 => ((laws_toGraph.f k a0_0 l0_1).bind fun bt903 => ((laws_toInt64S.f k l1).bind fun t908 => ((impl_IsPrimeWalk.f k bt903.1 bt903.2 t908).bind fun bt911 => (if (bt911.1 != bt901.1) = true then (some false) else (if bt911.2 = bt901.2 then ((laws_toGraph.f k a0_0 l0_1).bind fun bt913 => ((laws_eqGraph.f k bt903.1 bt903.2 bt913.1 bt913.2).bind fun t917 => (if t917 = true then ((laws_toInt64S.f k l1).bind fun t918 => ((laws_eqInt64S.f k t908 t918).bind fun t921 => (if t921 = true then (some true) else (some false)))) else (some false)))) else (some false)))))))) = some true := H
   have A10 := Aside0.mk A100
   clear A100
   replace H := Option.bind_eq_some_iff.mp H
   obtain ⟨t898, A110, H⟩ := H
   replace H : ((spec_IsPrimeWalk.f k t894 t895 t898).bind fun bt901 => ((laws_toGraph.f k a0_0 l0_1).bind fun bt903 => ((laws_toInt64S.f k l1).bind fun t908 => ((impl_IsPrimeWalk.f k bt903.1 bt903.2 t908).bind fun bt911 => (if (bt911.1 != bt901.1) = true then (some false) else (if bt911.2 = bt901.2 then ((laws_toGraph.f k a0_0 l0_1).bind fun bt913 => ((laws_eqGraph.f k bt903.1 bt903.2 bt913.1 bt913.2).bind fun t917 => (if t917 = true then ((laws_toInt64S.f k l1).bind fun t918 => ((laws_eqInt64S.f k t908 t918).bind fun t921 => (if t921 = true then (some true) else (some false)))) else (some false)))) else (some false))))))) = some true := H
   have A11 := Aside0.mk A110
   clear A110
   replace H := Option.bind_eq_some_iff.mp H
   obtain ⟨⟨t901, t902⟩, A120, H⟩ := H
   replace H : ((laws_toGraph.f k a0_0 l0_1).bind fun bt903 => ((laws_toInt64S.f k l1).bind fun t908 => ((impl_IsPrimeWalk.f k bt903.1 bt903.2 t908).bind fun bt911 => (if (bt911.1 != t901) = true then (some false) else (if bt911.2 = t902 then ((laws_toGraph.f k a0_0 l0_1).bind fun bt913 => ((laws_eqGraph.f k bt903.1 bt903.2 bt913.1 bt913.2).bind fun t917 => (if t917 = true then ((laws_toInt64S.f k l1).bind fun t918 => ((laws_eqInt64S.f k t908 t918).bind fun t921 => (if t921 = true then (some true) else (some false)))) else (some false)))) else (some false)))))) = some true := H
   have A12 := Aside0.mk A120
   clear A120
   replace H := Option.bind_eq_some_iff.mp H
   obtain ⟨⟨t903, t904⟩, A130, H⟩ := H
   replace H : ((laws_toInt64S.f k l1).bind fun t908 => ((impl_IsPrimeWalk.f k t903 t904 t908).bind fun bt911 => (if (bt911.1 != t901) = true then (some false) else (if bt911.2 = t902 then ((laws_toGraph.f k a0_0 l0_1).bind fun bt913 => ((laws_eqGraph.f k t903 t904 bt913.1 bt913.2).bind fun t917 => (if t917 = true then ((laws_toInt64S.f k l1).bind fun t918 => ((laws_eqInt64S.f k t908 t918).bind fun t921 => (if t921 = true then (some true) else (some false)))) else (some false)))) else (some false))))) = some true := H
   have A13 := Aside0.mk A130
   clear A130
   replace H := Option.bind_eq_some_iff.mp H
   obtain ⟨t908, A140, H⟩ := H
   replace H : ((impl_IsPrimeWalk.f k t903 t904 t908).bind fun bt911 => (if (bt911.1 != t901) = true then (some false) else (if bt911.2 = t902 then ((laws_toGraph.f k a0_0 l0_1).bind fun bt913 => ((laws_eqGraph.f k t903 t904 bt913.1 bt913.2).bind fun t917 => (if t917 = true then ((laws_toInt64S.f k l1).bind fun t918 => ((laws_eqInt64S.f k t908 t918).bind fun t921 => (if t921 = true then (some true) else (some false)))) else (some false)))) else (some false)))) = some true := H
   have A14 := Aside0.mk A140
   clear A140
   replace H := Option.bind_eq_some_iff.mp H
   obtain ⟨⟨t911, t912⟩, A150, H⟩ := H
   replace H : (if (t911 != t901) = true then (some false) else (if t912 = t902 then ((laws_toGraph.f k a0_0 l0_1).bind fun bt913 => ((laws_eqGraph.f k t903 t904 bt913.1 bt913.2).bind fun t917 => (if t917 = true then ((laws_toInt64S.f k l1).bind fun t918 => ((laws_eqInt64S.f k t908 t918).bind fun t921 => (if t921 = true then (some true) else (some false)))) else (some false)))) else (some false))) = some true := H
   have A15 := Aside0.mk A150
   clear A150
   by_cases c16 : (t911 != t901) = true
   ·rw [if_pos c16] at H
    have c16b0 : (t911 != t901) = true := c16
    (try (have c16b1 : decide (t911 = t901) = false := by simpa using c16))
    (try (have c16b2 : (t911 == t901) = false := by simpa using c16))
    (try (have c16b3 : ¬ (t911 = t901) := by simpa using c16))
    clear c16
    exact absurd H (by simp)
   ·rw [if_neg c16] at H
    have c16b0 : (t911 != t901) = false := by simpa using c16
    (try (have c16b1 : decide (t911 = t901) = true := by simpa using c16))
    (try (have c16b2 : (t911 == t901) = true := by simpa using c16))
    clear c16
    by_cases c17 : t912 = t902
    ·rw [if_pos c17] at H
     have c17b0 : (t912 == t902) = true := beq_iff_eq.mpr c17
     have c17b1 : (t912 != t902) = false := bne_eq_false_iff_eq.mpr c17
     clear c17
     replace H := Option.bind_eq_some_iff.mp H
     obtain ⟨⟨t913, t914⟩, A180, H⟩ := H
     replace H : ((laws_eqGraph.f k t903 t904 t913 t914).bind fun t917 => (if t917 = true then ((laws_toInt64S.f k l1).bind fun t918 => ((laws_eqInt64S.f k t908 t918).bind fun t921 => (if t921 = true then (some true) else (some false)))) else (some false))) = some true := H
     have A18 := Aside0.mk A180
     clear A180
     replace H := Option.bind_eq_some_iff.mp H
     obtain ⟨t917, A190, H⟩ := H
     replace H : (if t917 = true then ((laws_toInt64S.f k l1).bind fun t918 => ((laws_eqInt64S.f k t908 t918).bind fun t921 => (if t921 = true then (some true) else (some false)))) else (some false)) = some true := H
     have A19 := Aside0.mk A190
     clear A190
     by_cases c20 : t917 = true
     ·subst c20
      have H1 : ((laws_toInt64S.f k l1).bind fun t918 => ((laws_eqInt64S.f k t908 t918).bind fun t921 => (if t921 = true then (some true) else (some false)))) = some true := by rw [if_pos rfl] at H; exact H
      clear H
      have H := H1
      clear H1
      replace H := Option.bind_eq_some_iff.mp H
      obtain ⟨t918, A210, H⟩ := H
      replace H : ((laws_eqInt64S.f k t908 t918).bind fun t921 => (if t921 = true then (some true) else (some false))) = some true := H
      have A21 := Aside0.mk A210
      clear A210
      replace H := Option.bind_eq_some_iff.mp H
      obtain ⟨t921, A220, H⟩ := H
      replace H : (if t921 = true then (some true) else (some false)) = some true := H
      have A22 := Aside0.mk A220
      clear A220
      by_cases c23 : t921 = true
      ·subst c23
       have H1 : some true = some true := rfl
       clear H
       have H := H1
       clear H1
       try clear H
       go_enter Try.func12, Try.ntmps12
       try go_wp2_with (first | ((with_reducible refine gate_dst (N := 2) rfl ?_); refine box_event ?hg (N := 2) ?hd (cs := #[.int .i64 a0_0, .slice A0_1 l0_1.length c0_1]) (t := 24) ?hr ?_; (case hd => rfl); (case hg => rfl); (case hr => first | (go_simp; done) | (go_simp; rfl)); intro gb892 hg w24 hbox hb; have n0_ := Aside0.mk (hb.size); have n1_ := Aside0.mk ((⟨Nat.le_of_eq hg.symm, blk_lt hbox⟩ : w.heap.size ≤ gb892 ∧ gb892 < w24.heap.size)); have n2_ := Aside0.mk (below_step (by repeat (first | (with_reducible first | exact HB.out | apply below_alloc | apply pw_below_drewN | apply below_drew1) | exact HB.out)) hb); have n3_ := Aside0.mk (hbox); have n4_ := Aside0.mk ((by rw [hg]; exact (below_size (by repeat (first | (with_reducible first | exact HB.out | apply below_alloc | apply pw_below_drewN | apply below_drew1) | exact HB.out))) : w.heap.size ≤ gb892)); have n5_ := Aside0.mk ((by rw [hg]; exact (below_size (by repeat (first | (with_reducible first | exact HB.out | apply below_alloc | apply pw_below_drewN | apply below_drew1) | exact HB.out))) : w.heap.size ≤ gb892)); clear HB; have Zw24 := n0_; have ZB892 := n1_; have HB := n2_; have BK892 := n3_; have GW892 := n4_; have GE892 := n5_; clear n0_ n1_ n2_ n3_ n4_ n5_; clear hb hbox hg; have hcz25_0 : w24.cell? ⟨gb892, 0, none⟩ = some (.int .i64 a0_0) := (blk_cell BK892.out 0).trans rfl; have hcz25_1 : w24.cell? ⟨gb892, 1, none⟩ = some (.slice A0_1 l0_1.length c0_1) := (blk_cell BK892.out 1).trans rfl; have hfz25_0 := blk_frozen BK892.out 0; have hfz25_1 := blk_frozen BK892.out 1) | ((with_reducible refine gate_callee (f := 15) rfl ?_); refine goesL_ (some 17) rfl rfl Try.func15 (by kernel_rfl) rfl #[.agg #[.int .i64 a0_0, .slice A0_1 l0_1.length c0_1], .int .i64 1048576] rfl (by (try simp only [List.map_toArray, List.map_cons, List.map_nil]); first | done | rfl) ?_; (with_reducible refine (laws_szGraph.calls k a0_0 _ _ l0_1 1048576 t893 _ ?side1 ?side2 A5.out).mono ?_); (case side1 => exact (Kd.C_below HR0_1.out HB.out)); (case side2 => exact HC0_1.out); rintro e w26 ⟨rfl, hb⟩; refine ⟨_, rfl, ?_⟩; have n0_ := Aside0.mk (blk_below (g := gb892) (o := .cells #[.int .i64 a0_0, .slice A0_1 l0_1.length c0_1] 24 (0, 0)) (by (with_reducible repeat (first | refine blk_drewN ?_ _ | refine blk_drew ?_ | refine blk_alloc ?_ _)); exact BK892.out) hb); have n1_ := Aside0.mk (below_step HB.out hb); have n2_ := Aside0.mk (hb.size); clear BK892; clear HB; have BK892 := n0_; have HB := n1_; have Zw26 := n2_; clear n0_ n1_ n2_; (try clear hb); (try clear hkp); (try clear hd_); have hcz27_0 : w26.cell? ⟨gb892, 0, none⟩ = some (.int .i64 a0_0) := (blk_cell BK892.out 0).trans rfl; have hcz27_1 : w26.cell? ⟨gb892, 1, none⟩ = some (.slice A0_1 l0_1.length c0_1) := (blk_cell BK892.out 1).trans rfl; have hfz27_0 := blk_frozen BK892.out 0; have hfz27_1 := blk_frozen BK892.out 1) | ((with_reducible refine gate_callee (f := 17) rfl ?_); refine goesL_ (some 22) rfl rfl Try.func17 (by kernel_rfl) rfl #[.agg #[.int .i64 a0_0, .slice A0_1 l0_1.length c0_1]] rfl (by (try simp only [List.map_toArray, List.map_cons, List.map_nil]); first | done | rfl) ?_; (with_reducible refine (laws_toGraph.calls k a0_0 _ _ l0_1 t894 t895 _ ?side1 ?side2 A10.out).mono ?_); (case side1 => exact (Kd.C_below HR0_1.out HB.out)); (case side2 => exact HC0_1.out); rintro e w28 ⟨v896, rfl, ho0, hb⟩; refine ⟨_, rfl, ?_⟩; have n0_ := Aside0.mk (blk_below (g := gb892) (o := .cells #[.int .i64 a0_0, .slice A0_1 l0_1.length c0_1] 24 (0, 0)) (by (with_reducible repeat (first | refine blk_drewN ?_ _ | refine blk_drew ?_ | refine blk_alloc ?_ _)); exact BK892.out) hb); have n1_ := Aside0.mk (Kd.S_lower (Kd.S_mono (Kd.S_bound ho0) (fun k_ hk_ => (⟨hk_.2.1, hk_.2.2.1⟩ : w26.heap.size ≤ k_ ∧ k_ < w28.heap.size))) HB.out.size); have n2_ := Aside0.mk (below_step HB.out hb); have n3_ := Aside0.mk (hb.size); clear BK892; clear HB; have BK892 := n0_; have HO897 := n1_; have HB := n2_; have Zw28 := n3_; clear n0_ n1_ n2_ n3_; (try clear hb); (try clear hkp); (try clear hd_); (try clear ho0); obtain ⟨Ao29, co29, eo29⟩ := Kd.S_slice HO897.out; subst eo29) | ((with_reducible refine gate_callee (f := 18) rfl ?_); refine goesL_ (some 24) rfl rfl Try.func18 (by kernel_rfl) rfl #[.slice A1 l1.length c1] rfl (by (try simp only [List.map_toArray, List.map_cons, List.map_nil]); first | done | rfl) ?_; (with_reducible refine (laws_toInt64S.calls k _ _ l1 t898 _ ?side1 ?side2 A11.out).mono ?_); (case side1 => exact (Kd.C_below HR1.out HB.out)); (case side2 => exact HC1.out); rintro e w30 ⟨v899, rfl, ho0, hb⟩; refine ⟨_, rfl, ?_⟩; have n0_ := Aside0.mk (blk_below (g := gb892) (o := .cells #[.int .i64 a0_0, .slice A0_1 l0_1.length c0_1] 24 (0, 0)) (by (with_reducible repeat (first | refine blk_drewN ?_ _ | refine blk_drew ?_ | refine blk_alloc ?_ _)); exact BK892.out) hb); have n1_ := Aside0.mk (Kd.S_below HO897.out hb); have n2_ := Aside0.mk (Kd.R_lower (Kd.R_mono (Kd.R_bound ho0) (fun k_ hk_ => (⟨hk_.2.1, hk_.2.2.1⟩ : w28.heap.size ≤ k_ ∧ k_ < w30.heap.size))) HB.out.size); have n3_ := Aside0.mk (below_step HB.out hb); have n4_ := Aside0.mk (hb.size); clear BK892; clear HO897; clear HB; have BK892 := n0_; have HO897 := n1_; have HO900 := n2_; have HB := n3_; have Zw30 := n4_; clear n0_ n1_ n2_ n3_ n4_; (try clear hb); (try clear hkp); (try clear hd_); (try clear ho0); obtain ⟨Ao31, co31, eo31⟩ := Kd.R_slice HO900.out; subst eo31) | ((with_reducible refine gate_callee (f := 47) rfl ?_); refine goesL_ (some 25) rfl rfl Try.func47 (by kernel_rfl) rfl #[.agg #[.int .i64 t894, .slice Ao29 t895.length co29], .slice Ao31 t898.length co31] rfl (by (try simp only [List.map_toArray, List.map_cons, List.map_nil]); first | done | rfl) ?_; (with_reducible refine (spec_IsPrimeWalk.calls k t894 _ _ t895 _ _ t898 t901 t902 _ ?side1 ?side2 ?side3 ?side4 A12.out).mono ?_); (case side1 => exact (Kd.S_reads' HO897.out).2.2); (case side2 => (have e_ := Kd.S_reads' HO897.out; have e1_ := e_.1; have e2_ := e_.2.1; omega)); (case side3 => exact (Kd.R_reads' HO900.out).2.2); (case side4 => (have e_ := Kd.R_reads' HO900.out; have e1_ := e_.1; have e2_ := e_.2.1; omega)); rintro e w32 ⟨rfl, hb⟩; refine ⟨_, rfl, ?_⟩; have n0_ := Aside0.mk (blk_below (g := gb892) (o := .cells #[.int .i64 a0_0, .slice A0_1 l0_1.length c0_1] 24 (0, 0)) (by (with_reducible repeat (first | refine blk_drewN ?_ _ | refine blk_drew ?_ | refine blk_alloc ?_ _)); exact BK892.out) hb); have n1_ := Aside0.mk (Kd.S_below HO897.out hb); have n2_ := Aside0.mk (Kd.R_below HO900.out hb); have n3_ := Aside0.mk (below_step HB.out hb); have n4_ := Aside0.mk (hb.size); clear BK892; clear HO897; clear HO900; clear HB; have BK892 := n0_; have HO897 := n1_; have HO900 := n2_; have HB := n3_; have Zw32 := n4_; clear n0_ n1_ n2_ n3_ n4_; (try clear hb); (try clear hkp); (try clear hd_); have hcz33_0 : w32.cell? ⟨gb892, 0, none⟩ = some (.int .i64 a0_0) := (blk_cell BK892.out 0).trans rfl; have hcz33_1 : w32.cell? ⟨gb892, 1, none⟩ = some (.slice A0_1 l0_1.length c0_1) := (blk_cell BK892.out 1).trans rfl; have hfz33_0 := blk_frozen BK892.out 0; have hfz33_1 := blk_frozen BK892.out 1) | ((with_reducible refine gate_callee (f := 17) rfl ?_); refine goesL_ (some 29) rfl rfl Try.func17 (by kernel_rfl) rfl #[.agg #[.int .i64 a0_0, .slice A0_1 l0_1.length c0_1]] rfl (by (try simp only [List.map_toArray, List.map_cons, List.map_nil]); first | done | rfl) ?_; (with_reducible refine (laws_toGraph.calls k a0_0 _ _ l0_1 t903 t904 _ ?side1 ?side2 A13.out).mono ?_); (case side1 => exact (Kd.C_below HR0_1.out HB.out)); (case side2 => exact HC0_1.out); rintro e w34 ⟨v905, rfl, ho0, hb⟩; refine ⟨_, rfl, ?_⟩; have n0_ := Aside0.mk (blk_below (g := gb892) (o := .cells #[.int .i64 a0_0, .slice A0_1 l0_1.length c0_1] 24 (0, 0)) (by (with_reducible repeat (first | refine blk_drewN ?_ _ | refine blk_drew ?_ | refine blk_alloc ?_ _)); exact BK892.out) hb); have n1_ := Aside0.mk (Kd.S_below HO897.out hb); have n2_ := Aside0.mk (Kd.R_below HO900.out hb); have n3_ := Aside0.mk (Kd.S_lower (Kd.S_mono (Kd.S_bound ho0) (fun k_ hk_ => (⟨hk_.2.1, hk_.2.2.1⟩ : w32.heap.size ≤ k_ ∧ k_ < w34.heap.size))) HB.out.size); have n4_ := Aside0.mk (below_step HB.out hb); have n5_ := Aside0.mk (hb.size); clear BK892; clear HO897; clear HO900; clear HB; have BK892 := n0_; have HO897 := n1_; have HO900 := n2_; have HO906 := n3_; have HB := n4_; have Zw34 := n5_; clear n0_ n1_ n2_ n3_ n4_ n5_; (try clear hb); (try clear hkp); (try clear hd_); (try clear ho0); obtain ⟨Ao35, co35, eo35⟩ := Kd.S_slice HO906.out; subst eo35) | ((with_reducible refine gate_dst (N := 8) rfl ?_); refine box_event ?hg (N := 8) ?hd (cs := #[.int .i64 0, .slice none 0 0]) (t := 29) ?hr ?_; (case hd => rfl); (case hg => rfl); (case hr => first | (go_simp; done) | (go_simp; rfl)); intro gb907 hg w36 hbox hb; have n0_ := Aside0.mk (Kd.S_below HO897.out hb); have n1_ := Aside0.mk (Kd.R_below HO900.out hb); have n2_ := Aside0.mk (Kd.S_below HO906.out hb); have n3_ := Aside0.mk (blk_below (g := gb892) (o := .cells #[.int .i64 a0_0, .slice A0_1 l0_1.length c0_1] 24 (0, 0)) (by (with_reducible repeat (first | refine blk_drewN ?_ _ | refine blk_drew ?_ | refine blk_alloc ?_ _)); exact BK892.out) hb); have n4_ := Aside0.mk (hb.size); have n5_ := Aside0.mk ((⟨Nat.le_of_eq hg.symm, blk_lt hbox⟩ : w34.heap.size ≤ gb907 ∧ gb907 < w36.heap.size)); have n6_ := Aside0.mk (below_step (by repeat (first | (with_reducible first | exact HB.out | apply below_alloc | apply pw_below_drewN | apply below_drew1 | refine below_set ?_ GE892.out) | exact HB.out)) hb); have n7_ := Aside0.mk (hbox); have n8_ := Aside0.mk ((by rw [hg]; exact (below_size (by repeat (first | (with_reducible first | exact HB.out | apply below_alloc | apply pw_below_drewN | apply below_drew1 | refine below_set ?_ GE892.out) | exact HB.out))) : w.heap.size ≤ gb907)); have n9_ := Aside0.mk ((by rw [hg]; exact (below_size (by repeat (first | (with_reducible first | exact HB.out | apply below_alloc | apply pw_below_drewN | apply below_drew1 | refine below_set ?_ GE892.out) | exact HB.out))) : w.heap.size ≤ gb907)); have n10_ := Aside0.mk ((by rw [hg]; exact Nat.ne_of_lt (blk_lt (g := gb892) (o := .cells #[.int .i64 a0_0, .slice A0_1 l0_1.length c0_1] 24 (0, 0)) (by (with_reducible repeat (first | refine blk_drewN ?_ _ | refine blk_drew ?_ | refine blk_alloc ?_ _)); exact BK892.out)) : gb892 ≠ gb907)); have n11_ := Aside0.mk ((by rw [hg]; exact Nat.ne_of_gt (blk_lt (g := gb892) (o := .cells #[.int .i64 a0_0, .slice A0_1 l0_1.length c0_1] 24 (0, 0)) (by (with_reducible repeat (first | refine blk_drewN ?_ _ | refine blk_drew ?_ | refine blk_alloc ?_ _)); exact BK892.out)) : gb907 ≠ gb892)); clear HO897; clear HO900; clear HO906; clear BK892; clear HB; have HO897 := n0_; have HO900 := n1_; have HO906 := n2_; have BK892 := n3_; have Zw36 := n4_; have ZB907 := n5_; have HB := n6_; have BK907 := n7_; have GW907 := n8_; have GE907 := n9_; have NB892_907 := n10_; have NB907_892 := n11_; clear n0_ n1_ n2_ n3_ n4_ n5_ n6_ n7_ n8_ n9_ n10_ n11_; clear hb hbox hg; have hnb37 := NB907_892.out; have hnc37 := NB892_907.out; have hcz38_0 : w36.cell? ⟨gb907, 0, none⟩ = some (.int .i64 0) := (blk_cell BK907.out 0).trans rfl; have hcz38_1 : w36.cell? ⟨gb907, 1, none⟩ = some (.slice none 0 0) := (blk_cell BK907.out 1).trans rfl; have hfz38_0 := blk_frozen BK907.out 0; have hfz38_1 := blk_frozen BK907.out 1) | ((with_reducible refine gate_callee (f := 18) rfl ?_); have n0_ := Aside0.mk (show ((w36.setCell ⟨gb907, 0, none⟩ (.int .i64 t903)).setCell ⟨gb907, 1, none⟩ (.slice Ao35 t904.length co35)).heap[gb892]? = some (.cells #[.int .i64 a0_0, .slice A0_1 l0_1.length c0_1] 24 (0, 0)) from (by (with_reducible repeat (first | refine blk_drewN ?_ _ | refine blk_drew ?_ | refine blk_alloc ?_ _)); refine blk_far ?_ NB892_907.out _; (with_reducible repeat (first | refine blk_drewN ?_ _ | refine blk_drew ?_ | refine blk_alloc ?_ _)); refine blk_far ?_ NB892_907.out _; (with_reducible repeat (first | refine blk_drewN ?_ _ | refine blk_drew ?_ | refine blk_alloc ?_ _)); exact BK892.out)); have n1_ := Aside0.mk (show Kd.S (Kd.slice 2 (Kd.int .i64)) 25 ((w36.setCell ⟨gb907, 0, none⟩ (.int .i64 t903)).setCell ⟨gb907, 1, none⟩ (.slice Ao35 t904.length co35)) w.heap.size (fun k_ => w26.heap.size ≤ k_ ∧ k_ < w28.heap.size) (.slice Ao29 t895.length co29) t895 from (Kd.S_far (Kd.S_far HO897.out (fun k_ ho_ => (show k_ ≠ gb907 from by have h1_ := ho_.1; have h2_ := ho_.2; have h3_ := ZB907.out.1; have h4_ := ZB907.out.2; have := Zw24.out; have := Zw26.out; have := Zw28.out; have := Zw30.out; have := Zw32.out; have := Zw34.out; have := Zw36.out; omega)) _) (fun k_ ho_ => (show k_ ≠ gb907 from by have h1_ := ho_.1; have h2_ := ho_.2; have h3_ := ZB907.out.1; have h4_ := ZB907.out.2; have := Zw24.out; have := Zw26.out; have := Zw28.out; have := Zw30.out; have := Zw32.out; have := Zw34.out; have := Zw36.out; omega)) _)); have n2_ := Aside0.mk (show Kd.R (Kd.int .i64) 2 ((w36.setCell ⟨gb907, 0, none⟩ (.int .i64 t903)).setCell ⟨gb907, 1, none⟩ (.slice Ao35 t904.length co35)) w.heap.size (fun k_ => w28.heap.size ≤ k_ ∧ k_ < w30.heap.size) (.slice Ao31 t898.length co31) t898 from (Kd.R_far (Kd.R_far HO900.out (fun k_ ho_ => (show k_ ≠ gb907 from by have h1_ := ho_.1; have h2_ := ho_.2; have h3_ := ZB907.out.1; have h4_ := ZB907.out.2; have := Zw24.out; have := Zw26.out; have := Zw28.out; have := Zw30.out; have := Zw32.out; have := Zw34.out; have := Zw36.out; omega)) _) (fun k_ ho_ => (show k_ ≠ gb907 from by have h1_ := ho_.1; have h2_ := ho_.2; have h3_ := ZB907.out.1; have h4_ := ZB907.out.2; have := Zw24.out; have := Zw26.out; have := Zw28.out; have := Zw30.out; have := Zw32.out; have := Zw34.out; have := Zw36.out; omega)) _)); have n3_ := Aside0.mk (show Kd.S (Kd.slice 2 (Kd.int .i64)) 25 ((w36.setCell ⟨gb907, 0, none⟩ (.int .i64 t903)).setCell ⟨gb907, 1, none⟩ (.slice Ao35 t904.length co35)) w.heap.size (fun k_ => w32.heap.size ≤ k_ ∧ k_ < w34.heap.size) (.slice Ao35 t904.length co35) t904 from (Kd.S_far (Kd.S_far HO906.out (fun k_ ho_ => (show k_ ≠ gb907 from by have h1_ := ho_.1; have h2_ := ho_.2; have h3_ := ZB907.out.1; have h4_ := ZB907.out.2; have := Zw24.out; have := Zw26.out; have := Zw28.out; have := Zw30.out; have := Zw32.out; have := Zw34.out; have := Zw36.out; omega)) _) (fun k_ ho_ => (show k_ ≠ gb907 from by have h1_ := ho_.1; have h2_ := ho_.2; have h3_ := ZB907.out.1; have h4_ := ZB907.out.2; have := Zw24.out; have := Zw26.out; have := Zw28.out; have := Zw30.out; have := Zw32.out; have := Zw34.out; have := Zw36.out; omega)) _)); have n4_ := Aside0.mk (show ((w36.setCell ⟨gb907, 0, none⟩ (.int .i64 t903)).setCell ⟨gb907, 1, none⟩ (.slice Ao35 t904.length co35)).heap[gb907]? = some (.cells #[.int .i64 t903, .slice Ao35 t904.length co35] 29 (0, 0)) from (by (with_reducible repeat (first | refine blk_drewN ?_ _ | refine blk_drew ?_ | refine blk_alloc ?_ _)); refine blk_put (cs := #[.int .i64 t903, .slice none 0 0]) ?_ 1 _ rfl; (with_reducible repeat (first | refine blk_drewN ?_ _ | refine blk_drew ?_ | refine blk_alloc ?_ _)); refine blk_put (cs := #[.int .i64 0, .slice none 0 0]) ?_ 0 _ rfl; (with_reducible repeat (first | refine blk_drewN ?_ _ | refine blk_drew ?_ | refine blk_alloc ?_ _)); exact BK907.out)); have n5_ := Aside0.mk (show Below w.heap.size w ((w36.setCell ⟨gb907, 0, none⟩ (.int .i64 t903)).setCell ⟨gb907, 1, none⟩ (.slice Ao35 t904.length co35)) from (below_set (below_set HB.out GE907.out) GE907.out)); have n6_ := Aside0.mk (show w36.heap.size ≤ ((w36.setCell ⟨gb907, 0, none⟩ (.int .i64 t903)).setCell ⟨gb907, 1, none⟩ (.slice Ao35 t904.length co35)).heap.size from (Kept.setCell (Kept.setCell (Kept.refl w36 (fun _ => True)) (.inl trivial) _) (.inl trivial) _).1); clear BK892; clear HO897; clear HO900; clear HO906; clear BK907; clear HB; generalize hW_ : ((w36.setCell ⟨gb907, 0, none⟩ (.int .i64 t903)).setCell ⟨gb907, 1, none⟩ (.slice Ao35 t904.length co35)) = w39 at n0_ n1_ n2_ n3_ n4_ n5_ n6_ ⊢; clear hW_; have BK892 := n0_; have HO897 := n1_; have HO900 := n2_; have HO906 := n3_; have BK907 := n4_; have HB := n5_; have Zw39 := n6_; clear n0_ n1_ n2_ n3_ n4_ n5_ n6_; refine goesL_ (some 31) rfl rfl Try.func18 (by kernel_rfl) rfl #[.slice A1 l1.length c1] rfl (by (try simp only [List.map_toArray, List.map_cons, List.map_nil]); first | done | rfl) ?_; (with_reducible refine (laws_toInt64S.calls k _ _ l1 t908 _ ?side1 ?side2 A14.out).mono ?_); (case side1 => exact (Kd.C_below HR1.out HB.out)); (case side2 => exact HC1.out); rintro e w40 ⟨v909, rfl, ho0, hb⟩; refine ⟨_, rfl, ?_⟩; have n0_ := Aside0.mk (blk_below (g := gb892) (o := .cells #[.int .i64 a0_0, .slice A0_1 l0_1.length c0_1] 24 (0, 0)) (by (with_reducible repeat (first | refine blk_drewN ?_ _ | refine blk_drew ?_ | refine blk_alloc ?_ _)); exact BK892.out) hb); have n1_ := Aside0.mk (Kd.S_below HO897.out hb); have n2_ := Aside0.mk (Kd.R_below HO900.out hb); have n3_ := Aside0.mk (Kd.S_below HO906.out hb); have n4_ := Aside0.mk (blk_below (g := gb907) (o := .cells #[.int .i64 t903, .slice Ao35 t904.length co35] 29 (0, 0)) (by (with_reducible repeat (first | refine blk_drewN ?_ _ | refine blk_drew ?_ | refine blk_alloc ?_ _)); exact BK907.out) hb); have n5_ := Aside0.mk (Kd.R_lower (Kd.R_mono (Kd.R_bound ho0) (fun k_ hk_ => (⟨hk_.2.1, hk_.2.2.1⟩ : w39.heap.size ≤ k_ ∧ k_ < w40.heap.size))) HB.out.size); have n6_ := Aside0.mk (below_step HB.out hb); have n7_ := Aside0.mk (hb.size); clear BK892; clear HO897; clear HO900; clear HO906; clear BK907; clear HB; have BK892 := n0_; have HO897 := n1_; have HO900 := n2_; have HO906 := n3_; have BK907 := n4_; have HO910 := n5_; have HB := n6_; have Zw40 := n7_; clear n0_ n1_ n2_ n3_ n4_ n5_ n6_ n7_; (try clear hb); (try clear hkp); (try clear hd_); (try clear ho0); obtain ⟨Ao41, co41, eo41⟩ := Kd.R_slice HO910.out; subst eo41; have hcz42_0 : w40.cell? ⟨gb907, 0, none⟩ = some (.int .i64 t903) := (blk_cell BK907.out 0).trans rfl; have hcz42_1 : w40.cell? ⟨gb907, 1, none⟩ = some (.slice Ao35 t904.length co35) := (blk_cell BK907.out 1).trans rfl; have hfz42_0 := blk_frozen BK907.out 0; have hfz42_1 := blk_frozen BK907.out 1) | ((with_reducible refine gate_callee (f := 48) rfl ?_); refine goesL_ (some 35) rfl rfl Try.func48 (by kernel_rfl) rfl #[.agg #[.int .i64 t903, .slice Ao35 t904.length co35], .slice Ao41 t908.length co41] rfl (by (try simp only [List.map_toArray, List.map_cons, List.map_nil]); first | done | rfl) ?_; (with_reducible refine (impl_IsPrimeWalk.calls k t903 _ _ t904 _ _ t908 t911 t912 _ ?side1 ?side2 ?side3 ?side4 A15.out).mono ?_); (case side1 => exact (Kd.S_reads' HO906.out).2.2); (case side2 => (have e_ := Kd.S_reads' HO906.out; have e1_ := e_.1; have e2_ := e_.2.1; omega)); (case side3 => exact (Kd.R_reads' HO910.out).2.2); (case side4 => (have e_ := Kd.R_reads' HO910.out; have e1_ := e_.1; have e2_ := e_.2.1; omega)); rintro e w43 ⟨rfl, hb⟩; refine ⟨_, rfl, ?_⟩; have n0_ := Aside0.mk (blk_below (g := gb892) (o := .cells #[.int .i64 a0_0, .slice A0_1 l0_1.length c0_1] 24 (0, 0)) (by (with_reducible repeat (first | refine blk_drewN ?_ _ | refine blk_drew ?_ | refine blk_alloc ?_ _)); exact BK892.out) hb); have n1_ := Aside0.mk (Kd.S_below HO897.out hb); have n2_ := Aside0.mk (Kd.R_below HO900.out hb); have n3_ := Aside0.mk (Kd.S_below HO906.out hb); have n4_ := Aside0.mk (blk_below (g := gb907) (o := .cells #[.int .i64 t903, .slice Ao35 t904.length co35] 29 (0, 0)) (by (with_reducible repeat (first | refine blk_drewN ?_ _ | refine blk_drew ?_ | refine blk_alloc ?_ _)); exact BK907.out) hb); have n5_ := Aside0.mk (Kd.R_below HO910.out hb); have n6_ := Aside0.mk (below_step HB.out hb); have n7_ := Aside0.mk (hb.size); clear BK892; clear HO897; clear HO900; clear HO906; clear BK907; clear HO910; clear HB; have BK892 := n0_; have HO897 := n1_; have HO900 := n2_; have HO906 := n3_; have BK907 := n4_; have HO910 := n5_; have HB := n6_; have Zw43 := n7_; clear n0_ n1_ n2_ n3_ n4_ n5_ n6_ n7_; (try clear hb); (try clear hkp); (try clear hd_)))
       have n0_ := Aside0.mk ((show w43.heap.size ≤ w43.drew.heap.size from Nat.le_refl _))
       have n1_ := Aside0.mk (Kd.S_drew HO897.out)
       have n2_ := Aside0.mk (Kd.R_drew HO900.out)
       have n3_ := Aside0.mk (Kd.S_drew HO906.out)
       have n4_ := Aside0.mk (Kd.R_drew HO910.out)
       have n5_ := Aside0.mk (blk_drew BK892.out)
       have n6_ := Aside0.mk (blk_drew BK907.out)
       have n7_ := Aside0.mk (below_drew1 HB.out)
       clear HO897
       clear HO900
       clear HO906
       clear HO910
       clear BK892
       clear BK907
       clear HB
       have Zw44 := n0_
       have HO897 := n1_
       have HO900 := n2_
       have HO906 := n3_
       have HO910 := n4_
       have BK892 := n5_
       have BK907 := n6_
       have HB := n7_
       clear n0_ n1_ n2_ n3_ n4_ n5_ n6_ n7_
       refine start_ (n := 5) (S := fun w' => w'.cell? ⟨gb907, 0, none⟩ = some (.int .i64 t903) ∧ w'.cell? ⟨gb907, 1, none⟩ = some (.slice Ao35 t904.length co35) ∧ w'.cell? ⟨gb892, 0, none⟩ = some (.int .i64 a0_0) ∧ w'.cell? ⟨gb892, 1, none⟩ = some (.slice A0_1 l0_1.length c0_1)) (ds := []) #[false, false, false, false, false] (by kernel_rfl) rfl rfl ⟨(blk_cell BK907.out 0).trans rfl, (blk_cell BK907.out 1).trans rfl, (blk_cell BK892.out 0).trans rfl, (blk_cell BK892.out 1).trans rfl⟩ (fun hHeld => ?_)
       generalize w43.drew = w44 at HO897 HO900 HO906 HO910 BK892 BK907 HB Zw44 hHeld ⊢
       refine take_ (i := 0) (N := some 46) (v := ?_) (a' := ?_) #[true, false, false, false, false] rfl rfl (by kernel_rfl) (fun _ _ _ h => h) (Or.inl ⟨by rfl, ?_⟩) hHeld ?_ ?_
       rotate_left
       ·rintro w' ⟨s0, s1, s2, s3⟩
        go_simp
        with_reducible rfl
       rotate_left
       ·simp only [Act.put, List.setIfInBounds_toArray, List.set_cons_zero, List.set_cons_succ, i64_w, i32_w]
        rfl
       refine take_ (i := 1) (N := some 47) (v := ?_) (a' := ?_) #[true, true, false, false, false] rfl rfl (by kernel_rfl) (fun _ _ _ h => h) (Or.inl ⟨by rfl, ?_⟩) hHeld ?_ ?_
       rotate_left
       ·rintro w' ⟨s0, s1, s2, s3⟩
        go_simp
        with_reducible rfl
       rotate_left
       ·simp only [Act.put, List.setIfInBounds_toArray, List.set_cons_zero, List.set_cons_succ, i64_w, i32_w]
        rfl
       refine one_ (i := 2) (N := some 48) #[true, true, true, false, false] rfl rfl (by kernel_rfl) (by decide) (fun K hK => ?_)
       refine goes_ Try.func17 (by kernel_rfl) rfl #[.agg #[.int .i64 a0_0, .slice A0_1 l0_1.length c0_1]] (by rfl) rfl rfl (by (try simp only [List.map_toArray, List.map_cons, List.map_nil]); first | done | rfl | (simp only [List.length_drop, List.length_take]; rfl)) ?_
       with_reducible refine (laws_toGraph.calls k a0_0 _ _ l0_1 t913 t914 _ ?side1 ?side2 A18.out).mono ?_
       (case side1 => exact (Kd.C_below HR0_1.out HB.out))
       (case side2 => exact HC0_1.out)
       rintro e w45 ⟨v915, rfl, ho0, hb⟩
       refine ⟨_, rfl, ?_⟩
       have n0_ := Aside0.mk (blk_below (g := gb892) (o := .cells #[.int .i64 a0_0, .slice A0_1 l0_1.length c0_1] 24 (0, 0)) (by (with_reducible repeat (first | refine blk_drewN ?_ _ | refine blk_drew ?_ | refine blk_alloc ?_ _)); exact BK892.out) hb)
       have n1_ := Aside0.mk (Kd.S_below HO897.out hb)
       have n2_ := Aside0.mk (Kd.R_below HO900.out hb)
       have n3_ := Aside0.mk (Kd.S_below HO906.out hb)
       have n4_ := Aside0.mk (blk_below (g := gb907) (o := .cells #[.int .i64 t903, .slice Ao35 t904.length co35] 29 (0, 0)) (by (with_reducible repeat (first | refine blk_drewN ?_ _ | refine blk_drew ?_ | refine blk_alloc ?_ _)); exact BK907.out) hb)
       have n5_ := Aside0.mk (Kd.R_below HO910.out hb)
       have n6_ := Aside0.mk (Kd.S_lower (Kd.S_mono (Kd.S_bound ho0) (fun k_ hk_ => (⟨hk_.2.1, hk_.2.2.1⟩ : w44.heap.size ≤ k_ ∧ k_ < w45.heap.size))) HB.out.size)
       have n7_ := Aside0.mk (below_step HB.out hb)
       have n8_ := Aside0.mk (hb.size)
       clear BK892
       clear HO897
       clear HO900
       clear HO906
       clear BK907
       clear HO910
       clear HB
       have BK892 := n0_
       have HO897 := n1_
       have HO900 := n2_
       have HO906 := n3_
       have BK907 := n4_
       have HO910 := n5_
       have HO916 := n6_
       have HB := n7_
       have Zw45 := n8_
       clear n0_ n1_ n2_ n3_ n4_ n5_ n6_ n7_ n8_
       (try clear hb)
       (try clear hkp)
       (try clear hd_)
       (try clear ho0)
       obtain ⟨Ao46, co46, eo46⟩ := Kd.S_slice HO916.out
       subst eo46
       refine hK.out _ _ ⟨(blk_cell BK907.out 0).trans rfl, (blk_cell BK907.out 1).trans rfl, (blk_cell BK892.out 0).trans rfl, (blk_cell BK892.out 1).trans rfl⟩ (fun hHeld => ?_)
       clear hK K
       refine norm_ (a' := ?_) ?_ ?_
       rotate_left
       ·show Act.put _ (some 48) _ = _
        simp only [Act.put, List.setIfInBounds_toArray, List.set_cons_zero, List.set_cons_succ, i64_w, i32_w]
        rfl
       refine one_ (i := 3) (N := some 49) #[true, true, true, true, false] rfl rfl (by kernel_rfl) (by decide) (fun K hK => ?_)
       refine goes_ Try.func20 (by kernel_rfl) rfl #[.agg #[.int .i64 t903, .slice Ao35 t904.length co35], .agg #[.int .i64 t913, .slice Ao46 t914.length co46]] (by rfl) rfl rfl (by (try simp only [List.map_toArray, List.map_cons, List.map_nil]); first | done | rfl | (simp only [List.length_drop, List.length_take]; rfl)) ?_
       with_reducible refine (laws_eqGraph.calls k t903 _ _ t904 t913 _ _ t914 true _ ?side1 ?side2 ?side3 ?side4 A19.out).mono ?_
       (case side1 => exact (Kd.S_reads' HO906.out).2.2)
       (case side2 => (have e_ := Kd.S_reads' HO906.out; have e1_ := e_.1; have e2_ := e_.2.1; omega))
       (case side3 => exact (Kd.S_reads' HO916.out).2.2)
       (case side4 => (have e_ := Kd.S_reads' HO916.out; have e1_ := e_.1; have e2_ := e_.2.1; omega))
       rintro e w47 ⟨rfl, hb⟩
       refine ⟨_, rfl, ?_⟩
       have n0_ := Aside0.mk (blk_below (g := gb892) (o := .cells #[.int .i64 a0_0, .slice A0_1 l0_1.length c0_1] 24 (0, 0)) (by (with_reducible repeat (first | refine blk_drewN ?_ _ | refine blk_drew ?_ | refine blk_alloc ?_ _)); exact BK892.out) hb)
       have n1_ := Aside0.mk (Kd.S_below HO897.out hb)
       have n2_ := Aside0.mk (Kd.R_below HO900.out hb)
       have n3_ := Aside0.mk (Kd.S_below HO906.out hb)
       have n4_ := Aside0.mk (blk_below (g := gb907) (o := .cells #[.int .i64 t903, .slice Ao35 t904.length co35] 29 (0, 0)) (by (with_reducible repeat (first | refine blk_drewN ?_ _ | refine blk_drew ?_ | refine blk_alloc ?_ _)); exact BK907.out) hb)
       have n5_ := Aside0.mk (Kd.R_below HO910.out hb)
       have n6_ := Aside0.mk (Kd.S_below HO916.out hb)
       have n7_ := Aside0.mk (below_step HB.out hb)
       have n8_ := Aside0.mk (hb.size)
       clear BK892
       clear HO897
       clear HO900
       clear HO906
       clear BK907
       clear HO910
       clear HO916
       clear HB
       have BK892 := n0_
       have HO897 := n1_
       have HO900 := n2_
       have HO906 := n3_
       have BK907 := n4_
       have HO910 := n5_
       have HO916 := n6_
       have HB := n7_
       have Zw47 := n8_
       clear n0_ n1_ n2_ n3_ n4_ n5_ n6_ n7_ n8_
       (try clear hb)
       (try clear hkp)
       (try clear hd_)
       refine hK.out _ _ ⟨(blk_cell BK907.out 0).trans rfl, (blk_cell BK907.out 1).trans rfl, (blk_cell BK892.out 0).trans rfl, (blk_cell BK892.out 1).trans rfl⟩ (fun hHeld => ?_)
       clear hK K
       refine norm_ (a' := ?_) ?_ ?_
       rotate_left
       ·show Act.put _ (some 49) _ = _
        simp only [Act.put, List.setIfInBounds_toArray, List.set_cons_zero, List.set_cons_succ, i64_w, i32_w]
        rfl
       refine pure_ (i := 4) (N := some 50) (v := ?_) (a' := ?_) #[true, true, true, true, true] rfl rfl (by kernel_rfl) (fun _ _ _ h => h) (Or.inl ⟨by rfl, ?_⟩) ?_ ?_
       rotate_left
       ·intro w'
        go_simp
        with_reducible rfl
       rotate_left
       ·simp only [Act.put, List.setIfInBounds_toArray, List.set_cons_zero, List.set_cons_succ, i64_w, i32_w]
        rfl
       refine done_ (by kernel_rfl) ?_
       try go_wp2_with (first | ((with_reducible refine gate_callee (f := 18) rfl ?_); refine goesL_ (some 53) rfl rfl Try.func18 (by kernel_rfl) rfl #[.slice A1 l1.length c1] rfl (by (try simp only [List.map_toArray, List.map_cons, List.map_nil]); first | done | rfl) ?_; (with_reducible refine (laws_toInt64S.calls k _ _ l1 t918 _ ?side1 ?side2 A21.out).mono ?_); (case side1 => exact (Kd.C_below HR1.out HB.out)); (case side2 => exact HC1.out); rintro e w48 ⟨v919, rfl, ho0, hb⟩; refine ⟨_, rfl, ?_⟩; have n0_ := Aside0.mk (blk_below (g := gb892) (o := .cells #[.int .i64 a0_0, .slice A0_1 l0_1.length c0_1] 24 (0, 0)) (by (with_reducible repeat (first | refine blk_drewN ?_ _ | refine blk_drew ?_ | refine blk_alloc ?_ _)); exact BK892.out) hb); have n1_ := Aside0.mk (Kd.S_below HO897.out hb); have n2_ := Aside0.mk (Kd.R_below HO900.out hb); have n3_ := Aside0.mk (Kd.S_below HO906.out hb); have n4_ := Aside0.mk (blk_below (g := gb907) (o := .cells #[.int .i64 t903, .slice Ao35 t904.length co35] 29 (0, 0)) (by (with_reducible repeat (first | refine blk_drewN ?_ _ | refine blk_drew ?_ | refine blk_alloc ?_ _)); exact BK907.out) hb); have n5_ := Aside0.mk (Kd.R_below HO910.out hb); have n6_ := Aside0.mk (Kd.S_below HO916.out hb); have n7_ := Aside0.mk (Kd.R_lower (Kd.R_mono (Kd.R_bound ho0) (fun k_ hk_ => (⟨hk_.2.1, hk_.2.2.1⟩ : w47.heap.size ≤ k_ ∧ k_ < w48.heap.size))) HB.out.size); have n8_ := Aside0.mk (below_step HB.out hb); have n9_ := Aside0.mk (hb.size); clear BK892; clear HO897; clear HO900; clear HO906; clear BK907; clear HO910; clear HO916; clear HB; have BK892 := n0_; have HO897 := n1_; have HO900 := n2_; have HO906 := n3_; have BK907 := n4_; have HO910 := n5_; have HO916 := n6_; have HO920 := n7_; have HB := n8_; have Zw48 := n9_; clear n0_ n1_ n2_ n3_ n4_ n5_ n6_ n7_ n8_ n9_; (try clear hb); (try clear hkp); (try clear hd_); (try clear ho0); obtain ⟨Ao49, co49, eo49⟩ := Kd.R_slice HO920.out; subst eo49) | ((with_reducible refine gate_callee (f := 21) rfl ?_); refine goesL_ (some 54) rfl rfl Try.func21 (by kernel_rfl) rfl #[.slice Ao41 t908.length co41, .slice Ao49 t918.length co49] rfl (by (try simp only [List.map_toArray, List.map_cons, List.map_nil]); first | done | rfl) ?_; (with_reducible refine (laws_eqInt64S.calls k _ _ t908 _ _ t918 true _ ?side1 ?side2 ?side3 ?side4 A22.out).mono ?_); (case side1 => exact (Kd.R_reads' HO910.out).2.2); (case side2 => (have e_ := Kd.R_reads' HO910.out; have e1_ := e_.1; have e2_ := e_.2.1; omega)); (case side3 => exact (Kd.R_reads' HO920.out).2.2); (case side4 => (have e_ := Kd.R_reads' HO920.out; have e1_ := e_.1; have e2_ := e_.2.1; omega)); rintro e w50 ⟨rfl, hd_⟩; refine ⟨_, rfl, ?_⟩; have hb := hd_.below; have n0_ := Aside0.mk (blk_below (g := gb892) (o := .cells #[.int .i64 a0_0, .slice A0_1 l0_1.length c0_1] 24 (0, 0)) (by (with_reducible repeat (first | refine blk_drewN ?_ _ | refine blk_drew ?_ | refine blk_alloc ?_ _)); exact BK892.out) hb); have n1_ := Aside0.mk (Kd.S_below HO897.out hb); have n2_ := Aside0.mk (Kd.R_below HO900.out hb); have n3_ := Aside0.mk (Kd.S_below HO906.out hb); have n4_ := Aside0.mk (blk_below (g := gb907) (o := .cells #[.int .i64 t903, .slice Ao35 t904.length co35] 29 (0, 0)) (by (with_reducible repeat (first | refine blk_drewN ?_ _ | refine blk_drew ?_ | refine blk_alloc ?_ _)); exact BK907.out) hb); have n5_ := Aside0.mk (Kd.R_below HO910.out hb); have n6_ := Aside0.mk (Kd.S_below HO916.out hb); have n7_ := Aside0.mk (Kd.R_below HO920.out hb); have n8_ := Aside0.mk (below_step HB.out hb); have n9_ := Aside0.mk (hb.size); clear BK892; clear HO897; clear HO900; clear HO906; clear BK907; clear HO910; clear HO916; clear HO920; clear HB; have BK892 := n0_; have HO897 := n1_; have HO900 := n2_; have HO906 := n3_; have BK907 := n4_; have HO910 := n5_; have HO916 := n6_; have HO920 := n7_; have HB := n8_; have Zw50 := n9_; clear n0_ n1_ n2_ n3_ n4_ n5_ n6_ n7_ n8_ n9_; (try clear hb); (try clear hkp); (try clear hd_)))
       go_ret
       exact ⟨by first | rfl | (simp [errW_none, errW_some] <;> rfl) | (simp [*, errW_none, errW_some] <;> rfl), by repeat (first | (with_reducible first | exact HB.out | apply below_alloc | apply pw_below_drewN | apply below_drew1 | refine below_set ?_ GE892.out | refine below_set ?_ GE907.out) | exact HB.out)⟩
      ·replace c23 := Bool.eq_false_iff.mpr c23
       subst c23
       have H1 : (some false) = some true := by rw [if_neg (show ¬ (false = true) by decide)] at H; exact H
       clear H
       have H := H1
       clear H1
       exact absurd H (by simp)
     ·replace c20 := Bool.eq_false_iff.mpr c20
      subst c20
      have H1 : (some false) = some true := by rw [if_neg (show ¬ (false = true) by decide)] at H; exact H
      clear H
      have H := H1
      clear H1
      exact absurd H (by simp)
    ·rw [if_neg c17] at H
     have c17b0 : (t912 == t902) = false := beq_eq_false_iff_ne.mpr c17
     have c17b1 : (t912 != t902) = true := bne_iff_ne.mpr c17
     exact absurd H (by simp)

/-- THE ONE PURE STATEMENT of laws_FnExactIsPrimeWalk: yours. -/
def laws_FnExactIsPrimeWalk.Pure : Prop := ∀ (a0_0 : Int) (l0_1 : List (List Int)) (l1 : List Int), (Lit.int .i64 a0_0).wf = true → l0_1.length ≤ maxLen → (∀ r ∈ l0_1, r.length ≤ maxLen ∧ ∀ y ∈ r, (Lit.int .i64 y).wf = true) → l1.length ≤ maxLen → (∀ y ∈ l1, (Lit.int .i64 y).wf = true) → ∃ k, laws_FnExactIsPrimeWalk.f k a0_0 l0_1 l1 = some true
theorem laws_FnExactIsPrimeWalk.walk (P : laws_FnExactIsPrimeWalk.Pure) (a0_0 : Int) (A0_1 : Option Addr) (c0_1 : Nat) (l0_1 : List (List Int)) (A1 : Option Addr) (c1 : Nat) (l1 : List Int) (w : World) (hw0_0 : (Lit.int .i64 a0_0).wf = true) (hm0_1 : l0_1.length ≤ maxLen) (hw0_1 : (∀ r ∈ l0_1, r.length ≤ maxLen ∧ ∀ y ∈ r, (Lit.int .i64 y).wf = true)) (hr0_1 : Kd.C (Kd.slice 2 (Kd.int .i64)) w A0_1 l0_1.length l0_1) (hc0_1 : l0_1.length ≤ c0_1) (hm1 : l1.length ≤ maxLen) (hw1 : (∀ y ∈ l1, (Lit.int .i64 y).wf = true)) (hr1 : Kd.C (Kd.int .i64) w A1 l1.length l1) (hc1 : l1.length ≤ c1) :
  Calls Try.prog 12 #[.agg #[.int .i64 a0_0, .slice A0_1 l0_1.length c0_1], .slice A1 l1.length c1] w fun e w' => e = .returned (.bool true) ∧ Below w.heap.size w w' := by
 obtain ⟨k, h⟩ := P a0_0 l0_1 l1 hw0_0 hm0_1 hw0_1 hm1 hw1
 refine (laws_FnExactIsPrimeWalk.calls k a0_0 _ _ l0_1 _ _ l1 w hr0_1 hc0_1 hr1 hc1 h).mono ?_
 rintro e w' ⟨rfl, hd⟩
 exact ⟨rfl, hd⟩

end Go.Proofs.Ytedhnaljedonfaa.G
