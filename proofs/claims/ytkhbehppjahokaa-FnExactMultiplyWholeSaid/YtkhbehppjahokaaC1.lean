/- The printed functions that this law reaches, and their contracts: part 1. -/
-- printed by this repo's wip/printer out of the kit's print with its own changes
import Derived.Test.YtkhbehppjahokaaC0
namespace Go.Proofs.Ytkhbehppjahokaa.G
open Go.RowKit Go.Proofs.YtkhbehppjahokaaW.PrintWords Go.Proofs.YtkhbehppjahokaaW.PrintLast Go.Proofs.YtkhbehppjahokaaW.PrintMore
attribute [local go_sem] max2_int min2_int max_two min_two max_three min_three max_four min_four   -- for this text's walks alone
set_option linter.unusedVariables false
set_option linter.unusedSimpArgs false

/-! ### impl_multiply: function 86 -/
mutual
def impl_multiply.j0 : Nat → List Int → List Int → Bool → Option (List Int × Bool)
  | 0, _, _, _ => none
  | k + 1, x0, x1, x18 => if x18 = true then (some ((([] : List Int)), true)) else (if (wrap64 ((wrap64 ((x0.length : Int) + (x1.length : Int))) - 1)) > 40 then (some (([] : List Int), false)) else (impl_multiply.l0 k x0 x1 (([] : List Int)) (wrap64 ((wrap64 ((x0.length : Int) + (x1.length : Int))) - 1)) 0))
def impl_multiply.l0 : Nat → List Int → List Int → List Int → Int → Int → Option (List Int × Bool)
  | 0, _, _, _, _, _ => none
  | k + 1, x0, x1, x6, x33, x34 => if x34 < x33 then (impl_multiply.l1 k x0 x1 x6 x34 0 (mx 0 (wrap64 ((wrap64 (x34 - (x1.length : Int))) + 1))) x33 x34) else (some (x6, true))
def impl_multiply.l1 : Nat → List Int → List Int → List Int → Int → Int → Int → Int → Int → Option (List Int × Bool)
  | 0, _, _, _, _, _, _, _, _ => none
  | k + 1, x0, x1, x6, x7, x8, x10, x33, x34 => if x10 ≤ (mn x7 (wrap64 ((x0.length : Int) - 1))) then (if 0 ≤ x10 then (if x10 < (x0.length : Int) then (if 0 ≤ (wrap64 (x7 - x10)) then (if (wrap64 (x7 - x10)) < (x1.length : Int) then ((impl_plusTimes.f k x8 (rd x0 x10) (rd x1 (wrap64 (x7 - x10)))).bind fun bt1002 => (if bt1002.2 = true then (impl_multiply.l1 k x0 x1 x6 x7 bt1002.1 (wrap64 (x10 + 1)) x33 x34) else (some (([] : List Int), false)))) else (none)) else (none)) else (none)) else (none)) else (if x6.length < 17592186044416 then (impl_multiply.l0 k x0 x1 (x6 ++ [x8]) x33 (wrap64 (x34 + 1))) else (none))
end
def impl_multiply.f (k : Nat) (l0 : List Int) (l1 : List Int) : Option (List Int × Bool) := if (l0.length : Int) = 0 then (impl_multiply.j0 k l0 l1 true) else (impl_multiply.j0 k l0 l1 ((l1.length : Int) == 0))
theorem impl_multiply.mono_l : ∀ k, (∀ y0 y1 y2, LeO (impl_multiply.j0 k y0 y1 y2) (impl_multiply.j0 (k + 1) y0 y1 y2)) ∧ (∀ y0 y1 y2 y3 y4, LeO (impl_multiply.l0 k y0 y1 y2 y3 y4) (impl_multiply.l0 (k + 1) y0 y1 y2 y3 y4)) ∧ (∀ y0 y1 y2 y3 y4 y5 y6 y7, LeO (impl_multiply.l1 k y0 y1 y2 y3 y4 y5 y6 y7) (impl_multiply.l1 (k + 1) y0 y1 y2 y3 y4 y5 y6 y7))
  | 0 => ⟨fun _ _ _ r h => by simp [impl_multiply.j0] at h, fun _ _ _ _ _ r h => by simp [impl_multiply.l0] at h, fun _ _ _ _ _ _ _ _ r h => by simp [impl_multiply.l1] at h⟩
  | k + 1 => by
    obtain ⟨ih0, ih1, ih2⟩ := impl_multiply.mono_l k
    refine ⟨?_, ?_, ?_⟩
    · intro y0 y1 y2
      unfold impl_multiply.j0
      repeat' first
      | (with_reducible exact ih0 _ _ _)
      | (with_reducible exact ih1 _ _ _ _ _)
      | (with_reducible exact ih2 _ _ _ _ _ _ _ _)
      | (with_reducible exact impl_plusTimes.mono _ _ _ _)
      | (with_reducible exact LeO.refl _)
      | (with_reducible exact LeO.none _)
      | (with_reducible refine LeO.ite ?_ ?_)
      | (with_reducible refine LeO.bind ?_ (fun _ => ?_))
      | exact ih0 _ _ _
      | exact ih1 _ _ _ _ _
      | exact ih2 _ _ _ _ _ _ _ _
      | exact impl_plusTimes.mono _ _ _ _
      | exact LeO.none _
      | refine LeO.ite ?_ ?_
      | refine LeO.bind ?_ (fun _ => ?_)
    · intro y0 y1 y2 y3 y4
      unfold impl_multiply.l0
      repeat' first
      | (with_reducible exact ih0 _ _ _)
      | (with_reducible exact ih1 _ _ _ _ _)
      | (with_reducible exact ih2 _ _ _ _ _ _ _ _)
      | (with_reducible exact impl_plusTimes.mono _ _ _ _)
      | (with_reducible exact LeO.refl _)
      | (with_reducible exact LeO.none _)
      | (with_reducible refine LeO.ite ?_ ?_)
      | (with_reducible refine LeO.bind ?_ (fun _ => ?_))
      | exact ih0 _ _ _
      | exact ih1 _ _ _ _ _
      | exact ih2 _ _ _ _ _ _ _ _
      | exact impl_plusTimes.mono _ _ _ _
      | exact LeO.none _
      | refine LeO.ite ?_ ?_
      | refine LeO.bind ?_ (fun _ => ?_)
    · intro y0 y1 y2 y3 y4 y5 y6 y7
      unfold impl_multiply.l1
      repeat' first
      | (with_reducible exact ih0 _ _ _)
      | (with_reducible exact ih1 _ _ _ _ _)
      | (with_reducible exact ih2 _ _ _ _ _ _ _ _)
      | (with_reducible exact impl_plusTimes.mono _ _ _ _)
      | (with_reducible exact LeO.refl _)
      | (with_reducible exact LeO.none _)
      | (with_reducible refine LeO.ite ?_ ?_)
      | (with_reducible refine LeO.bind ?_ (fun _ => ?_))
      | exact ih0 _ _ _
      | exact ih1 _ _ _ _ _
      | exact ih2 _ _ _ _ _ _ _ _
      | exact impl_plusTimes.mono _ _ _ _
      | exact LeO.none _
      | refine LeO.ite ?_ ?_
      | refine LeO.bind ?_ (fun _ => ?_)
theorem impl_multiply.mono : ∀ a0 a1 k, LeO (impl_multiply.f k a0 a1) (impl_multiply.f (k + 1) a0 a1) := by
  intro a0 a1 k
  obtain ⟨ih0, ih1, ih2⟩ := impl_multiply.mono_l k
  unfold impl_multiply.f
  repeat' first
      | (with_reducible exact ih0 _ _ _)
      | (with_reducible exact ih1 _ _ _ _ _)
      | (with_reducible exact ih2 _ _ _ _ _ _ _ _)
      | (with_reducible exact impl_plusTimes.mono _ _ _ _)
      | (with_reducible exact LeO.refl _)
      | (with_reducible exact LeO.none _)
      | (with_reducible refine LeO.ite ?_ ?_)
      | (with_reducible refine LeO.bind ?_ (fun _ => ?_))
      | exact ih0 _ _ _
      | exact ih1 _ _ _ _ _
      | exact ih2 _ _ _ _ _ _ _ _
      | exact impl_plusTimes.mono _ _ _ _
      | exact LeO.none _
      | refine LeO.ite ?_ ?_
      | refine LeO.bind ?_ (fun _ => ?_)
def impl_multiply.T13 : Bool × List (List Nat × List Nat) := (true, [([], []), ([], []), ([], []), ([1, 2], [1, 2]), ([3], [3]), ([], []), ([], []), ([], []), ([6, 7], [6, 7]), ([5, 8], [5, 8]), ([9], [9]), ([0, 4, 10], [0, 4, 10]), ([11], [11]), ([12], [12]), ([12], [12]), ([13, 11, 0, 1, 2, 3, 4, 5, 6, 7, 8, 9, 10, 11, 12, 13], [0, 13]), ([14, 15, 0, 1, 2, 3, 4, 5, 6, 7, 8, 9, 10, 11, 12, 13, 14, 15], [14])])
def impl_multiply.B13 : List Nat := [0, 0, 0, 6, 14, 0, 0, 0, 192, 480, 992, 2047, 4095, 8191, 8191, 16383, 65535]
theorem impl_multiply.tab13 : rtab .any (opsOf Try.f86 13) = impl_multiply.T13 := by kernel_rfl
theorem impl_multiply.bits13 : waitsOk impl_multiply.T13.2 impl_multiply.B13 = true := by kernel_rfl
set_option maxHeartbeats 8000000 in
set_option maxRecDepth 100000 in
theorem impl_multiply.calls (k : Nat) (A0 : Option Addr) (c0 : Nat) (l0 : List Int) (A1 : Option Addr) (c1 : Nat) (l1 : List Int) (r1 : List Int) (r2 : Bool) (w : World) (hr0 : Kd.C (Kd.int .i64) w A0 l0.length l0) (hc0 : l0.length ≤ c0) (hr1 : Kd.C (Kd.int .i64) w A1 l1.length l1) (hc1 : l1.length ≤ c1) (h : impl_multiply.f k l0 l1 = some (r1, r2)) :
    Calls Try.prog 86 #[.slice A0 l0.length c0, .slice A1 l1.length c1] w fun e w' => ∃ v0_ : Value, e = .returned (.tuple #[v0_, .bool r2]) ∧ Kd.R (Kd.int .i64) 2 w' w.heap.size (fun _ => True) v0_ r1 ∧ Below w.heap.size w w' := by
  have HR0 := Aside0.mk hr0
  have HC0 := Aside0.mk hc0
  clear hr0 hc0
  have HR1 := Aside0.mk hr1
  have HC1 := Aside0.mk hc1
  clear hr1 hc1
  have HB := Aside0.mk (Below.refl w.heap.size w)
  have H : (if (l0.length : Int) = 0 then (impl_multiply.j0 k l0 l1 true) else (impl_multiply.j0 k l0 l1 ((l1.length : Int) == 0))) = some (r1, r2) := h
  clear h
  have HC3 := Aside0.mk H
  clear H
  go_enter Try.func86, Try.ntmps86
  go_upto_region 1 with (fail)
  go_cut [18] (fun v18 wc => ∃ (kq : Nat) (x18_2 : Bool), v18 = .bool x18_2 ∧ Aside0 (impl_multiply.j0 kq l0 l1 x18_2 = some (r1, r2)) ∧ Aside0 (kq ≤ k) ∧ Aside0 (Below w.heap.size w wc))
  case first =>
    have H := HC3.out
    clear HC3
    by_cases c4 : (l0.length : Int) = 0
    · rw [if_pos c4] at H
      have c4b0 : ((l0.length : Int) == 0) = true := beq_iff_eq.mpr c4
      have c4b1 : ((l0.length : Int) != 0) = false := bne_eq_false_iff_eq.mpr c4
      clear c4
      (first | rw [c4b0] | (simp only [i64_w, i32_w]; rw [c4b0]) | skip)
      have H' := Aside0.mk H
      clear H
      go_wp2
      go_meet
      case rel => exact ⟨_, (true), (by first | rfl | (simp; done) | (simp [*]; done)), H', ⟨by first | omega | exact Nat.le_refl _⟩, ⟨by repeat (first | (with_reducible first | exact HB.out | apply below_alloc | apply pw_below_drewN | apply below_drew1) | exact HB.out)⟩⟩
    · rw [if_neg c4] at H
      have c4b0 : ((l0.length : Int) == 0) = false := beq_eq_false_iff_ne.mpr c4
      have c4b1 : ((l0.length : Int) != 0) = true := bne_iff_ne.mpr c4
      have c4b2 : ¬ (l0 = []) := fun h_ => c4 (by rw [h_]; rfl)
      (first | rw [c4b0] | (simp only [i64_w, i32_w]; rw [c4b0]) | skip)
      have H' := Aside0.mk H
      clear H
      go_wp2
      go_meet
      case rel => exact ⟨_, (((l1.length : Int) == 0)), (by first | rfl | (simp; done) | (simp [*]; done)), H', ⟨by first | omega | exact Nat.le_refl _⟩, ⟨by repeat (first | (with_reducible first | exact HB.out | apply below_alloc | apply pw_below_drewN | apply below_drew1) | exact HB.out)⟩⟩
  case rest =>
    clear HC3
    try clear c1
    try clear p2
    try clear c4
    try clear c4b0
    try clear c4b1
    try clear c4b2
    obtain ⟨kq, x18_2, rfl, HA, HJ2, HB⟩ := hcut
    cases kq with
    | zero => exact absurd HA.out (by simp [impl_multiply.j0])
    | succ kj2 =>
      have H := HA.out
      clear HA
      simp only [impl_multiply.j0] at H
      by_cases c5 : x18_2 = true
      · subst c5
        have H1 : (some ((([] : List Int)), true)) = some (r1, r2) := by rw [if_pos rfl] at H; exact H
        clear H
        have H := H1
        clear H1
        obtain ⟨y994, hy994⟩ : ∃ y_ : List Int, y_ = (([] : List Int)) := ⟨_, rfl⟩
        replace H : (some (y994, true)) = some (r1, r2) := by first | (rw [hy994]; with_reducible exact H) | (have H2_ := (Option.bind_some _ _).symm.trans H; rw [hy994]; with_reducible exact H2_) | (have H2_ := (Option.bind_some _ _).symm.trans H; with_reducible exact H2_) | with_reducible exact H | (rw [hy994]; exact H) | exact H
        have Ny994 := Aside0.mk hy994
        clear hy994
        simp only [Option.some.injEq, Prod.mk.injEq] at H
        obtain ⟨rfl, rfl⟩ := H
        go_wp2_with (first | ((with_reducible refine gate_dst (N := 19) rfl ?_); (try (refine gate_guard (by rfl) ?_; dsimp only)); refine Kd.R_lit (Kd.int .i64) _ 2 ?hg (N := 19) ?hd (xs := ([] : List Int)) (inner := []) (ok := fun _ => True) (okp := fun _ => True) ?hr ?hp (fun _ hk => hk) trivial (Below.refl _ _) (Nat.le_refl _) (by simp) ?_; (case hd => rfl); (case hg => rfl); (case hr => first | (go_simp; done) | (go_simp; rfl)); (case hp => exact (Reps.none _ _)); intro v995 w6 ho7 hb hg_ hnew_; clear hg_ hnew_; (first | rw [← Ny994.out] at ho7 | (simp only [Int.reduceToNat] at ho7; rw [← Ny994.out] at ho7)); have n0_ := Aside0.mk (Kd.R_lower ho7 (below_size (by repeat (first | (with_reducible first | exact HB.out | apply below_alloc | apply pw_below_drewN | apply below_drew1) | exact HB.out)))); have n1_ := Aside0.mk (below_step (by repeat (first | (with_reducible first | exact HB.out | apply below_alloc | apply pw_below_drewN | apply below_drew1) | exact HB.out)) hb); clear HB; have HO996 := n0_; have HB := n1_; clear n0_ n1_; clear hb ho7))
        go_ret2
        exact ⟨_, by first | rfl | (simp [errW_none, errW_some] <;> rfl) | (simp [*, errW_none, errW_some] <;> rfl), by (with_reducible repeat (first | apply Kd.R_alloc | apply Kd.R_drewN | apply Kd.R_drew)); exact HO996.out, by repeat (first | (with_reducible first | exact HB.out | apply below_alloc | apply pw_below_drewN | apply below_drew1) | exact HB.out)⟩
      · replace c5 := Bool.eq_false_iff.mpr c5
        subst c5
        have H1 : (if (wrap64 ((wrap64 ((l0.length : Int) + (l1.length : Int))) - 1)) > 40 then (some (([] : List Int), false)) else (impl_multiply.l0 kj2 l0 l1 (([] : List Int)) (wrap64 ((wrap64 ((l0.length : Int) + (l1.length : Int))) - 1)) 0)) = some (r1, r2) := by rw [if_neg (show ¬ (false = true) by decide)] at H; exact H
        clear H
        have H := H1
        clear H1
        by_cases c8 : (wrap64 ((wrap64 ((l0.length : Int) + (l1.length : Int))) - 1)) > 40
        · rw [if_pos c8] at H
          have c8b0 : decide (40 < (wrap64 ((wrap64 ((l0.length : Int) + (l1.length : Int))) - 1))) = true := decide_eq_true c8
          clear c8
          simp only [Option.some.injEq, Prod.mk.injEq] at H
          obtain ⟨rfl, rfl⟩ := H
          go_wp2
          go_ret2
          exact ⟨_, by first | rfl | (simp [errW_none, errW_some] <;> rfl) | (simp [*, errW_none, errW_some] <;> rfl), by first | exact Kd.R_nil _ _ _ _ _ | exact Kd.N_nil _ _ _ _ _ | exact Kd.V_nil _ _ _ _ _ | exact Kd.Q_nil _ _ _ _ _ | exact Kd.S_nil _ _ _ _ _, by repeat (first | (with_reducible first | exact HB.out | apply below_alloc | apply pw_below_drewN | apply below_drew1) | exact HB.out)⟩
        · rw [if_neg c8] at H
          have c8b0 : decide (40 < (wrap64 ((wrap64 ((l0.length : Int) + (l1.length : Int))) - 1))) = false := decide_eq_false c8
          clear c8
          obtain ⟨y997, hy997⟩ : ∃ y_ : List Int, y_ = (([] : List Int)) := ⟨_, rfl⟩
          replace H : (impl_multiply.l0 kj2 l0 l1 y997 (wrap64 ((wrap64 ((l0.length : Int) + (l1.length : Int))) - 1)) 0) = some (r1, r2) := by first | (rw [hy997]; with_reducible exact H) | (have H2_ := (Option.bind_some _ _).symm.trans H; rw [hy997]; with_reducible exact H2_) | (have H2_ := (Option.bind_some _ _).symm.trans H; with_reducible exact H2_) | with_reducible exact H | (rw [hy997]; exact H) | exact H
          have Ny997 := Aside0.mk hy997
          clear hy997
          have H' := Aside0.mk H
          clear H
          go_wp2_with (first | ((with_reducible refine gate_dst (N := 27) rfl ?_); (try (refine gate_guard (by rfl) ?_; dsimp only)); refine Kd.R_lit (Kd.int .i64) _ 2 ?hg (N := 27) ?hd (xs := ([] : List Int)) (inner := []) (ok := fun _ => True) (okp := fun _ => True) ?hr ?hp (fun _ hk => hk) trivial (Below.refl _ _) (Nat.le_refl _) (by simp) ?_; (case hd => rfl); (case hg => rfl); (case hr => first | (go_simp; done) | (go_simp; rfl)); (case hp => exact (Reps.none _ _)); intro v998 w9 ho10 hb hg_ hnew_; clear hg_ hnew_; (first | rw [← Ny997.out] at ho10 | (simp only [Int.reduceToNat] at ho10; rw [← Ny997.out] at ho10)); have n0_ := Aside0.mk (Kd.R_lower ho10 (below_size (by repeat (first | (with_reducible first | exact HB.out | apply below_alloc | apply pw_below_drewN | apply below_drew1) | exact HB.out)))); have n1_ := Aside0.mk (below_step (by repeat (first | (with_reducible first | exact HB.out | apply below_alloc | apply pw_below_drewN | apply below_drew1) | exact HB.out)) hb); clear HB; have HO999 := n0_; have HB := n1_; clear n0_ n1_; clear hb ho10))
          go_loopg [6, 34] kj2 (fun kq v6 v34 w' => ∃ (x6_2 : List Int) (x34_2 : Int), v34 = .int .i64 x34_2 ∧ Aside0 (impl_multiply.l0 kq l0 l1 x6_2 (wrap64 ((wrap64 ((l0.length : Int) + (l1.length : Int))) - 1)) x34_2 = some (r1, r2)) ∧ Aside0 (kq ≤ kj2) ∧ Aside0 (Kd.R (Kd.int .i64) 2 w' w.heap.size (fun _ => True) v6 x6_2) ∧ Aside0 (Below w.heap.size w w'))
          case atStart => exact ⟨(y997), (0), (by first | rfl | (simp; done) | (simp [*]; done)), H', ⟨Nat.le_refl _⟩, ⟨by (with_reducible repeat (first | apply Kd.R_alloc | apply Kd.R_drewN | apply Kd.R_drew)); exact HO999.out⟩, ⟨by repeat (first | (with_reducible first | exact HB.out | apply below_alloc | apply pw_below_drewN | apply below_drew1) | exact HB.out)⟩⟩
          case round =>
            clear H'
            try clear c1
            try clear p2
            try clear c4
            try clear c4b0
            try clear c4b1
            try clear c4b2
            try clear c5
            try clear p6
            try clear c8
            try clear c8b0
            try clear p2
            obtain ⟨x6_2, x34_2, rfl, HA, HK2, HO_6, HB⟩ := hrel
            cases gk with
            | zero => exact absurd HA.out (by simp [impl_multiply.l0])
            | succ k2 =>
              have H := HA.out
              clear HA
              simp only [impl_multiply.l0] at H
              by_cases c11 : x34_2 < (wrap64 ((wrap64 ((l0.length : Int) + (l1.length : Int))) - 1))
              · rw [if_pos c11] at H
                have c11b0 : decide (x34_2 < (wrap64 ((wrap64 ((l0.length : Int) + (l1.length : Int))) - 1))) = true := decide_eq_true c11
                clear c11
                obtain ⟨ji12, hji12⟩ : ∃ j_ : Int, (mx 0 (wrap64 ((wrap64 (x34_2 - (l1.length : Int))) + 1))) = j_ := ⟨_, rfl⟩
                replace H : (impl_multiply.l1 k2 l0 l1 x6_2 x34_2 0 ji12 (wrap64 ((wrap64 ((l0.length : Int) + (l1.length : Int))) - 1)) x34_2) = some (r1, r2) := by first | (rw [hji12] at H; exact H) | (simp only [hji12] at H ⊢; exact H)
                have hji12_ : (if 0 < (wrap64 ((wrap64 (x34_2 - (l1.length : Int))) + 1)) then (wrap64 ((wrap64 (x34_2 - (l1.length : Int))) + 1)) else 0) = ji12 := hji12
                have H' := Aside0.mk H
                clear H
                go_wp2
                go_loopg [8, 10] k2 (fun kq v8 v10 w' => ∃ (x8_3 : Int) (x10_3 : Int), v8 = .int .i64 x8_3 ∧ v10 = .int .i64 x10_3 ∧ Aside0 (impl_multiply.l1 kq l0 l1 x6_2 x34_2 x8_3 x10_3 (wrap64 ((wrap64 ((l0.length : Int) + (l1.length : Int))) - 1)) x34_2 = some (r1, r2)) ∧ Aside0 (kq ≤ k2) ∧ Aside0 (Kd.R (Kd.int .i64) 2 w' w.heap.size (fun _ => True) u6 x6_2) ∧ Aside0 (Below w.heap.size w w'))
                case atStart => exact ⟨(0), (ji12), (by first | rfl | (simp; done) | (simp [*]; done)), (by first | rfl | (simp; done) | (simp only [← hji12] <;> (first | rfl | simp)) | (simp [*]; done)), H', ⟨Nat.le_refl _⟩, ⟨by (with_reducible repeat (first | apply Kd.R_alloc | apply Kd.R_drewN | apply Kd.R_drew)); exact HO_6.out⟩, ⟨by repeat (first | (with_reducible first | exact HB.out | apply below_alloc | apply pw_below_drewN | apply below_drew1) | exact HB.out)⟩⟩
                case round =>
                  clear H'
                  try clear c1
                  try clear p2
                  try clear c4
                  try clear c4b0
                  try clear c4b1
                  try clear c4b2
                  try clear c5
                  try clear p6
                  try clear c8
                  try clear c8b0
                  try clear c11
                  try clear c11b0
                  try clear p2
                  try clear p6
                  obtain ⟨x8_3, x10_3, rfl, rfl, HA, HK3, HO_6, HB⟩ := hrel
                  cases gk with
                  | zero => exact absurd HA.out (by simp [impl_multiply.l1])
                  | succ k3 =>
                    have H := HA.out
                    clear HA
                    simp only [impl_multiply.l1] at H
                    obtain ⟨ji13, hji13⟩ : ∃ j_ : Int, (mn x34_2 (wrap64 ((l0.length : Int) - 1))) = j_ := ⟨_, rfl⟩
                    replace H : (if x10_3 ≤ (ji13) then (if 0 ≤ x10_3 then (if x10_3 < (l0.length : Int) then (if 0 ≤ (wrap64 (x34_2 - x10_3)) then (if (wrap64 (x34_2 - x10_3)) < (l1.length : Int) then ((impl_plusTimes.f k3 x8_3 (rd l0 x10_3) (rd l1 (wrap64 (x34_2 - x10_3)))).bind fun bt1002 => (if bt1002.2 = true then (impl_multiply.l1 k3 l0 l1 x6_2 x34_2 bt1002.1 (wrap64 (x10_3 + 1)) (wrap64 ((wrap64 ((l0.length : Int) + (l1.length : Int))) - 1)) x34_2) else (some (([] : List Int), false)))) else (none)) else (none)) else (none)) else (none)) else (if x6_2.length < 17592186044416 then (impl_multiply.l0 k3 l0 l1 (x6_2 ++ [x8_3]) (wrap64 ((wrap64 ((l0.length : Int) + (l1.length : Int))) - 1)) (wrap64 (x34_2 + 1))) else (none))) = some (r1, r2) := by first | (rw [hji13] at H; exact H) | (simp only [hji13] at H ⊢; exact H)
                    have hji13_ : (if (wrap64 ((l0.length : Int) - 1)) < x34_2 then (wrap64 ((l0.length : Int) - 1)) else x34_2) = ji13 := hji13
                    by_cases c14 : x10_3 ≤ (ji13)
                    · rw [if_pos c14] at H
                      have c14b0 : decide (x10_3 ≤ (ji13)) = true := decide_eq_true c14
                      clear c14
                      by_cases c15 : 0 ≤ x10_3
                      · rw [if_pos c15] at H
                        have c15b0 : decide (0 ≤ x10_3) = true := decide_eq_true c15
                        clear c15
                        by_cases c16 : x10_3 < (l0.length : Int)
                        · rw [if_pos c16] at H
                          have c16b0 : decide (x10_3 < (l0.length : Int)) = true := decide_eq_true c16
                          clear c16
                          obtain ⟨ji17, hji17⟩ : ∃ j_ : Int, (wrap64 (x34_2 - x10_3)) = j_ := ⟨_, rfl⟩
                          replace H : (if 0 ≤ (ji17) then (if (ji17) < (l1.length : Int) then ((impl_plusTimes.f k3 x8_3 (rd l0 x10_3) (rd l1 (ji17))).bind fun bt1002 => (if bt1002.2 = true then (impl_multiply.l1 k3 l0 l1 x6_2 x34_2 bt1002.1 (wrap64 (x10_3 + 1)) (wrap64 ((wrap64 ((l0.length : Int) + (l1.length : Int))) - 1)) x34_2) else (some (([] : List Int), false)))) else (none)) else (none)) = some (r1, r2) := by first | (rw [hji17] at H; exact H) | (simp only [hji17] at H ⊢; exact H)
                          have hji17w : (IntKind.i64.wrap (x34_2 - x10_3)) = ji17 := (i64_w _).trans hji17
                          by_cases c18 : 0 ≤ (ji17)
                          · rw [if_pos c18] at H
                            have c18b0 : decide (0 ≤ (ji17)) = true := decide_eq_true c18
                            clear c18
                            by_cases c19 : (ji17) < (l1.length : Int)
                            · rw [if_pos c19] at H
                              have c19b0 : decide ((ji17) < (l1.length : Int)) = true := decide_eq_true c19
                              clear c19
                              replace H := Option.bind_eq_some_iff.mp H
                              obtain ⟨⟨t1002, t1003⟩, A200, H⟩ := H
                              replace H : (if t1003 = true then (impl_multiply.l1 k3 l0 l1 x6_2 x34_2 t1002 (wrap64 (x10_3 + 1)) (wrap64 ((wrap64 ((l0.length : Int) + (l1.length : Int))) - 1)) x34_2) else (some (([] : List Int), false))) = some (r1, r2) := H
                              have A20 := Aside0.mk A200
                              clear A200
                              by_cases c21 : t1003 = true
                              · subst c21
                                have H1 : (impl_multiply.l1 k3 l0 l1 x6_2 x34_2 t1002 (wrap64 (x10_3 + 1)) (wrap64 ((wrap64 ((l0.length : Int) + (l1.length : Int))) - 1)) x34_2) = some (r1, r2) := by rw [if_pos rfl] at H; exact H
                                clear H
                                have H := H1
                                clear H1
                                have H' := Aside0.mk H
                                clear H
                                try go_wp2
                                have n0_ := Aside0.mk (Kd.R_drew HO_6.out)
                                have n1_ := Aside0.mk (below_drew1 HB.out)
                                clear HO_6
                                clear HB
                                have HO_6 := n0_
                                have HB := n1_
                                clear n0_ n1_
                                have p1000 : 0 ≤ (x10_3 : Int) := of_decide_eq_true (by first | (with_reducible assumption) | assumption)
                                have q1000 : x10_3 < (l0.length : Int) := of_decide_eq_true (by first | (with_reducible assumption) | assumption)
                                obtain ⟨ad1000, e1000, hx1000_0⟩ := Kd.at_int HR0.out x10_3 p1000 q1000
                                have hw1000_0 := hx1000_0
                                cases e1000
                                replace hx1000_0 := (HB.out.cell (World.block_lt_of_cell? w _ hx1000_0)).trans hx1000_0
                                replace p1000 := eq_true p1000
                                replace q1000 := eq_true q1000
                                have p1001 : 0 ≤ ((ji17) : Int) := of_decide_eq_true (by first | (with_reducible assumption) | assumption)
                                have q1001 : (ji17) < (l1.length : Int) := of_decide_eq_true (by first | (with_reducible assumption) | assumption)
                                obtain ⟨ad1001, e1001, hx1001_0⟩ := Kd.at_int HR1.out (ji17) p1001 q1001
                                have hw1001_0 := hx1001_0
                                cases e1001
                                replace hx1001_0 := (HB.out.cell (World.block_lt_of_cell? w _ hx1001_0)).trans hx1001_0
                                replace p1001 := eq_true p1001
                                replace q1001 := eq_true q1001
                                refine start_ (n := 17) (S := fun w' => w'.cell? (ad1000.add (x10_3).toNat) = some (.int .i64 (rd l0 x10_3)) ∧ w'.cell? (ad1001.add ((ji17)).toNat) = some (.int .i64 (rd l1 (ji17)))) (ds := []) #[false, false, false, false, false, false, false, false, false, false, false, false, false, false, false, false, false] (by kernel_rfl) rfl rfl ⟨((HB.out.cell (World.block_lt_of_cell? _ _ hw1000_0)).trans hw1000_0), ((HB.out.cell (World.block_lt_of_cell? _ _ hw1001_0)).trans hw1001_0)⟩ (fun hHeld => ?_); refine with_tabW impl_multiply.tab13 impl_multiply.bits13 (fun HT_ HW_ => ?_)
                                generalize wr.drew = w22 at HO_6 HB hx1000_0 hx1001_0 hHeld ⊢
                                refine pure_ (i := 0) (N := some 53) (v := ?_) (a' := ?_) #[true, false, false, false, false, false, false, false, false, false, false, false, false, false, false, false, false] rfl rfl (any_of HT_.out (by kernel_rfl)) (fun _ _ _ h => h) (Or.inl ⟨by rfl, ?_⟩) ?_ ?_
                                rotate_left
                                · intro w'
                                  go_simp
                                  with_reducible rfl
                                rotate_left
                                · simp only [Act.put, List.setIfInBounds_toArray, List.set_cons_zero, List.set_cons_succ, i64_w, i32_w]
                                  rfl
                                refine pure_ (i := 1) (N := some 54) (v := ?_) (a' := ?_) #[true, true, false, false, false, false, false, false, false, false, false, false, false, false, false, false, false] rfl rfl (any_of HT_.out (by kernel_rfl)) (fun _ _ _ h => h) (Or.inl ⟨by rfl, ?_⟩) ?_ ?_
                                rotate_left
                                · intro w'
                                  go_simp
                                  with_reducible rfl
                                rotate_left
                                · simp only [Act.put, List.setIfInBounds_toArray, List.set_cons_zero, List.set_cons_succ, i64_w, i32_w]
                                  rfl
                                refine pure_ (i := 2) (N := some 55) (v := ?_) (a' := ?_) #[true, true, true, false, false, false, false, false, false, false, false, false, false, false, false, false, false] rfl rfl (any_of HT_.out (by kernel_rfl)) (fun _ _ _ h => h) (Or.inl ⟨by rfl, ?_⟩) ?_ ?_
                                rotate_left
                                · intro w'
                                  go_simp
                                  with_reducible rfl
                                rotate_left
                                · simp only [Act.put, List.setIfInBounds_toArray, List.set_cons_zero, List.set_cons_succ, i64_w, i32_w]
                                  rfl
                                refine pure_ (i := 3) (N := some 56) (v := ?_) (a' := ?_) #[true, true, true, true, false, false, false, false, false, false, false, false, false, false, false, false, false] rfl rfl (any_of HT_.out (by kernel_rfl)) (fun _ _ _ h => h) (Or.inl ⟨by rfl, ?_⟩) ?_ ?_
                                rotate_left
                                · intro w'
                                  go_simp
                                  with_reducible rfl
                                rotate_left
                                · simp only [Act.put, List.setIfInBounds_toArray, List.set_cons_zero, List.set_cons_succ, i64_w, i32_w]
                                  rfl
                                refine pure_ (i := 5) (N := some 58) (v := ?_) (a' := ?_) #[true, true, true, true, false, true, false, false, false, false, false, false, false, false, false, false, false] rfl rfl (any_of HT_.out (by kernel_rfl)) (fun _ _ _ h => h) (Or.inl ⟨by rfl, ?_⟩) ?_ ?_
                                rotate_left
                                · intro w'
                                  go_simp
                                  with_reducible rfl
                                rotate_left
                                · simp only [Act.put, List.setIfInBounds_toArray, List.set_cons_zero, List.set_cons_succ, i64_w, i32_w]
                                  rfl
                                refine pure_ (i := 6) (N := some 59) (v := ?_) (a' := ?_) #[true, true, true, true, false, true, true, false, false, false, false, false, false, false, false, false, false] rfl rfl (any_of HT_.out (by kernel_rfl)) (fun _ _ _ h => h) (Or.inl ⟨by rfl, ?_⟩) ?_ ?_
                                rotate_left
                                · intro w'
                                  go_simp
                                  with_reducible rfl
                                rotate_left
                                · simp only [Act.put, List.setIfInBounds_toArray, List.set_cons_zero, List.set_cons_succ, i64_w, i32_w]
                                  rfl
                                refine pure_ (i := 7) (N := some 60) (v := ?_) (a' := ?_) #[true, true, true, true, false, true, true, true, false, false, false, false, false, false, false, false, false] rfl rfl (any_of HT_.out (by kernel_rfl)) (fun _ _ _ h => h) (Or.inl ⟨by rfl, ?_⟩) ?_ ?_
                                rotate_left
                                · intro w'
                                  go_simp
                                  with_reducible rfl
                                rotate_left
                                · simp only [Act.put, List.setIfInBounds_toArray, List.set_cons_zero, List.set_cons_succ, i64_w, i32_w]
                                  rfl
                                refine pure_ (i := 8) (N := some 61) (v := ?_) (a' := ?_) #[true, true, true, true, false, true, true, true, true, false, false, false, false, false, false, false, false] rfl rfl (any_of HT_.out (by kernel_rfl)) (fun _ _ _ h => h) (Or.inl ⟨by rfl, ?_⟩) ?_ ?_
                                rotate_left
                                · intro w'
                                  go_simp
                                  with_reducible rfl
                                rotate_left
                                · simp only [Act.put, List.setIfInBounds_toArray, List.set_cons_zero, List.set_cons_succ, i64_w, i32_w]
                                  rfl
                                refine pure_ (i := 9) (N := some 62) (v := ?_) (a' := ?_) #[true, true, true, true, false, true, true, true, true, true, false, false, false, false, false, false, false] rfl rfl (any_of HT_.out (by kernel_rfl)) (fun _ _ _ h => h) (Or.inl ⟨by rfl, ?_⟩) ?_ ?_
                                rotate_left
                                · intro w'
                                  go_simp
                                  with_reducible rfl
                                rotate_left
                                · simp only [Act.put, List.setIfInBounds_toArray, List.set_cons_zero, List.set_cons_succ, i64_w, i32_w]
                                  rfl
                                refine take_ (i := 4) (N := some 57) (v := ?_) (a' := ?_) #[true, true, true, true, true, true, true, true, true, true, false, false, false, false, false, false, false] rfl rfl (take_ofW HT_.out HW_.out (by kernel_rfl)) (fun _ _ _ h => h) (Or.inl ⟨by rfl, ?_⟩) hHeld ?_ ?_
                                rotate_left
                                · rintro w' ⟨s0, s1⟩
                                  go_simp
                                  with_reducible rfl
                                rotate_left
                                · simp only [Act.put, List.setIfInBounds_toArray, List.set_cons_zero, List.set_cons_succ, i64_w, i32_w]
                                  rfl
                                refine take_ (i := 10) (N := some 63) (v := ?_) (a' := ?_) #[true, true, true, true, true, true, true, true, true, true, true, false, false, false, false, false, false] rfl rfl (take_ofW HT_.out HW_.out (by kernel_rfl)) (fun _ _ _ h => h) (Or.inl ⟨by rfl, ?_⟩) hHeld ?_ ?_
                                rotate_left
                                · rintro w' ⟨s0, s1⟩
                                  go_simp
                                  with_reducible rfl
                                rotate_left
                                · simp only [Act.put, List.setIfInBounds_toArray, List.set_cons_zero, List.set_cons_succ, i64_w, i32_w]
                                  rfl
                                refine one_ (i := 11) (N := some 64) #[true, true, true, true, true, true, true, true, true, true, true, true, false, false, false, false, false] rfl rfl (one_of HT_.out (by kernel_rfl)) (by decide) (fun K hK => ?_)
                                refine goes_ Try.func67 (by kernel_rfl) rfl #[.int .i64 x8_3, .int .i64 (rd l0 x10_3), .int .i64 (rd l1 (ji17))] (by rfl) rfl rfl (by (try simp only [List.map_toArray, List.map_cons, List.map_nil]); first | done | (simp only [hji17]; rfl) | rfl | (simp only [List.length_drop, List.length_take]; rfl)) ?_
                                with_reducible refine (impl_plusTimes.calls k3 x8_3 (rd l0 x10_3) (rd l1 (ji17)) t1002 true _ A20.out).mono ?_
                                rintro e w23 ⟨rfl, hb⟩
                                refine ⟨_, rfl, ?_⟩
                                have n0_ := Aside0.mk (Kd.R_below (by (with_reducible repeat (first | apply Kd.R_alloc | apply Kd.R_drewN | apply Kd.R_drew)); exact HO_6.out) hb)
                                have n1_ := Aside0.mk (below_step (by repeat (first | (with_reducible first | exact HB.out | apply below_alloc | apply pw_below_drewN | apply below_drew1) | exact HB.out)) hb)
                                clear HO_6
                                clear HB
                                have HO_6 := n0_
                                have HB := n1_
                                clear n0_ n1_
                                (try clear hb)
                                (try clear hb2)
                                (try clear hk)
                                (try clear hi)
                                refine hK.out _ _ ⟨((HB.out.cell (World.block_lt_of_cell? _ _ hw1000_0)).trans hw1000_0), ((HB.out.cell (World.block_lt_of_cell? _ _ hw1001_0)).trans hw1001_0)⟩ (fun hHeld => ?_)
                                clear hK K
                                refine norm_ (a' := ?_) ?_ ?_
                                rotate_left
                                · show Act.put _ (some 64) _ = _
                                  simp only [Act.put, List.setIfInBounds_toArray, List.set_cons_zero, List.set_cons_succ, i64_w, i32_w]
                                  rfl
                                refine pure_ (i := 12) (N := some 52) (v := ?_) (a' := ?_) #[true, true, true, true, true, true, true, true, true, true, true, true, true, false, false, false, false] rfl rfl (any_of HT_.out (by kernel_rfl)) (fun _ _ _ h => h) (Or.inl ⟨by rfl, ?_⟩) ?_ ?_
                                rotate_left
                                · intro w'
                                  go_simp
                                  with_reducible rfl
                                rotate_left
                                · simp only [Act.put, List.setIfInBounds_toArray, List.set_cons_zero, List.set_cons_succ, i64_w, i32_w]
                                  rfl
                                refine pure_ (i := 13) (N := some 65) (v := ?_) (a' := ?_) #[true, true, true, true, true, true, true, true, true, true, true, true, true, true, false, false, false] rfl rfl (any_of HT_.out (by kernel_rfl)) (fun _ _ _ h => h) (Or.inl ⟨by rfl, ?_⟩) ?_ ?_
                                rotate_left
                                · intro w'
                                  go_simp
                                  with_reducible rfl
                                rotate_left
                                · simp only [Act.put, List.setIfInBounds_toArray, List.set_cons_zero, List.set_cons_succ, i64_w, i32_w]
                                  rfl
                                refine pure_ (i := 14) (N := some 66) (v := ?_) (a' := ?_) #[true, true, true, true, true, true, true, true, true, true, true, true, true, true, true, false, false] rfl rfl (any_of HT_.out (by kernel_rfl)) (fun _ _ _ h => h) (Or.inl ⟨by rfl, ?_⟩) ?_ ?_
                                rotate_left
                                · intro w'
                                  go_simp
                                  with_reducible rfl
                                rotate_left
                                · simp only [Act.put, List.setIfInBounds_toArray, List.set_cons_zero, List.set_cons_succ, i64_w, i32_w]
                                  rfl
                                refine pure_ (i := 15) (N := some 8) (v := ?_) (a' := ?_) #[true, true, true, true, true, true, true, true, true, true, true, true, true, true, true, true, false] rfl rfl (any_of HT_.out (by kernel_rfl)) (fun _ _ _ h => h) (Or.inl ⟨by rfl, ?_⟩) ?_ ?_
                                rotate_left
                                · intro w'
                                  go_simp
                                  with_reducible rfl
                                rotate_left
                                · simp only [Act.put, List.setIfInBounds_toArray, List.set_cons_zero, List.set_cons_succ, i64_w, i32_w]
                                  rfl
                                refine pure_ (i := 16) (N := some 9) (v := ?_) (a' := ?_) #[true, true, true, true, true, true, true, true, true, true, true, true, true, true, true, true, true] rfl rfl (any_of HT_.out (by kernel_rfl)) (fun _ _ _ h => h) (Or.inl ⟨by rfl, ?_⟩) ?_ ?_
                                rotate_left
                                · intro w'
                                  go_simp
                                  with_reducible rfl
                                rotate_left
                                · simp only [Act.put, List.setIfInBounds_toArray, List.set_cons_zero, List.set_cons_succ, i64_w, i32_w]
                                  rfl
                                refine done_ (done_of HT_.out (by kernel_rfl)) ?_
                                try go_wp2
                                first | go_roundg k3 | (refine Handed.intro k3 ?measure ?_; rotate_left; go_step; (try simp only [add_plain]); (repeat apply Exists.intro); refine ⟨?rel, rfl⟩)
                                case measure => have := HJ2.out; have := HK2.out; have := HK3.out; omega
                                case rel => exact ⟨(t1002), (wrap64 (x10_3 + 1)), (by first | rfl | (simp; done) | (simp [*]; done)), (by first | rfl | (simp; done) | (simp [*]; done)), H', ⟨by have := HJ2.out; have := HK2.out; have := HK3.out; omega⟩, ⟨by (with_reducible repeat (first | apply Kd.R_alloc | apply Kd.R_drewN | apply Kd.R_drew)); exact HO_6.out⟩, ⟨by repeat (first | (with_reducible first | exact HB.out | apply below_alloc | apply pw_below_drewN | apply below_drew1) | exact HB.out)⟩⟩
                              · replace c21 := Bool.eq_false_iff.mpr c21
                                subst c21
                                have H1 : (some (([] : List Int), false)) = some (r1, r2) := by rw [if_neg (show ¬ (false = true) by decide)] at H; exact H
                                clear H
                                have H := H1
                                clear H1
                                simp only [Option.some.injEq, Prod.mk.injEq] at H
                                obtain ⟨rfl, rfl⟩ := H
                                try go_wp2
                                have n0_ := Aside0.mk (Kd.R_drew HO_6.out)
                                have n1_ := Aside0.mk (below_drew1 HB.out)
                                clear HO_6
                                clear HB
                                have HO_6 := n0_
                                have HB := n1_
                                clear n0_ n1_
                                have p1000 : 0 ≤ (x10_3 : Int) := of_decide_eq_true (by first | (with_reducible assumption) | assumption)
                                have q1000 : x10_3 < (l0.length : Int) := of_decide_eq_true (by first | (with_reducible assumption) | assumption)
                                obtain ⟨ad1000, e1000, hx1000_0⟩ := Kd.at_int HR0.out x10_3 p1000 q1000
                                have hw1000_0 := hx1000_0
                                cases e1000
                                replace hx1000_0 := (HB.out.cell (World.block_lt_of_cell? w _ hx1000_0)).trans hx1000_0
                                replace p1000 := eq_true p1000
                                replace q1000 := eq_true q1000
                                have p1001 : 0 ≤ ((ji17) : Int) := of_decide_eq_true (by first | (with_reducible assumption) | assumption)
                                have q1001 : (ji17) < (l1.length : Int) := of_decide_eq_true (by first | (with_reducible assumption) | assumption)
                                obtain ⟨ad1001, e1001, hx1001_0⟩ := Kd.at_int HR1.out (ji17) p1001 q1001
                                have hw1001_0 := hx1001_0
                                cases e1001
                                replace hx1001_0 := (HB.out.cell (World.block_lt_of_cell? w _ hx1001_0)).trans hx1001_0
                                replace p1001 := eq_true p1001
                                replace q1001 := eq_true q1001
                                refine start_ (n := 17) (S := fun w' => w'.cell? (ad1000.add (x10_3).toNat) = some (.int .i64 (rd l0 x10_3)) ∧ w'.cell? (ad1001.add ((ji17)).toNat) = some (.int .i64 (rd l1 (ji17)))) (ds := []) #[false, false, false, false, false, false, false, false, false, false, false, false, false, false, false, false, false] (by kernel_rfl) rfl rfl ⟨((HB.out.cell (World.block_lt_of_cell? _ _ hw1000_0)).trans hw1000_0), ((HB.out.cell (World.block_lt_of_cell? _ _ hw1001_0)).trans hw1001_0)⟩ (fun hHeld => ?_); refine with_tabW impl_multiply.tab13 impl_multiply.bits13 (fun HT_ HW_ => ?_)
                                generalize wr.drew = w24 at HO_6 HB hx1000_0 hx1001_0 hHeld ⊢
                                refine pure_ (i := 0) (N := some 53) (v := ?_) (a' := ?_) #[true, false, false, false, false, false, false, false, false, false, false, false, false, false, false, false, false] rfl rfl (any_of HT_.out (by kernel_rfl)) (fun _ _ _ h => h) (Or.inl ⟨by rfl, ?_⟩) ?_ ?_
                                rotate_left
                                · intro w'
                                  go_simp
                                  with_reducible rfl
                                rotate_left
                                · simp only [Act.put, List.setIfInBounds_toArray, List.set_cons_zero, List.set_cons_succ, i64_w, i32_w]
                                  rfl
                                refine pure_ (i := 1) (N := some 54) (v := ?_) (a' := ?_) #[true, true, false, false, false, false, false, false, false, false, false, false, false, false, false, false, false] rfl rfl (any_of HT_.out (by kernel_rfl)) (fun _ _ _ h => h) (Or.inl ⟨by rfl, ?_⟩) ?_ ?_
                                rotate_left
                                · intro w'
                                  go_simp
                                  with_reducible rfl
                                rotate_left
                                · simp only [Act.put, List.setIfInBounds_toArray, List.set_cons_zero, List.set_cons_succ, i64_w, i32_w]
                                  rfl
                                refine pure_ (i := 2) (N := some 55) (v := ?_) (a' := ?_) #[true, true, true, false, false, false, false, false, false, false, false, false, false, false, false, false, false] rfl rfl (any_of HT_.out (by kernel_rfl)) (fun _ _ _ h => h) (Or.inl ⟨by rfl, ?_⟩) ?_ ?_
                                rotate_left
                                · intro w'
                                  go_simp
                                  with_reducible rfl
                                rotate_left
                                · simp only [Act.put, List.setIfInBounds_toArray, List.set_cons_zero, List.set_cons_succ, i64_w, i32_w]
                                  rfl
                                refine pure_ (i := 3) (N := some 56) (v := ?_) (a' := ?_) #[true, true, true, true, false, false, false, false, false, false, false, false, false, false, false, false, false] rfl rfl (any_of HT_.out (by kernel_rfl)) (fun _ _ _ h => h) (Or.inl ⟨by rfl, ?_⟩) ?_ ?_
                                rotate_left
                                · intro w'
                                  go_simp
                                  with_reducible rfl
                                rotate_left
                                · simp only [Act.put, List.setIfInBounds_toArray, List.set_cons_zero, List.set_cons_succ, i64_w, i32_w]
                                  rfl
                                refine pure_ (i := 5) (N := some 58) (v := ?_) (a' := ?_) #[true, true, true, true, false, true, false, false, false, false, false, false, false, false, false, false, false] rfl rfl (any_of HT_.out (by kernel_rfl)) (fun _ _ _ h => h) (Or.inl ⟨by rfl, ?_⟩) ?_ ?_
                                rotate_left
                                · intro w'
                                  go_simp
                                  with_reducible rfl
                                rotate_left
                                · simp only [Act.put, List.setIfInBounds_toArray, List.set_cons_zero, List.set_cons_succ, i64_w, i32_w]
                                  rfl
                                refine pure_ (i := 6) (N := some 59) (v := ?_) (a' := ?_) #[true, true, true, true, false, true, true, false, false, false, false, false, false, false, false, false, false] rfl rfl (any_of HT_.out (by kernel_rfl)) (fun _ _ _ h => h) (Or.inl ⟨by rfl, ?_⟩) ?_ ?_
                                rotate_left
                                · intro w'
                                  go_simp
                                  with_reducible rfl
                                rotate_left
                                · simp only [Act.put, List.setIfInBounds_toArray, List.set_cons_zero, List.set_cons_succ, i64_w, i32_w]
                                  rfl
                                refine pure_ (i := 7) (N := some 60) (v := ?_) (a' := ?_) #[true, true, true, true, false, true, true, true, false, false, false, false, false, false, false, false, false] rfl rfl (any_of HT_.out (by kernel_rfl)) (fun _ _ _ h => h) (Or.inl ⟨by rfl, ?_⟩) ?_ ?_
                                rotate_left
                                · intro w'
                                  go_simp
                                  with_reducible rfl
                                rotate_left
                                · simp only [Act.put, List.setIfInBounds_toArray, List.set_cons_zero, List.set_cons_succ, i64_w, i32_w]
                                  rfl
                                refine pure_ (i := 8) (N := some 61) (v := ?_) (a' := ?_) #[true, true, true, true, false, true, true, true, true, false, false, false, false, false, false, false, false] rfl rfl (any_of HT_.out (by kernel_rfl)) (fun _ _ _ h => h) (Or.inl ⟨by rfl, ?_⟩) ?_ ?_
                                rotate_left
                                · intro w'
                                  go_simp
                                  with_reducible rfl
                                rotate_left
                                · simp only [Act.put, List.setIfInBounds_toArray, List.set_cons_zero, List.set_cons_succ, i64_w, i32_w]
                                  rfl
                                refine pure_ (i := 9) (N := some 62) (v := ?_) (a' := ?_) #[true, true, true, true, false, true, true, true, true, true, false, false, false, false, false, false, false] rfl rfl (any_of HT_.out (by kernel_rfl)) (fun _ _ _ h => h) (Or.inl ⟨by rfl, ?_⟩) ?_ ?_
                                rotate_left
                                · intro w'
                                  go_simp
                                  with_reducible rfl
                                rotate_left
                                · simp only [Act.put, List.setIfInBounds_toArray, List.set_cons_zero, List.set_cons_succ, i64_w, i32_w]
                                  rfl
                                refine take_ (i := 4) (N := some 57) (v := ?_) (a' := ?_) #[true, true, true, true, true, true, true, true, true, true, false, false, false, false, false, false, false] rfl rfl (take_ofW HT_.out HW_.out (by kernel_rfl)) (fun _ _ _ h => h) (Or.inl ⟨by rfl, ?_⟩) hHeld ?_ ?_
                                rotate_left
                                · rintro w' ⟨s0, s1⟩
                                  go_simp
                                  with_reducible rfl
                                rotate_left
                                · simp only [Act.put, List.setIfInBounds_toArray, List.set_cons_zero, List.set_cons_succ, i64_w, i32_w]
                                  rfl
                                refine take_ (i := 10) (N := some 63) (v := ?_) (a' := ?_) #[true, true, true, true, true, true, true, true, true, true, true, false, false, false, false, false, false] rfl rfl (take_ofW HT_.out HW_.out (by kernel_rfl)) (fun _ _ _ h => h) (Or.inl ⟨by rfl, ?_⟩) hHeld ?_ ?_
                                rotate_left
                                · rintro w' ⟨s0, s1⟩
                                  go_simp
                                  with_reducible rfl
                                rotate_left
                                · simp only [Act.put, List.setIfInBounds_toArray, List.set_cons_zero, List.set_cons_succ, i64_w, i32_w]
                                  rfl
                                refine one_ (i := 11) (N := some 64) #[true, true, true, true, true, true, true, true, true, true, true, true, false, false, false, false, false] rfl rfl (one_of HT_.out (by kernel_rfl)) (by decide) (fun K hK => ?_)
                                refine goes_ Try.func67 (by kernel_rfl) rfl #[.int .i64 x8_3, .int .i64 (rd l0 x10_3), .int .i64 (rd l1 (ji17))] (by rfl) rfl rfl (by (try simp only [List.map_toArray, List.map_cons, List.map_nil]); first | done | (simp only [hji17]; rfl) | rfl | (simp only [List.length_drop, List.length_take]; rfl)) ?_
                                with_reducible refine (impl_plusTimes.calls k3 x8_3 (rd l0 x10_3) (rd l1 (ji17)) t1002 false _ A20.out).mono ?_
                                rintro e w25 ⟨rfl, hb⟩
                                refine ⟨_, rfl, ?_⟩
                                have n0_ := Aside0.mk (Kd.R_below (by (with_reducible repeat (first | apply Kd.R_alloc | apply Kd.R_drewN | apply Kd.R_drew)); exact HO_6.out) hb)
                                have n1_ := Aside0.mk (below_step (by repeat (first | (with_reducible first | exact HB.out | apply below_alloc | apply pw_below_drewN | apply below_drew1) | exact HB.out)) hb)
                                clear HO_6
                                clear HB
                                have HO_6 := n0_
                                have HB := n1_
                                clear n0_ n1_
                                (try clear hb)
                                (try clear hb2)
                                (try clear hk)
                                (try clear hi)
                                refine hK.out _ _ ⟨((HB.out.cell (World.block_lt_of_cell? _ _ hw1000_0)).trans hw1000_0), ((HB.out.cell (World.block_lt_of_cell? _ _ hw1001_0)).trans hw1001_0)⟩ (fun hHeld => ?_)
                                clear hK K
                                refine norm_ (a' := ?_) ?_ ?_
                                rotate_left
                                · show Act.put _ (some 64) _ = _
                                  simp only [Act.put, List.setIfInBounds_toArray, List.set_cons_zero, List.set_cons_succ, i64_w, i32_w]
                                  rfl
                                refine pure_ (i := 12) (N := some 52) (v := ?_) (a' := ?_) #[true, true, true, true, true, true, true, true, true, true, true, true, true, false, false, false, false] rfl rfl (any_of HT_.out (by kernel_rfl)) (fun _ _ _ h => h) (Or.inl ⟨by rfl, ?_⟩) ?_ ?_
                                rotate_left
                                · intro w'
                                  go_simp
                                  with_reducible rfl
                                rotate_left
                                · simp only [Act.put, List.setIfInBounds_toArray, List.set_cons_zero, List.set_cons_succ, i64_w, i32_w]
                                  rfl
                                refine pure_ (i := 13) (N := some 65) (v := ?_) (a' := ?_) #[true, true, true, true, true, true, true, true, true, true, true, true, true, true, false, false, false] rfl rfl (any_of HT_.out (by kernel_rfl)) (fun _ _ _ h => h) (Or.inl ⟨by rfl, ?_⟩) ?_ ?_
                                rotate_left
                                · intro w'
                                  go_simp
                                  with_reducible rfl
                                rotate_left
                                · simp only [Act.put, List.setIfInBounds_toArray, List.set_cons_zero, List.set_cons_succ, i64_w, i32_w]
                                  rfl
                                refine pure_ (i := 14) (N := some 66) (v := ?_) (a' := ?_) #[true, true, true, true, true, true, true, true, true, true, true, true, true, true, true, false, false] rfl rfl (any_of HT_.out (by kernel_rfl)) (fun _ _ _ h => h) (Or.inl ⟨by rfl, ?_⟩) ?_ ?_
                                rotate_left
                                · intro w'
                                  go_simp
                                  with_reducible rfl
                                rotate_left
                                · simp only [Act.put, List.setIfInBounds_toArray, List.set_cons_zero, List.set_cons_succ, i64_w, i32_w]
                                  rfl
                                refine pure_ (i := 15) (N := some 8) (v := ?_) (a' := ?_) #[true, true, true, true, true, true, true, true, true, true, true, true, true, true, true, true, false] rfl rfl (any_of HT_.out (by kernel_rfl)) (fun _ _ _ h => h) (Or.inl ⟨by rfl, ?_⟩) ?_ ?_
                                rotate_left
                                · intro w'
                                  go_simp
                                  with_reducible rfl
                                rotate_left
                                · simp only [Act.put, List.setIfInBounds_toArray, List.set_cons_zero, List.set_cons_succ, i64_w, i32_w]
                                  rfl
                                refine pure_ (i := 16) (N := some 9) (v := ?_) (a' := ?_) #[true, true, true, true, true, true, true, true, true, true, true, true, true, true, true, true, true] rfl rfl (any_of HT_.out (by kernel_rfl)) (fun _ _ _ h => h) (Or.inl ⟨by rfl, ?_⟩) ?_ ?_
                                rotate_left
                                · intro w'
                                  go_simp
                                  with_reducible rfl
                                rotate_left
                                · simp only [Act.put, List.setIfInBounds_toArray, List.set_cons_zero, List.set_cons_succ, i64_w, i32_w]
                                  rfl
                                refine done_ (done_of HT_.out (by kernel_rfl)) ?_
                                try go_wp2
                                go_ret2
                                exact ⟨_, by first | rfl | (simp [errW_none, errW_some] <;> rfl) | (simp only [← hji12, ← hji13, ← hji17]; first | rfl | (simp [errW_none, errW_some] <;> rfl)) | (simp [*, errW_none, errW_some] <;> rfl), by first | exact Kd.R_nil _ _ _ _ _ | exact Kd.N_nil _ _ _ _ _ | exact Kd.V_nil _ _ _ _ _ | exact Kd.Q_nil _ _ _ _ _ | exact Kd.S_nil _ _ _ _ _, by repeat (first | (with_reducible first | exact HB.out | apply below_alloc | apply pw_below_drewN | apply below_drew1) | exact HB.out)⟩
                            · rw [if_neg c19] at H
                              exact absurd H (by simp)
                          · rw [if_neg c18] at H
                            exact absurd H (by simp)
                        · rw [if_neg c16] at H
                          exact absurd H (by simp)
                      · rw [if_neg c15] at H
                        exact absurd H (by simp)
                    · rw [if_neg c14] at H
                      have c14b0 : decide (x10_3 ≤ (ji13)) = false := decide_eq_false c14
                      clear c14
                      by_cases c26 : x6_2.length < 17592186044416
                      · rw [if_pos c26] at H
                        have LMc26 := Aside0.mk c26
                        clear c26
                        obtain ⟨y1004, hy1004⟩ : ∃ y_ : List Int, y_ = (x6_2 ++ [x8_3]) := ⟨_, rfl⟩
                        replace H : (impl_multiply.l0 k3 l0 l1 y1004 (wrap64 ((wrap64 ((l0.length : Int) + (l1.length : Int))) - 1)) (wrap64 (x34_2 + 1))) = some (r1, r2) := by first | (rw [hy1004]; with_reducible exact H) | (have H2_ := (Option.bind_some _ _).symm.trans H; rw [hy1004]; with_reducible exact H2_) | (have H2_ := (Option.bind_some _ _).symm.trans H; with_reducible exact H2_) | with_reducible exact H | (rw [hy1004]; exact H) | exact H
                        have Ny1004 := Aside0.mk hy1004
                        clear hy1004
                        have H' := Aside0.mk H
                        clear H
                        go_wp2_with (first | ((with_reducible refine gate_builtin (b := .append) (xs := #[.tmp 69, .tmp 71]) rfl ?_); (try (refine gate_guard (by rfl) ?_; dsimp only)); at_builtin; refine Kd.R_append (Kd.int .i64) (w0 := w) w.heap.size rfl (.tmp 69) (.tmp 71) 23 2 (.int .i64 0) 8 rfl Try.underlying23 info2 rfl (by decide) (by omega) u6 x6_2 x8_3 [.int .i64 x8_3] (fun _ => True) (fun _ => False) rfl rfl ?aP (fun _ hk => hk.elim) ?aF ?aO ?aB ?aS ?aL ?_; (case aP => exact rfl); (case aB => exact (by repeat (first | (with_reducible first | exact HB.out | apply below_alloc | apply pw_below_drewN | apply below_drew1) | exact HB.out))); (case aF => exact (fun _ _ => trivial)); (case aO => exact (by (with_reducible repeat (first | apply Kd.R_alloc | apply Kd.R_drewN | apply Kd.R_drew)); exact HO_6.out)); (case aS => exact (below_size (by repeat (first | (with_reducible first | exact HB.out | apply below_alloc | apply pw_below_drewN | apply below_drew1) | exact HB.out)))); (case aL => have := LMc26.out; omega); intro v1005 w27 ho hb hg hat; rw [← Ny1004.out] at ho; have n0_ := Aside0.mk (hb); have n1_ := Aside0.mk (ho); clear HB; clear HO_6; have HB := n0_; have HO1006 := n1_; clear n0_ n1_; clear ho hb hg hat))
                        first | go_roundg k3 | (refine Handed.intro k3 ?measure ?_; rotate_left; go_step; (try simp only [add_plain]); (repeat apply Exists.intro); refine ⟨?rel, rfl⟩)
                        case measure => have := HJ2.out; have := HK2.out; have := HK3.out; omega
                        case rel => exact ⟨(y1004), (wrap64 (x34_2 + 1)), (by first | rfl | (simp; done) | (simp [*]; done)), H', ⟨by have := HJ2.out; have := HK2.out; have := HK3.out; omega⟩, ⟨by (with_reducible repeat (first | apply Kd.R_alloc | apply Kd.R_drewN | apply Kd.R_drew)); exact HO1006.out⟩, ⟨by repeat (first | (with_reducible first | exact HB.out | apply below_alloc | apply pw_below_drewN | apply below_drew1) | exact HB.out)⟩⟩
                      · rw [if_neg c26] at H
                        exact absurd H (by simp)
              · rw [if_neg c11] at H
                have c11b0 : decide (x34_2 < (wrap64 ((wrap64 ((l0.length : Int) + (l1.length : Int))) - 1))) = false := decide_eq_false c11
                clear c11
                simp only [Option.some.injEq, Prod.mk.injEq] at H
                obtain ⟨rfl, rfl⟩ := H
                go_wp2
                go_ret2
                exact ⟨_, by first | rfl | (simp [errW_none, errW_some] <;> rfl) | (simp [*, errW_none, errW_some] <;> rfl), by (with_reducible repeat (first | apply Kd.R_alloc | apply Kd.R_drewN | apply Kd.R_drew)); exact HO_6.out, by repeat (first | (with_reducible first | exact HB.out | apply below_alloc | apply pw_below_drewN | apply below_drew1) | exact HB.out)⟩

/-! ### impl_MultiplyWhole: function 48 -/
def impl_MultiplyWhole.f (k : Nat) (l0 : List Int) (l1 : List Int) : Option (List Int × Int) := (impl_areWhole.f k (([l0, l1] : List (List Int)))).bind fun t1010 => (if t1010 = true then ((impl_multiply.f k l0 l1).bind fun bt1011 => (if bt1011.2 = true then (some (bt1011.1, 0)) else (some (([] : List Int), 3)))) else (some (([] : List Int), 1)))
theorem impl_MultiplyWhole.mono : ∀ a0 a1 k, LeO (impl_MultiplyWhole.f k a0 a1) (impl_MultiplyWhole.f (k + 1) a0 a1) := by
  intro a0 a1 k
  unfold impl_MultiplyWhole.f
  repeat' first
      | (with_reducible exact impl_areWhole.mono _ _)
      | (with_reducible exact impl_multiply.mono _ _ _)
      | (with_reducible exact LeO.refl _)
      | (with_reducible exact LeO.none _)
      | (with_reducible refine LeO.ite ?_ ?_)
      | (with_reducible refine LeO.bind ?_ (fun _ => ?_))
      | exact impl_areWhole.mono _ _
      | exact impl_multiply.mono _ _ _
      | exact LeO.none _
      | refine LeO.ite ?_ ?_
      | refine LeO.bind ?_ (fun _ => ?_)
set_option maxHeartbeats 8000000 in
set_option maxRecDepth 100000 in
theorem impl_MultiplyWhole.calls (k : Nat) (P0_ : Nat → Prop) (A0 : Option Addr) (c0 : Nat) (l0 : List Int) (P1_ : Nat → Prop) (A1 : Option Addr) (c1 : Nat) (l1 : List Int) (r1 : List Int) (r2 : Int) (w : World) (hs0 : Kd.V (Kd.int .i64) 2 w w.heap.size (fun k_ => P0_ k_) (.slice A0 l0.length c0) l0) (hs1 : Kd.V (Kd.int .i64) 2 w w.heap.size (fun k_ => P1_ k_) (.slice A1 l1.length c1) l1) (h : impl_MultiplyWhole.f k l0 l1 = some (r1, r2)) :
    Calls Try.prog 48 #[.slice A0 l0.length c0, .slice A1 l1.length c1] w fun e w' => ∃ v0_ : Value, e = .returned (.tuple #[v0_, .int .i64 r2]) ∧ Kd.R (Kd.int .i64) 2 w' w.heap.size (fun k_ => (w.heap.size ≤ k_)) v0_ r1 ∧ Below w.heap.size w w' := by
  have HO0 := Aside0.mk (show Kd.V (Kd.int .i64) 2 w w.heap.size (fun k_ => ((P0_ k_ ∨ P1_ k_) ∨ w.heap.size ≤ k_)) (.slice A0 l0.length c0) l0 from Kd.V_mono hs0 (fun k_ hk => .inl (.inl hk)))
  have HO1 := Aside0.mk (show Kd.V (Kd.int .i64) 2 w w.heap.size (fun k_ => ((P0_ k_ ∨ P1_ k_) ∨ w.heap.size ≤ k_)) (.slice A1 l1.length c1) l1 from Kd.V_mono hs1 (fun k_ hk => .inl (.inr hk)))
  have HB := Aside0.mk (Below.refl w.heap.size w)
  have H : ((impl_areWhole.f k (([l0, l1] : List (List Int)))).bind fun t1010 => (if t1010 = true then ((impl_multiply.f k l0 l1).bind fun bt1011 => (if bt1011.2 = true then (some (bt1011.1, 0)) else (some (([] : List Int), 3)))) else (some (([] : List Int), 1)))) = some (r1, r2) := h
  clear h
  obtain ⟨y1007, hy1007⟩ : ∃ y_ : List (List Int), y_ = (([l0, l1] : List (List Int))) := ⟨_, rfl⟩
  replace H : ((impl_areWhole.f k y1007).bind fun t1010 => (if t1010 = true then ((impl_multiply.f k l0 l1).bind fun bt1011 => (if bt1011.2 = true then (some (bt1011.1, 0)) else (some (([] : List Int), 3)))) else (some (([] : List Int), 1)))) = some (r1, r2) := by first | (rw [hy1007]; with_reducible exact H) | (have H2_ := (Option.bind_some _ _).symm.trans H; rw [hy1007]; with_reducible exact H2_) | (have H2_ := (Option.bind_some _ _).symm.trans H; with_reducible exact H2_) | with_reducible exact H | (rw [hy1007]; exact H) | exact H
  have Ny1007 := Aside0.mk hy1007
  clear hy1007
  replace H := Option.bind_eq_some_iff.mp H
  obtain ⟨t1010, A30, H⟩ := H
  replace H : (if t1010 = true then ((impl_multiply.f k l0 l1).bind fun bt1011 => (if bt1011.2 = true then (some (bt1011.1, 0)) else (some (([] : List Int), 3)))) else (some (([] : List Int), 1))) = some (r1, r2) := H
  have A3 := Aside0.mk A30
  clear A30
  by_cases c4 : t1010 = true
  · subst c4
    have H1 : ((impl_multiply.f k l0 l1).bind fun bt1011 => (if bt1011.2 = true then (some (bt1011.1, 0)) else (some (([] : List Int), 3)))) = some (r1, r2) := by rw [if_pos rfl] at H; exact H
    clear H
    have H := H1
    clear H1
    replace H := Option.bind_eq_some_iff.mp H
    obtain ⟨⟨t1011, t1012⟩, A50, H⟩ := H
    replace H : (if t1012 = true then (some (t1011, 0)) else (some (([] : List Int), 3))) = some (r1, r2) := H
    have A5 := Aside0.mk A50
    clear A50
    by_cases c6 : t1012 = true
    · subst c6
      have H1 : (some (t1011, 0)) = some (r1, r2) := by rw [if_pos rfl] at H; exact H
      clear H
      have H := H1
      clear H1
      simp only [Option.some.injEq, Prod.mk.injEq] at H
      obtain ⟨rfl, rfl⟩ := H
      go_enter Try.func48, Try.ntmps48
      go_wp2_with (first | ((with_reducible refine gate_dst (N := 10) rfl ?_); refine Kd.N_lit (Kd.slice 2 (Kd.int .i64)) _ 23 ?hg (N' := 10) ?hd (xs := ([l0, l1] : List (List Int))) (inner := [.slice A0 l0.length c0, .slice A1 l1.length c1]) (ok := (fun k_ => ((P0_ k_ ∨ P1_ k_) ∨ w.heap.size ≤ k_))) (okp := (fun k_ => ((P0_ k_ ∨ P1_ k_) ∨ w.heap.size ≤ k_))) ?hr ?hp (fun _ hk => hk) ((show ∀ k_, w.heap.size ≤ k_ → (fun k_ => ((P0_ k_ ∨ P1_ k_) ∨ w.heap.size ≤ k_)) k_ from fun k_ hk => (.inr (Nat.le_trans (below_size (by repeat (first | (with_reducible first | exact HB.out | apply below_alloc | apply pw_below_drewN | apply below_drew1) | exact HB.out))) hk))) _ (Nat.le_refl _)) (Below.refl _ _) (Nat.le_refl _) (by simp) ?_; (case hd => rfl); (case hg => rfl); (case hr => first | (go_simp; done) | (go_simp; rfl)); (case hp => exact (Reps.one (show Kd.FK (Kd.slice 2 (Kd.int .i64)) _ _ l0 [.slice A0 l0.length c0] from (Kd.FK_slice_mk (Kd.V_reads' (Kd.V_mono (ok' := (fun k_ => ((P0_ k_ ∨ P1_ k_) ∨ w.heap.size ≤ k_))) (HO0.out) (fun k_ hk => hk))).2.1 (Kd.V_F (Kd.V_mono (ok' := (fun k_ => ((P0_ k_ ∨ P1_ k_) ∨ w.heap.size ≤ k_))) (HO0.out) (fun k_ hk => hk))))) (Reps.one (show Kd.FK (Kd.slice 2 (Kd.int .i64)) _ _ l1 [.slice A1 l1.length c1] from (Kd.FK_slice_mk (Kd.V_reads' (Kd.V_mono (ok' := (fun k_ => ((P0_ k_ ∨ P1_ k_) ∨ w.heap.size ≤ k_))) (HO1.out) (fun k_ hk => hk))).2.1 (Kd.V_F (Kd.V_mono (ok' := (fun k_ => ((P0_ k_ ∨ P1_ k_) ∨ w.heap.size ≤ k_))) (HO1.out) (fun k_ hk => hk))))) (Reps.none _ _)))); intro v1008 w7 ho8 hb hg_ hnew_; clear hg_ hnew_; (first | rw [← Ny1007.out] at ho8 | (simp only [Int.reduceToNat] at ho8; rw [← Ny1007.out] at ho8)); have n0_ := Aside0.mk (Kd.V_elder' (by (with_reducible repeat (first | apply Kd.V_alloc | apply Kd.V_drewN | apply Kd.V_drew)); exact HO0.out) (Kd.N_base ho8) hb); have n1_ := Aside0.mk (Kd.V_elder' (by (with_reducible repeat (first | apply Kd.V_alloc | apply Kd.V_drewN | apply Kd.V_drew)); exact HO1.out) (Kd.N_base ho8) hb); have n2_ := Aside0.mk (Kd.N_lower ho8 (below_size (by repeat (first | (with_reducible first | exact HB.out | apply below_alloc | apply pw_below_drewN | apply below_drew1) | exact HB.out)))); have n3_ := Aside0.mk (below_step (by repeat (first | (with_reducible first | exact HB.out | apply below_alloc | apply pw_below_drewN | apply below_drew1) | exact HB.out)) hb); clear HO0; clear HO1; clear HB; have HO0 := n0_; have HO1 := n1_; have HO1009 := n2_; have HB := n3_; clear n0_ n1_ n2_ n3_; clear hb ho8; obtain ⟨Ao9, co9, eo9⟩ := Kd.N_slice HO1009.out; subst eo9) | ((with_reducible refine gate_callee (f := 66) rfl ?_); refine goesL_ (some 11) rfl rfl Try.func66 (by kernel_rfl) rfl #[.slice Ao9 y1007.length co9] rfl (by (try simp only [List.map_toArray, List.map_cons, List.map_nil]); first | done | rfl | (simp only [List.length_drop, List.length_take]; rfl)) ?_; (with_reducible refine (impl_areWhole.calls k _ _ y1007 true _ ?side1 ?side2 A3.out).mono ?_); (case side1 => repeat (first | exact (Kd.N_reads' HO1009.out).2.2 | (with_reducible refine Kd.C_alloc ?_ _) | (with_reducible refine Kd.C_drewN ?_ _) | (with_reducible refine Kd.C_drew ?_))); (case side2 => exact (Kd.N_reads' HO1009.out).2.1); rintro e w10 ⟨rfl, hb⟩; refine ⟨_, rfl, ?_⟩; have n0_ := Aside0.mk (Kd.V_below (by (with_reducible repeat (first | apply Kd.V_alloc | apply Kd.V_drewN | apply Kd.V_drew)); exact HO0.out) hb); have n1_ := Aside0.mk (Kd.V_below (by (with_reducible repeat (first | apply Kd.V_alloc | apply Kd.V_drewN | apply Kd.V_drew)); exact HO1.out) hb); have n2_ := Aside0.mk (Kd.N_below (by (with_reducible repeat (first | apply Kd.N_alloc | apply Kd.N_drewN | apply Kd.N_drew)); exact HO1009.out) hb); have n3_ := Aside0.mk (below_step (by repeat (first | (with_reducible first | exact HB.out | apply below_alloc | apply pw_below_drewN | apply below_drew1) | exact HB.out)) hb); clear HO0; clear HO1; clear HO1009; clear HB; have HO0 := n0_; have HO1 := n1_; have HO1009 := n2_; have HB := n3_; clear n0_ n1_ n2_ n3_; (try clear hb); (try clear hb2); (try clear hk); (try clear hi)) | ((with_reducible refine gate_callee (f := 86) rfl ?_); refine goesL_ (some 16) rfl rfl Try.func86 (by kernel_rfl) rfl #[.slice A0 l0.length c0, .slice A1 l1.length c1] rfl (by (try simp only [List.map_toArray, List.map_cons, List.map_nil]); first | done | rfl | (simp only [List.length_drop, List.length_take]; rfl)) ?_; (with_reducible refine (impl_multiply.calls k _ _ l0 _ _ l1 t1011 true _ ?side1 ?side2 ?side3 ?side4 A5.out).mono ?_); (case side1 => repeat (first | exact (Kd.V_reads' HO0.out).2.2 | (with_reducible refine Kd.C_alloc ?_ _) | (with_reducible refine Kd.C_drewN ?_ _) | (with_reducible refine Kd.C_drew ?_))); (case side2 => exact (Kd.V_reads' HO0.out).2.1); (case side3 => repeat (first | exact (Kd.V_reads' HO1.out).2.2 | (with_reducible refine Kd.C_alloc ?_ _) | (with_reducible refine Kd.C_drewN ?_ _) | (with_reducible refine Kd.C_drew ?_))); (case side4 => exact (Kd.V_reads' HO1.out).2.1); rintro e w11 ⟨v1013, rfl, ho0, hb⟩; refine ⟨_, rfl, ?_⟩; have n0_ := Aside0.mk (Kd.V_elder' (by (with_reducible repeat (first | apply Kd.V_alloc | apply Kd.V_drewN | apply Kd.V_drew)); exact HO0.out) (Kd.R_base ho0) hb); have n1_ := Aside0.mk (Kd.V_elder' (by (with_reducible repeat (first | apply Kd.V_alloc | apply Kd.V_drewN | apply Kd.V_drew)); exact HO1.out) (Kd.R_base ho0) hb); have n2_ := Aside0.mk (Kd.N_elder' (by (with_reducible repeat (first | apply Kd.N_alloc | apply Kd.N_drewN | apply Kd.N_drew)); exact HO1009.out) (Kd.R_base ho0) hb); have n3_ := Aside0.mk (Kd.R_lower (Kd.R_newM (M := fun k_ => (w.heap.size ≤ k_)) ho0 (below_size (by repeat (first | (with_reducible first | exact HB.out | apply below_alloc | apply pw_below_drewN | apply below_drew1) | exact HB.out))) (fun k_ h_ => h_)) (below_size (by repeat (first | (with_reducible first | exact HB.out | apply below_alloc | apply pw_below_drewN | apply below_drew1) | exact HB.out)))); have n4_ := Aside0.mk (below_step (by repeat (first | (with_reducible first | exact HB.out | apply below_alloc | apply pw_below_drewN | apply below_drew1) | exact HB.out)) hb); clear HO0; clear HO1; clear HO1009; clear HB; have HO0 := n0_; have HO1 := n1_; have HO1009 := n2_; have HO1014 := n3_; have HB := n4_; clear n0_ n1_ n2_ n3_ n4_; (try clear hb); (try clear hb2); (try clear hk); (try clear hi); (try clear ho0)))
      go_ret2
      exact ⟨_, by first | rfl | (simp [errW_none, errW_some] <;> rfl) | (simp [*, errW_none, errW_some] <;> rfl), by (with_reducible repeat (first | apply Kd.R_alloc | apply Kd.R_drewN | apply Kd.R_drew)); exact Kd.R_mono HO1014.out (fun _ hk => hk.1), by repeat (first | (with_reducible first | exact HB.out | apply below_alloc | apply pw_below_drewN | apply below_drew1) | exact HB.out)⟩
    · replace c6 := Bool.eq_false_iff.mpr c6
      subst c6
      have H1 : (some (([] : List Int), 3)) = some (r1, r2) := by rw [if_neg (show ¬ (false = true) by decide)] at H; exact H
      clear H
      have H := H1
      clear H1
      simp only [Option.some.injEq, Prod.mk.injEq] at H
      obtain ⟨rfl, rfl⟩ := H
      go_enter Try.func48, Try.ntmps48
      go_wp2_with (first | ((with_reducible refine gate_dst (N := 10) rfl ?_); refine Kd.N_lit (Kd.slice 2 (Kd.int .i64)) _ 23 ?hg (N' := 10) ?hd (xs := ([l0, l1] : List (List Int))) (inner := [.slice A0 l0.length c0, .slice A1 l1.length c1]) (ok := (fun k_ => ((P0_ k_ ∨ P1_ k_) ∨ w.heap.size ≤ k_))) (okp := (fun k_ => ((P0_ k_ ∨ P1_ k_) ∨ w.heap.size ≤ k_))) ?hr ?hp (fun _ hk => hk) ((show ∀ k_, w.heap.size ≤ k_ → (fun k_ => ((P0_ k_ ∨ P1_ k_) ∨ w.heap.size ≤ k_)) k_ from fun k_ hk => (.inr (Nat.le_trans (below_size (by repeat (first | (with_reducible first | exact HB.out | apply below_alloc | apply pw_below_drewN | apply below_drew1) | exact HB.out))) hk))) _ (Nat.le_refl _)) (Below.refl _ _) (Nat.le_refl _) (by simp) ?_; (case hd => rfl); (case hg => rfl); (case hr => first | (go_simp; done) | (go_simp; rfl)); (case hp => exact (Reps.one (show Kd.FK (Kd.slice 2 (Kd.int .i64)) _ _ l0 [.slice A0 l0.length c0] from (Kd.FK_slice_mk (Kd.V_reads' (Kd.V_mono (ok' := (fun k_ => ((P0_ k_ ∨ P1_ k_) ∨ w.heap.size ≤ k_))) (HO0.out) (fun k_ hk => hk))).2.1 (Kd.V_F (Kd.V_mono (ok' := (fun k_ => ((P0_ k_ ∨ P1_ k_) ∨ w.heap.size ≤ k_))) (HO0.out) (fun k_ hk => hk))))) (Reps.one (show Kd.FK (Kd.slice 2 (Kd.int .i64)) _ _ l1 [.slice A1 l1.length c1] from (Kd.FK_slice_mk (Kd.V_reads' (Kd.V_mono (ok' := (fun k_ => ((P0_ k_ ∨ P1_ k_) ∨ w.heap.size ≤ k_))) (HO1.out) (fun k_ hk => hk))).2.1 (Kd.V_F (Kd.V_mono (ok' := (fun k_ => ((P0_ k_ ∨ P1_ k_) ∨ w.heap.size ≤ k_))) (HO1.out) (fun k_ hk => hk))))) (Reps.none _ _)))); intro v1008 w12 ho13 hb hg_ hnew_; clear hg_ hnew_; (first | rw [← Ny1007.out] at ho13 | (simp only [Int.reduceToNat] at ho13; rw [← Ny1007.out] at ho13)); have n0_ := Aside0.mk (Kd.V_elder' (by (with_reducible repeat (first | apply Kd.V_alloc | apply Kd.V_drewN | apply Kd.V_drew)); exact HO0.out) (Kd.N_base ho13) hb); have n1_ := Aside0.mk (Kd.V_elder' (by (with_reducible repeat (first | apply Kd.V_alloc | apply Kd.V_drewN | apply Kd.V_drew)); exact HO1.out) (Kd.N_base ho13) hb); have n2_ := Aside0.mk (Kd.N_lower ho13 (below_size (by repeat (first | (with_reducible first | exact HB.out | apply below_alloc | apply pw_below_drewN | apply below_drew1) | exact HB.out)))); have n3_ := Aside0.mk (below_step (by repeat (first | (with_reducible first | exact HB.out | apply below_alloc | apply pw_below_drewN | apply below_drew1) | exact HB.out)) hb); clear HO0; clear HO1; clear HB; have HO0 := n0_; have HO1 := n1_; have HO1009 := n2_; have HB := n3_; clear n0_ n1_ n2_ n3_; clear hb ho13; obtain ⟨Ao14, co14, eo14⟩ := Kd.N_slice HO1009.out; subst eo14) | ((with_reducible refine gate_callee (f := 66) rfl ?_); refine goesL_ (some 11) rfl rfl Try.func66 (by kernel_rfl) rfl #[.slice Ao14 y1007.length co14] rfl (by (try simp only [List.map_toArray, List.map_cons, List.map_nil]); first | done | rfl | (simp only [List.length_drop, List.length_take]; rfl)) ?_; (with_reducible refine (impl_areWhole.calls k _ _ y1007 true _ ?side1 ?side2 A3.out).mono ?_); (case side1 => repeat (first | exact (Kd.N_reads' HO1009.out).2.2 | (with_reducible refine Kd.C_alloc ?_ _) | (with_reducible refine Kd.C_drewN ?_ _) | (with_reducible refine Kd.C_drew ?_))); (case side2 => exact (Kd.N_reads' HO1009.out).2.1); rintro e w15 ⟨rfl, hb⟩; refine ⟨_, rfl, ?_⟩; have n0_ := Aside0.mk (Kd.V_below (by (with_reducible repeat (first | apply Kd.V_alloc | apply Kd.V_drewN | apply Kd.V_drew)); exact HO0.out) hb); have n1_ := Aside0.mk (Kd.V_below (by (with_reducible repeat (first | apply Kd.V_alloc | apply Kd.V_drewN | apply Kd.V_drew)); exact HO1.out) hb); have n2_ := Aside0.mk (Kd.N_below (by (with_reducible repeat (first | apply Kd.N_alloc | apply Kd.N_drewN | apply Kd.N_drew)); exact HO1009.out) hb); have n3_ := Aside0.mk (below_step (by repeat (first | (with_reducible first | exact HB.out | apply below_alloc | apply pw_below_drewN | apply below_drew1) | exact HB.out)) hb); clear HO0; clear HO1; clear HO1009; clear HB; have HO0 := n0_; have HO1 := n1_; have HO1009 := n2_; have HB := n3_; clear n0_ n1_ n2_ n3_; (try clear hb); (try clear hb2); (try clear hk); (try clear hi)) | ((with_reducible refine gate_callee (f := 86) rfl ?_); refine goesL_ (some 16) rfl rfl Try.func86 (by kernel_rfl) rfl #[.slice A0 l0.length c0, .slice A1 l1.length c1] rfl (by (try simp only [List.map_toArray, List.map_cons, List.map_nil]); first | done | rfl | (simp only [List.length_drop, List.length_take]; rfl)) ?_; (with_reducible refine (impl_multiply.calls k _ _ l0 _ _ l1 t1011 false _ ?side1 ?side2 ?side3 ?side4 A5.out).mono ?_); (case side1 => repeat (first | exact (Kd.V_reads' HO0.out).2.2 | (with_reducible refine Kd.C_alloc ?_ _) | (with_reducible refine Kd.C_drewN ?_ _) | (with_reducible refine Kd.C_drew ?_))); (case side2 => exact (Kd.V_reads' HO0.out).2.1); (case side3 => repeat (first | exact (Kd.V_reads' HO1.out).2.2 | (with_reducible refine Kd.C_alloc ?_ _) | (with_reducible refine Kd.C_drewN ?_ _) | (with_reducible refine Kd.C_drew ?_))); (case side4 => exact (Kd.V_reads' HO1.out).2.1); rintro e w16 ⟨v1013, rfl, ho0, hb⟩; refine ⟨_, rfl, ?_⟩; have n0_ := Aside0.mk (Kd.V_elder' (by (with_reducible repeat (first | apply Kd.V_alloc | apply Kd.V_drewN | apply Kd.V_drew)); exact HO0.out) (Kd.R_base ho0) hb); have n1_ := Aside0.mk (Kd.V_elder' (by (with_reducible repeat (first | apply Kd.V_alloc | apply Kd.V_drewN | apply Kd.V_drew)); exact HO1.out) (Kd.R_base ho0) hb); have n2_ := Aside0.mk (Kd.N_elder' (by (with_reducible repeat (first | apply Kd.N_alloc | apply Kd.N_drewN | apply Kd.N_drew)); exact HO1009.out) (Kd.R_base ho0) hb); have n3_ := Aside0.mk (Kd.R_lower (Kd.R_newM (M := fun k_ => (w.heap.size ≤ k_)) ho0 (below_size (by repeat (first | (with_reducible first | exact HB.out | apply below_alloc | apply pw_below_drewN | apply below_drew1) | exact HB.out))) (fun k_ h_ => h_)) (below_size (by repeat (first | (with_reducible first | exact HB.out | apply below_alloc | apply pw_below_drewN | apply below_drew1) | exact HB.out)))); have n4_ := Aside0.mk (below_step (by repeat (first | (with_reducible first | exact HB.out | apply below_alloc | apply pw_below_drewN | apply below_drew1) | exact HB.out)) hb); clear HO0; clear HO1; clear HO1009; clear HB; have HO0 := n0_; have HO1 := n1_; have HO1009 := n2_; have HO1014 := n3_; have HB := n4_; clear n0_ n1_ n2_ n3_ n4_; (try clear hb); (try clear hb2); (try clear hk); (try clear hi); (try clear ho0)))
      go_ret2
      exact ⟨_, by first | rfl | (simp [errW_none, errW_some] <;> rfl) | (simp [*, errW_none, errW_some] <;> rfl), by first | exact Kd.R_nil _ _ _ _ _ | exact Kd.N_nil _ _ _ _ _ | exact Kd.V_nil _ _ _ _ _ | exact Kd.Q_nil _ _ _ _ _ | exact Kd.S_nil _ _ _ _ _, by repeat (first | (with_reducible first | exact HB.out | apply below_alloc | apply pw_below_drewN | apply below_drew1) | exact HB.out)⟩
  · replace c4 := Bool.eq_false_iff.mpr c4
    subst c4
    have H1 : (some (([] : List Int), 1)) = some (r1, r2) := by rw [if_neg (show ¬ (false = true) by decide)] at H; exact H
    clear H
    have H := H1
    clear H1
    simp only [Option.some.injEq, Prod.mk.injEq] at H
    obtain ⟨rfl, rfl⟩ := H
    go_enter Try.func48, Try.ntmps48
    go_wp2_with (first | ((with_reducible refine gate_dst (N := 10) rfl ?_); refine Kd.N_lit (Kd.slice 2 (Kd.int .i64)) _ 23 ?hg (N' := 10) ?hd (xs := ([l0, l1] : List (List Int))) (inner := [.slice A0 l0.length c0, .slice A1 l1.length c1]) (ok := (fun k_ => ((P0_ k_ ∨ P1_ k_) ∨ w.heap.size ≤ k_))) (okp := (fun k_ => ((P0_ k_ ∨ P1_ k_) ∨ w.heap.size ≤ k_))) ?hr ?hp (fun _ hk => hk) ((show ∀ k_, w.heap.size ≤ k_ → (fun k_ => ((P0_ k_ ∨ P1_ k_) ∨ w.heap.size ≤ k_)) k_ from fun k_ hk => (.inr (Nat.le_trans (below_size (by repeat (first | (with_reducible first | exact HB.out | apply below_alloc | apply pw_below_drewN | apply below_drew1) | exact HB.out))) hk))) _ (Nat.le_refl _)) (Below.refl _ _) (Nat.le_refl _) (by simp) ?_; (case hd => rfl); (case hg => rfl); (case hr => first | (go_simp; done) | (go_simp; rfl)); (case hp => exact (Reps.one (show Kd.FK (Kd.slice 2 (Kd.int .i64)) _ _ l0 [.slice A0 l0.length c0] from (Kd.FK_slice_mk (Kd.V_reads' (Kd.V_mono (ok' := (fun k_ => ((P0_ k_ ∨ P1_ k_) ∨ w.heap.size ≤ k_))) (HO0.out) (fun k_ hk => hk))).2.1 (Kd.V_F (Kd.V_mono (ok' := (fun k_ => ((P0_ k_ ∨ P1_ k_) ∨ w.heap.size ≤ k_))) (HO0.out) (fun k_ hk => hk))))) (Reps.one (show Kd.FK (Kd.slice 2 (Kd.int .i64)) _ _ l1 [.slice A1 l1.length c1] from (Kd.FK_slice_mk (Kd.V_reads' (Kd.V_mono (ok' := (fun k_ => ((P0_ k_ ∨ P1_ k_) ∨ w.heap.size ≤ k_))) (HO1.out) (fun k_ hk => hk))).2.1 (Kd.V_F (Kd.V_mono (ok' := (fun k_ => ((P0_ k_ ∨ P1_ k_) ∨ w.heap.size ≤ k_))) (HO1.out) (fun k_ hk => hk))))) (Reps.none _ _)))); intro v1008 w17 ho18 hb hg_ hnew_; clear hg_ hnew_; (first | rw [← Ny1007.out] at ho18 | (simp only [Int.reduceToNat] at ho18; rw [← Ny1007.out] at ho18)); have n0_ := Aside0.mk (Kd.V_elder' (by (with_reducible repeat (first | apply Kd.V_alloc | apply Kd.V_drewN | apply Kd.V_drew)); exact HO0.out) (Kd.N_base ho18) hb); have n1_ := Aside0.mk (Kd.V_elder' (by (with_reducible repeat (first | apply Kd.V_alloc | apply Kd.V_drewN | apply Kd.V_drew)); exact HO1.out) (Kd.N_base ho18) hb); have n2_ := Aside0.mk (Kd.N_lower ho18 (below_size (by repeat (first | (with_reducible first | exact HB.out | apply below_alloc | apply pw_below_drewN | apply below_drew1) | exact HB.out)))); have n3_ := Aside0.mk (below_step (by repeat (first | (with_reducible first | exact HB.out | apply below_alloc | apply pw_below_drewN | apply below_drew1) | exact HB.out)) hb); clear HO0; clear HO1; clear HB; have HO0 := n0_; have HO1 := n1_; have HO1009 := n2_; have HB := n3_; clear n0_ n1_ n2_ n3_; clear hb ho18; obtain ⟨Ao19, co19, eo19⟩ := Kd.N_slice HO1009.out; subst eo19) | ((with_reducible refine gate_callee (f := 66) rfl ?_); refine goesL_ (some 11) rfl rfl Try.func66 (by kernel_rfl) rfl #[.slice Ao19 y1007.length co19] rfl (by (try simp only [List.map_toArray, List.map_cons, List.map_nil]); first | done | rfl | (simp only [List.length_drop, List.length_take]; rfl)) ?_; (with_reducible refine (impl_areWhole.calls k _ _ y1007 false _ ?side1 ?side2 A3.out).mono ?_); (case side1 => repeat (first | exact (Kd.N_reads' HO1009.out).2.2 | (with_reducible refine Kd.C_alloc ?_ _) | (with_reducible refine Kd.C_drewN ?_ _) | (with_reducible refine Kd.C_drew ?_))); (case side2 => exact (Kd.N_reads' HO1009.out).2.1); rintro e w20 ⟨rfl, hb⟩; refine ⟨_, rfl, ?_⟩; have n0_ := Aside0.mk (Kd.V_below (by (with_reducible repeat (first | apply Kd.V_alloc | apply Kd.V_drewN | apply Kd.V_drew)); exact HO0.out) hb); have n1_ := Aside0.mk (Kd.V_below (by (with_reducible repeat (first | apply Kd.V_alloc | apply Kd.V_drewN | apply Kd.V_drew)); exact HO1.out) hb); have n2_ := Aside0.mk (Kd.N_below (by (with_reducible repeat (first | apply Kd.N_alloc | apply Kd.N_drewN | apply Kd.N_drew)); exact HO1009.out) hb); have n3_ := Aside0.mk (below_step (by repeat (first | (with_reducible first | exact HB.out | apply below_alloc | apply pw_below_drewN | apply below_drew1) | exact HB.out)) hb); clear HO0; clear HO1; clear HO1009; clear HB; have HO0 := n0_; have HO1 := n1_; have HO1009 := n2_; have HB := n3_; clear n0_ n1_ n2_ n3_; (try clear hb); (try clear hb2); (try clear hk); (try clear hi)))
    go_ret2
    exact ⟨_, by first | rfl | (simp [errW_none, errW_some] <;> rfl) | (simp [*, errW_none, errW_some] <;> rfl), by first | exact Kd.R_nil _ _ _ _ _ | exact Kd.N_nil _ _ _ _ _ | exact Kd.V_nil _ _ _ _ _ | exact Kd.Q_nil _ _ _ _ _ | exact Kd.S_nil _ _ _ _ _, by repeat (first | (with_reducible first | exact HB.out | apply below_alloc | apply pw_below_drewN | apply below_drew1) | exact HB.out)⟩

/-! ### laws_FnExactMultiplyWhole: function 12 -/
def laws_FnExactMultiplyWhole.f (k : Nat) (l0 : List Int) (l1 : List Int) : Option (Bool) := if (l0.length : Int) > 1048576 then (some true) else (if (l1.length : Int) > 1048576 then (some true) else ((laws_toInt64S.f k l0).bind fun t1015 => ((laws_toInt64S.f k l1).bind fun t1018 => ((spec_MultiplyWhole.f k t1015 t1018).bind fun bt1021 => ((laws_toInt64S.f k l0).bind fun t1025 => ((laws_toInt64S.f k l1).bind fun t1028 => ((impl_MultiplyWhole.f k t1025 t1028).bind fun bt1031 => ((laws_eqInt64S.f k bt1031.1 bt1021.1).bind fun t1035 => (if t1035 = true then (if bt1031.2 = bt1021.2 then ((laws_toInt64S.f k l0).bind fun t1036 => ((laws_eqInt64S.f k t1025 t1036).bind fun t1039 => (if t1039 = true then ((laws_toInt64S.f k l1).bind fun t1040 => ((laws_eqInt64S.f k t1028 t1040).bind fun t1043 => (if t1043 = true then ((laws_markInt64S.f k t1025 1).bind fun bt1044 => ((laws_markInt64S.f k t1028 bt1044.1).bind fun bt1046 => (if bt1046.1 < 0 then (some false) else ((laws_eqInt64S.f k bt1031.1 bt1021.1).bind fun t1048 => (if t1048 = true then ((laws_markInt64S.f k bt1031.1 1).bind fun bt1049 => ((laws_heldInt64S.f k bt1049.2 1).bind fun t1051 => (if t1051 < 0 then (some false) else (if t1051 = bt1049.1 then ((laws_toInt64S.f k l0).bind fun t1052 => ((laws_toInt64S.f k l1).bind fun t1055 => ((impl_MultiplyWhole.f k t1052 t1055).bind fun bt1058 => ((laws_eqInt64S.f k bt1058.1 bt1021.1).bind fun t1062 => (if t1062 = true then (if bt1058.2 = bt1021.2 then ((laws_heldInt64S.f k bt1049.2 1).bind fun t1063 => (if t1063 < 0 then (some false) else (if t1063 = bt1049.1 then (some true) else (some false)))) else (some false)) else (some false)))))) else (some false))))) else (some false)))))) else (some false)))) else (some false)))) else (some false)) else (some false))))))))))
theorem laws_FnExactMultiplyWhole.mono : ∀ a0 a1 k, LeO (laws_FnExactMultiplyWhole.f k a0 a1) (laws_FnExactMultiplyWhole.f (k + 1) a0 a1) := by
  intro a0 a1 k
  unfold laws_FnExactMultiplyWhole.f
  repeat' first
      | (with_reducible exact impl_MultiplyWhole.mono _ _ _)
      | (with_reducible exact laws_eqInt64S.mono _ _ _)
      | (with_reducible exact laws_heldInt64S.mono _ _ _)
      | (with_reducible exact laws_markInt64S.mono _ _ _)
      | (with_reducible exact laws_toInt64S.mono _ _)
      | (with_reducible exact spec_MultiplyWhole.mono _ _ _)
      | (with_reducible exact LeO.refl _)
      | (with_reducible exact LeO.none _)
      | (with_reducible refine LeO.ite ?_ ?_)
      | (with_reducible refine LeO.bind ?_ (fun _ => ?_))
      | exact impl_MultiplyWhole.mono _ _ _
      | exact laws_eqInt64S.mono _ _ _
      | exact laws_heldInt64S.mono _ _ _
      | exact laws_markInt64S.mono _ _ _
      | exact laws_toInt64S.mono _ _
      | exact spec_MultiplyWhole.mono _ _ _
      | exact LeO.none _
      | refine LeO.ite ?_ ?_
      | refine LeO.bind ?_ (fun _ => ?_)
set_option maxHeartbeats 8000000 in
set_option maxRecDepth 100000 in
theorem laws_FnExactMultiplyWhole.calls (k : Nat) (A0 : Option Addr) (c0 : Nat) (l0 : List Int) (A1 : Option Addr) (c1 : Nat) (l1 : List Int) (w : World) (hr0 : Kd.C (Kd.int .i64) w A0 l0.length l0) (hc0 : l0.length ≤ c0) (hr1 : Kd.C (Kd.int .i64) w A1 l1.length l1) (hc1 : l1.length ≤ c1) (h : laws_FnExactMultiplyWhole.f k l0 l1 = some true) :
    Calls Try.prog 12 #[.slice A0 l0.length c0, .slice A1 l1.length c1] w fun e w' => e = .returned (.bool true) ∧ Below w.heap.size w w' := by
  have HR0 := Aside0.mk hr0
  have HC0 := Aside0.mk hc0
  clear hr0 hc0
  have HR1 := Aside0.mk hr1
  have HC1 := Aside0.mk hc1
  clear hr1 hc1
  have HB := Aside0.mk (Below.refl w.heap.size w)
  have H : (if (l0.length : Int) > 1048576 then (some true) else (if (l1.length : Int) > 1048576 then (some true) else ((laws_toInt64S.f k l0).bind fun t1015 => ((laws_toInt64S.f k l1).bind fun t1018 => ((spec_MultiplyWhole.f k t1015 t1018).bind fun bt1021 => ((laws_toInt64S.f k l0).bind fun t1025 => ((laws_toInt64S.f k l1).bind fun t1028 => ((impl_MultiplyWhole.f k t1025 t1028).bind fun bt1031 => ((laws_eqInt64S.f k bt1031.1 bt1021.1).bind fun t1035 => (if t1035 = true then (if bt1031.2 = bt1021.2 then ((laws_toInt64S.f k l0).bind fun t1036 => ((laws_eqInt64S.f k t1025 t1036).bind fun t1039 => (if t1039 = true then ((laws_toInt64S.f k l1).bind fun t1040 => ((laws_eqInt64S.f k t1028 t1040).bind fun t1043 => (if t1043 = true then ((laws_markInt64S.f k t1025 1).bind fun bt1044 => ((laws_markInt64S.f k t1028 bt1044.1).bind fun bt1046 => (if bt1046.1 < 0 then (some false) else ((laws_eqInt64S.f k bt1031.1 bt1021.1).bind fun t1048 => (if t1048 = true then ((laws_markInt64S.f k bt1031.1 1).bind fun bt1049 => ((laws_heldInt64S.f k bt1049.2 1).bind fun t1051 => (if t1051 < 0 then (some false) else (if t1051 = bt1049.1 then ((laws_toInt64S.f k l0).bind fun t1052 => ((laws_toInt64S.f k l1).bind fun t1055 => ((impl_MultiplyWhole.f k t1052 t1055).bind fun bt1058 => ((laws_eqInt64S.f k bt1058.1 bt1021.1).bind fun t1062 => (if t1062 = true then (if bt1058.2 = bt1021.2 then ((laws_heldInt64S.f k bt1049.2 1).bind fun t1063 => (if t1063 < 0 then (some false) else (if t1063 = bt1049.1 then (some true) else (some false)))) else (some false)) else (some false)))))) else (some false))))) else (some false)))))) else (some false)))) else (some false)))) else (some false)) else (some false))))))))))) = some true := h
  clear h
  by_cases c3 : (l0.length : Int) > 1048576
  · rw [if_pos c3] at H
    have c3b0 : decide (1048576 < (l0.length : Int)) = true := decide_eq_true c3
    have c3b1 : decide (1048576 < l0.length) = true := decide_eq_true (by omega)
    clear c3
    try clear H
    go_enter Try.func12, Try.ntmps12
    go_wp2
    go_ret
    exact ⟨by first | rfl | (simp [errW_none, errW_some] <;> rfl) | (simp [*, errW_none, errW_some] <;> rfl), by repeat (first | (with_reducible first | exact HB.out | apply below_alloc | apply pw_below_drewN | apply below_drew1) | exact HB.out)⟩
  · rw [if_neg c3] at H
    have c3b0 : decide (1048576 < (l0.length : Int)) = false := decide_eq_false c3
    have c3b1 : decide (1048576 < l0.length) = false := decide_eq_false (by omega)
    clear c3
    by_cases c4 : (l1.length : Int) > 1048576
    · rw [if_pos c4] at H
      have c4b0 : decide (1048576 < (l1.length : Int)) = true := decide_eq_true c4
      have c4b1 : decide (1048576 < l1.length) = true := decide_eq_true (by omega)
      clear c4
      try clear H
      go_enter Try.func12, Try.ntmps12
      go_wp2
      go_ret
      exact ⟨by first | rfl | (simp [errW_none, errW_some] <;> rfl) | (simp [*, errW_none, errW_some] <;> rfl), by repeat (first | (with_reducible first | exact HB.out | apply below_alloc | apply pw_below_drewN | apply below_drew1) | exact HB.out)⟩
    · rw [if_neg c4] at H
      have c4b0 : decide (1048576 < (l1.length : Int)) = false := decide_eq_false c4
      have c4b1 : decide (1048576 < l1.length) = false := decide_eq_false (by omega)
      clear c4
      replace H := Option.bind_eq_some_iff.mp H
      obtain ⟨t1015, A50, H⟩ := H
      replace H : ((laws_toInt64S.f k l1).bind fun t1018 => ((spec_MultiplyWhole.f k t1015 t1018).bind fun bt1021 => ((laws_toInt64S.f k l0).bind fun t1025 => ((laws_toInt64S.f k l1).bind fun t1028 => ((impl_MultiplyWhole.f k t1025 t1028).bind fun bt1031 => ((laws_eqInt64S.f k bt1031.1 bt1021.1).bind fun t1035 => (if t1035 = true then (if bt1031.2 = bt1021.2 then ((laws_toInt64S.f k l0).bind fun t1036 => ((laws_eqInt64S.f k t1025 t1036).bind fun t1039 => (if t1039 = true then ((laws_toInt64S.f k l1).bind fun t1040 => ((laws_eqInt64S.f k t1028 t1040).bind fun t1043 => (if t1043 = true then ((laws_markInt64S.f k t1025 1).bind fun bt1044 => ((laws_markInt64S.f k t1028 bt1044.1).bind fun bt1046 => (if bt1046.1 < 0 then (some false) else ((laws_eqInt64S.f k bt1031.1 bt1021.1).bind fun t1048 => (if t1048 = true then ((laws_markInt64S.f k bt1031.1 1).bind fun bt1049 => ((laws_heldInt64S.f k bt1049.2 1).bind fun t1051 => (if t1051 < 0 then (some false) else (if t1051 = bt1049.1 then ((laws_toInt64S.f k l0).bind fun t1052 => ((laws_toInt64S.f k l1).bind fun t1055 => ((impl_MultiplyWhole.f k t1052 t1055).bind fun bt1058 => ((laws_eqInt64S.f k bt1058.1 bt1021.1).bind fun t1062 => (if t1062 = true then (if bt1058.2 = bt1021.2 then ((laws_heldInt64S.f k bt1049.2 1).bind fun t1063 => (if t1063 < 0 then (some false) else (if t1063 = bt1049.1 then (some true) else (some false)))) else (some false)) else (some false)))))) else (some false))))) else (some false)))))) else (some false)))) else (some false)))) else (some false)) else (some false)))))))) = some true := H
      have A5 := Aside0.mk A50
      clear A50
      replace H := Option.bind_eq_some_iff.mp H
      obtain ⟨t1018, A60, H⟩ := H
      replace H : ((spec_MultiplyWhole.f k t1015 t1018).bind fun bt1021 => ((laws_toInt64S.f k l0).bind fun t1025 => ((laws_toInt64S.f k l1).bind fun t1028 => ((impl_MultiplyWhole.f k t1025 t1028).bind fun bt1031 => ((laws_eqInt64S.f k bt1031.1 bt1021.1).bind fun t1035 => (if t1035 = true then (if bt1031.2 = bt1021.2 then ((laws_toInt64S.f k l0).bind fun t1036 => ((laws_eqInt64S.f k t1025 t1036).bind fun t1039 => (if t1039 = true then ((laws_toInt64S.f k l1).bind fun t1040 => ((laws_eqInt64S.f k t1028 t1040).bind fun t1043 => (if t1043 = true then ((laws_markInt64S.f k t1025 1).bind fun bt1044 => ((laws_markInt64S.f k t1028 bt1044.1).bind fun bt1046 => (if bt1046.1 < 0 then (some false) else ((laws_eqInt64S.f k bt1031.1 bt1021.1).bind fun t1048 => (if t1048 = true then ((laws_markInt64S.f k bt1031.1 1).bind fun bt1049 => ((laws_heldInt64S.f k bt1049.2 1).bind fun t1051 => (if t1051 < 0 then (some false) else (if t1051 = bt1049.1 then ((laws_toInt64S.f k l0).bind fun t1052 => ((laws_toInt64S.f k l1).bind fun t1055 => ((impl_MultiplyWhole.f k t1052 t1055).bind fun bt1058 => ((laws_eqInt64S.f k bt1058.1 bt1021.1).bind fun t1062 => (if t1062 = true then (if bt1058.2 = bt1021.2 then ((laws_heldInt64S.f k bt1049.2 1).bind fun t1063 => (if t1063 < 0 then (some false) else (if t1063 = bt1049.1 then (some true) else (some false)))) else (some false)) else (some false)))))) else (some false))))) else (some false)))))) else (some false)))) else (some false)))) else (some false)) else (some false))))))) = some true := H
      have A6 := Aside0.mk A60
      clear A60
      replace H := Option.bind_eq_some_iff.mp H
      obtain ⟨⟨t1021, t1022⟩, A70, H⟩ := H
      replace H : ((laws_toInt64S.f k l0).bind fun t1025 => ((laws_toInt64S.f k l1).bind fun t1028 => ((impl_MultiplyWhole.f k t1025 t1028).bind fun bt1031 => ((laws_eqInt64S.f k bt1031.1 t1021).bind fun t1035 => (if t1035 = true then (if bt1031.2 = t1022 then ((laws_toInt64S.f k l0).bind fun t1036 => ((laws_eqInt64S.f k t1025 t1036).bind fun t1039 => (if t1039 = true then ((laws_toInt64S.f k l1).bind fun t1040 => ((laws_eqInt64S.f k t1028 t1040).bind fun t1043 => (if t1043 = true then ((laws_markInt64S.f k t1025 1).bind fun bt1044 => ((laws_markInt64S.f k t1028 bt1044.1).bind fun bt1046 => (if bt1046.1 < 0 then (some false) else ((laws_eqInt64S.f k bt1031.1 t1021).bind fun t1048 => (if t1048 = true then ((laws_markInt64S.f k bt1031.1 1).bind fun bt1049 => ((laws_heldInt64S.f k bt1049.2 1).bind fun t1051 => (if t1051 < 0 then (some false) else (if t1051 = bt1049.1 then ((laws_toInt64S.f k l0).bind fun t1052 => ((laws_toInt64S.f k l1).bind fun t1055 => ((impl_MultiplyWhole.f k t1052 t1055).bind fun bt1058 => ((laws_eqInt64S.f k bt1058.1 t1021).bind fun t1062 => (if t1062 = true then (if bt1058.2 = t1022 then ((laws_heldInt64S.f k bt1049.2 1).bind fun t1063 => (if t1063 < 0 then (some false) else (if t1063 = bt1049.1 then (some true) else (some false)))) else (some false)) else (some false)))))) else (some false))))) else (some false)))))) else (some false)))) else (some false)))) else (some false)) else (some false)))))) = some true := H
      have A7 := Aside0.mk A70
      clear A70
      replace H := Option.bind_eq_some_iff.mp H
      obtain ⟨t1025, A80, H⟩ := H
      replace H : ((laws_toInt64S.f k l1).bind fun t1028 => ((impl_MultiplyWhole.f k t1025 t1028).bind fun bt1031 => ((laws_eqInt64S.f k bt1031.1 t1021).bind fun t1035 => (if t1035 = true then (if bt1031.2 = t1022 then ((laws_toInt64S.f k l0).bind fun t1036 => ((laws_eqInt64S.f k t1025 t1036).bind fun t1039 => (if t1039 = true then ((laws_toInt64S.f k l1).bind fun t1040 => ((laws_eqInt64S.f k t1028 t1040).bind fun t1043 => (if t1043 = true then ((laws_markInt64S.f k t1025 1).bind fun bt1044 => ((laws_markInt64S.f k t1028 bt1044.1).bind fun bt1046 => (if bt1046.1 < 0 then (some false) else ((laws_eqInt64S.f k bt1031.1 t1021).bind fun t1048 => (if t1048 = true then ((laws_markInt64S.f k bt1031.1 1).bind fun bt1049 => ((laws_heldInt64S.f k bt1049.2 1).bind fun t1051 => (if t1051 < 0 then (some false) else (if t1051 = bt1049.1 then ((laws_toInt64S.f k l0).bind fun t1052 => ((laws_toInt64S.f k l1).bind fun t1055 => ((impl_MultiplyWhole.f k t1052 t1055).bind fun bt1058 => ((laws_eqInt64S.f k bt1058.1 t1021).bind fun t1062 => (if t1062 = true then (if bt1058.2 = t1022 then ((laws_heldInt64S.f k bt1049.2 1).bind fun t1063 => (if t1063 < 0 then (some false) else (if t1063 = bt1049.1 then (some true) else (some false)))) else (some false)) else (some false)))))) else (some false))))) else (some false)))))) else (some false)))) else (some false)))) else (some false)) else (some false))))) = some true := H
      have A8 := Aside0.mk A80
      clear A80
      replace H := Option.bind_eq_some_iff.mp H
      obtain ⟨t1028, A90, H⟩ := H
      replace H : ((impl_MultiplyWhole.f k t1025 t1028).bind fun bt1031 => ((laws_eqInt64S.f k bt1031.1 t1021).bind fun t1035 => (if t1035 = true then (if bt1031.2 = t1022 then ((laws_toInt64S.f k l0).bind fun t1036 => ((laws_eqInt64S.f k t1025 t1036).bind fun t1039 => (if t1039 = true then ((laws_toInt64S.f k l1).bind fun t1040 => ((laws_eqInt64S.f k t1028 t1040).bind fun t1043 => (if t1043 = true then ((laws_markInt64S.f k t1025 1).bind fun bt1044 => ((laws_markInt64S.f k t1028 bt1044.1).bind fun bt1046 => (if bt1046.1 < 0 then (some false) else ((laws_eqInt64S.f k bt1031.1 t1021).bind fun t1048 => (if t1048 = true then ((laws_markInt64S.f k bt1031.1 1).bind fun bt1049 => ((laws_heldInt64S.f k bt1049.2 1).bind fun t1051 => (if t1051 < 0 then (some false) else (if t1051 = bt1049.1 then ((laws_toInt64S.f k l0).bind fun t1052 => ((laws_toInt64S.f k l1).bind fun t1055 => ((impl_MultiplyWhole.f k t1052 t1055).bind fun bt1058 => ((laws_eqInt64S.f k bt1058.1 t1021).bind fun t1062 => (if t1062 = true then (if bt1058.2 = t1022 then ((laws_heldInt64S.f k bt1049.2 1).bind fun t1063 => (if t1063 < 0 then (some false) else (if t1063 = bt1049.1 then (some true) else (some false)))) else (some false)) else (some false)))))) else (some false))))) else (some false)))))) else (some false)))) else (some false)))) else (some false)) else (some false)))) = some true := H
      have A9 := Aside0.mk A90
      clear A90
      replace H := Option.bind_eq_some_iff.mp H
      obtain ⟨⟨t1031, t1034⟩, A100, H⟩ := H
      replace H : ((laws_eqInt64S.f k t1031 t1021).bind fun t1035 => (if t1035 = true then (if t1034 = t1022 then ((laws_toInt64S.f k l0).bind fun t1036 => ((laws_eqInt64S.f k t1025 t1036).bind fun t1039 => (if t1039 = true then ((laws_toInt64S.f k l1).bind fun t1040 => ((laws_eqInt64S.f k t1028 t1040).bind fun t1043 => (if t1043 = true then ((laws_markInt64S.f k t1025 1).bind fun bt1044 => ((laws_markInt64S.f k t1028 bt1044.1).bind fun bt1046 => (if bt1046.1 < 0 then (some false) else ((laws_eqInt64S.f k t1031 t1021).bind fun t1048 => (if t1048 = true then ((laws_markInt64S.f k t1031 1).bind fun bt1049 => ((laws_heldInt64S.f k bt1049.2 1).bind fun t1051 => (if t1051 < 0 then (some false) else (if t1051 = bt1049.1 then ((laws_toInt64S.f k l0).bind fun t1052 => ((laws_toInt64S.f k l1).bind fun t1055 => ((impl_MultiplyWhole.f k t1052 t1055).bind fun bt1058 => ((laws_eqInt64S.f k bt1058.1 t1021).bind fun t1062 => (if t1062 = true then (if bt1058.2 = t1022 then ((laws_heldInt64S.f k bt1049.2 1).bind fun t1063 => (if t1063 < 0 then (some false) else (if t1063 = bt1049.1 then (some true) else (some false)))) else (some false)) else (some false)))))) else (some false))))) else (some false)))))) else (some false)))) else (some false)))) else (some false)) else (some false))) = some true := H
      have A10 := Aside0.mk A100
      clear A100
      replace H := Option.bind_eq_some_iff.mp H
      obtain ⟨t1035, A110, H⟩ := H
      replace H : (if t1035 = true then (if t1034 = t1022 then ((laws_toInt64S.f k l0).bind fun t1036 => ((laws_eqInt64S.f k t1025 t1036).bind fun t1039 => (if t1039 = true then ((laws_toInt64S.f k l1).bind fun t1040 => ((laws_eqInt64S.f k t1028 t1040).bind fun t1043 => (if t1043 = true then ((laws_markInt64S.f k t1025 1).bind fun bt1044 => ((laws_markInt64S.f k t1028 bt1044.1).bind fun bt1046 => (if bt1046.1 < 0 then (some false) else ((laws_eqInt64S.f k t1031 t1021).bind fun t1048 => (if t1048 = true then ((laws_markInt64S.f k t1031 1).bind fun bt1049 => ((laws_heldInt64S.f k bt1049.2 1).bind fun t1051 => (if t1051 < 0 then (some false) else (if t1051 = bt1049.1 then ((laws_toInt64S.f k l0).bind fun t1052 => ((laws_toInt64S.f k l1).bind fun t1055 => ((impl_MultiplyWhole.f k t1052 t1055).bind fun bt1058 => ((laws_eqInt64S.f k bt1058.1 t1021).bind fun t1062 => (if t1062 = true then (if bt1058.2 = t1022 then ((laws_heldInt64S.f k bt1049.2 1).bind fun t1063 => (if t1063 < 0 then (some false) else (if t1063 = bt1049.1 then (some true) else (some false)))) else (some false)) else (some false)))))) else (some false))))) else (some false)))))) else (some false)))) else (some false)))) else (some false)) else (some false)) = some true := H
      have A11 := Aside0.mk A110
      clear A110
      by_cases c12 : t1035 = true
      · subst c12
        have H1 : (if t1034 = t1022 then ((laws_toInt64S.f k l0).bind fun t1036 => ((laws_eqInt64S.f k t1025 t1036).bind fun t1039 => (if t1039 = true then ((laws_toInt64S.f k l1).bind fun t1040 => ((laws_eqInt64S.f k t1028 t1040).bind fun t1043 => (if t1043 = true then ((laws_markInt64S.f k t1025 1).bind fun bt1044 => ((laws_markInt64S.f k t1028 bt1044.1).bind fun bt1046 => (if bt1046.1 < 0 then (some false) else ((laws_eqInt64S.f k t1031 t1021).bind fun t1048 => (if t1048 = true then ((laws_markInt64S.f k t1031 1).bind fun bt1049 => ((laws_heldInt64S.f k bt1049.2 1).bind fun t1051 => (if t1051 < 0 then (some false) else (if t1051 = bt1049.1 then ((laws_toInt64S.f k l0).bind fun t1052 => ((laws_toInt64S.f k l1).bind fun t1055 => ((impl_MultiplyWhole.f k t1052 t1055).bind fun bt1058 => ((laws_eqInt64S.f k bt1058.1 t1021).bind fun t1062 => (if t1062 = true then (if bt1058.2 = t1022 then ((laws_heldInt64S.f k bt1049.2 1).bind fun t1063 => (if t1063 < 0 then (some false) else (if t1063 = bt1049.1 then (some true) else (some false)))) else (some false)) else (some false)))))) else (some false))))) else (some false)))))) else (some false)))) else (some false)))) else (some false)) = some true := by rw [if_pos rfl] at H; exact H
        clear H
        have H := H1
        clear H1
        by_cases c13 : t1034 = t1022
        · rw [if_pos c13] at H
          have c13b0 : (t1034 == t1022) = true := beq_iff_eq.mpr c13
          have c13b1 : (t1034 != t1022) = false := bne_eq_false_iff_eq.mpr c13
          clear c13
          replace H := Option.bind_eq_some_iff.mp H
          obtain ⟨t1036, A140, H⟩ := H
          replace H : ((laws_eqInt64S.f k t1025 t1036).bind fun t1039 => (if t1039 = true then ((laws_toInt64S.f k l1).bind fun t1040 => ((laws_eqInt64S.f k t1028 t1040).bind fun t1043 => (if t1043 = true then ((laws_markInt64S.f k t1025 1).bind fun bt1044 => ((laws_markInt64S.f k t1028 bt1044.1).bind fun bt1046 => (if bt1046.1 < 0 then (some false) else ((laws_eqInt64S.f k t1031 t1021).bind fun t1048 => (if t1048 = true then ((laws_markInt64S.f k t1031 1).bind fun bt1049 => ((laws_heldInt64S.f k bt1049.2 1).bind fun t1051 => (if t1051 < 0 then (some false) else (if t1051 = bt1049.1 then ((laws_toInt64S.f k l0).bind fun t1052 => ((laws_toInt64S.f k l1).bind fun t1055 => ((impl_MultiplyWhole.f k t1052 t1055).bind fun bt1058 => ((laws_eqInt64S.f k bt1058.1 t1021).bind fun t1062 => (if t1062 = true then (if bt1058.2 = t1022 then ((laws_heldInt64S.f k bt1049.2 1).bind fun t1063 => (if t1063 < 0 then (some false) else (if t1063 = bt1049.1 then (some true) else (some false)))) else (some false)) else (some false)))))) else (some false))))) else (some false)))))) else (some false)))) else (some false))) = some true := H
          have A14 := Aside0.mk A140
          clear A140
          replace H := Option.bind_eq_some_iff.mp H
          obtain ⟨t1039, A150, H⟩ := H
          replace H : (if t1039 = true then ((laws_toInt64S.f k l1).bind fun t1040 => ((laws_eqInt64S.f k t1028 t1040).bind fun t1043 => (if t1043 = true then ((laws_markInt64S.f k t1025 1).bind fun bt1044 => ((laws_markInt64S.f k t1028 bt1044.1).bind fun bt1046 => (if bt1046.1 < 0 then (some false) else ((laws_eqInt64S.f k t1031 t1021).bind fun t1048 => (if t1048 = true then ((laws_markInt64S.f k t1031 1).bind fun bt1049 => ((laws_heldInt64S.f k bt1049.2 1).bind fun t1051 => (if t1051 < 0 then (some false) else (if t1051 = bt1049.1 then ((laws_toInt64S.f k l0).bind fun t1052 => ((laws_toInt64S.f k l1).bind fun t1055 => ((impl_MultiplyWhole.f k t1052 t1055).bind fun bt1058 => ((laws_eqInt64S.f k bt1058.1 t1021).bind fun t1062 => (if t1062 = true then (if bt1058.2 = t1022 then ((laws_heldInt64S.f k bt1049.2 1).bind fun t1063 => (if t1063 < 0 then (some false) else (if t1063 = bt1049.1 then (some true) else (some false)))) else (some false)) else (some false)))))) else (some false))))) else (some false)))))) else (some false)))) else (some false)) = some true := H
          have A15 := Aside0.mk A150
          clear A150
          by_cases c16 : t1039 = true
          · subst c16
            have H1 : ((laws_toInt64S.f k l1).bind fun t1040 => ((laws_eqInt64S.f k t1028 t1040).bind fun t1043 => (if t1043 = true then ((laws_markInt64S.f k t1025 1).bind fun bt1044 => ((laws_markInt64S.f k t1028 bt1044.1).bind fun bt1046 => (if bt1046.1 < 0 then (some false) else ((laws_eqInt64S.f k t1031 t1021).bind fun t1048 => (if t1048 = true then ((laws_markInt64S.f k t1031 1).bind fun bt1049 => ((laws_heldInt64S.f k bt1049.2 1).bind fun t1051 => (if t1051 < 0 then (some false) else (if t1051 = bt1049.1 then ((laws_toInt64S.f k l0).bind fun t1052 => ((laws_toInt64S.f k l1).bind fun t1055 => ((impl_MultiplyWhole.f k t1052 t1055).bind fun bt1058 => ((laws_eqInt64S.f k bt1058.1 t1021).bind fun t1062 => (if t1062 = true then (if bt1058.2 = t1022 then ((laws_heldInt64S.f k bt1049.2 1).bind fun t1063 => (if t1063 < 0 then (some false) else (if t1063 = bt1049.1 then (some true) else (some false)))) else (some false)) else (some false)))))) else (some false))))) else (some false)))))) else (some false)))) = some true := by rw [if_pos rfl] at H; exact H
            clear H
            have H := H1
            clear H1
            replace H := Option.bind_eq_some_iff.mp H
            obtain ⟨t1040, A170, H⟩ := H
            replace H : ((laws_eqInt64S.f k t1028 t1040).bind fun t1043 => (if t1043 = true then ((laws_markInt64S.f k t1025 1).bind fun bt1044 => ((laws_markInt64S.f k t1028 bt1044.1).bind fun bt1046 => (if bt1046.1 < 0 then (some false) else ((laws_eqInt64S.f k t1031 t1021).bind fun t1048 => (if t1048 = true then ((laws_markInt64S.f k t1031 1).bind fun bt1049 => ((laws_heldInt64S.f k bt1049.2 1).bind fun t1051 => (if t1051 < 0 then (some false) else (if t1051 = bt1049.1 then ((laws_toInt64S.f k l0).bind fun t1052 => ((laws_toInt64S.f k l1).bind fun t1055 => ((impl_MultiplyWhole.f k t1052 t1055).bind fun bt1058 => ((laws_eqInt64S.f k bt1058.1 t1021).bind fun t1062 => (if t1062 = true then (if bt1058.2 = t1022 then ((laws_heldInt64S.f k bt1049.2 1).bind fun t1063 => (if t1063 < 0 then (some false) else (if t1063 = bt1049.1 then (some true) else (some false)))) else (some false)) else (some false)))))) else (some false))))) else (some false)))))) else (some false))) = some true := H
            have A17 := Aside0.mk A170
            clear A170
            replace H := Option.bind_eq_some_iff.mp H
            obtain ⟨t1043, A180, H⟩ := H
            replace H : (if t1043 = true then ((laws_markInt64S.f k t1025 1).bind fun bt1044 => ((laws_markInt64S.f k t1028 bt1044.1).bind fun bt1046 => (if bt1046.1 < 0 then (some false) else ((laws_eqInt64S.f k t1031 t1021).bind fun t1048 => (if t1048 = true then ((laws_markInt64S.f k t1031 1).bind fun bt1049 => ((laws_heldInt64S.f k bt1049.2 1).bind fun t1051 => (if t1051 < 0 then (some false) else (if t1051 = bt1049.1 then ((laws_toInt64S.f k l0).bind fun t1052 => ((laws_toInt64S.f k l1).bind fun t1055 => ((impl_MultiplyWhole.f k t1052 t1055).bind fun bt1058 => ((laws_eqInt64S.f k bt1058.1 t1021).bind fun t1062 => (if t1062 = true then (if bt1058.2 = t1022 then ((laws_heldInt64S.f k bt1049.2 1).bind fun t1063 => (if t1063 < 0 then (some false) else (if t1063 = bt1049.1 then (some true) else (some false)))) else (some false)) else (some false)))))) else (some false))))) else (some false)))))) else (some false)) = some true := H
            have A18 := Aside0.mk A180
            clear A180
            by_cases c19 : t1043 = true
            · subst c19
              have H1 : ((laws_markInt64S.f k t1025 1).bind fun bt1044 => ((laws_markInt64S.f k t1028 bt1044.1).bind fun bt1046 => (if bt1046.1 < 0 then (some false) else ((laws_eqInt64S.f k t1031 t1021).bind fun t1048 => (if t1048 = true then ((laws_markInt64S.f k t1031 1).bind fun bt1049 => ((laws_heldInt64S.f k bt1049.2 1).bind fun t1051 => (if t1051 < 0 then (some false) else (if t1051 = bt1049.1 then ((laws_toInt64S.f k l0).bind fun t1052 => ((laws_toInt64S.f k l1).bind fun t1055 => ((impl_MultiplyWhole.f k t1052 t1055).bind fun bt1058 => ((laws_eqInt64S.f k bt1058.1 t1021).bind fun t1062 => (if t1062 = true then (if bt1058.2 = t1022 then ((laws_heldInt64S.f k bt1049.2 1).bind fun t1063 => (if t1063 < 0 then (some false) else (if t1063 = bt1049.1 then (some true) else (some false)))) else (some false)) else (some false)))))) else (some false))))) else (some false)))))) = some true := by rw [if_pos rfl] at H; exact H
              clear H
              have H := H1
              clear H1
              replace H := Option.bind_eq_some_iff.mp H
              obtain ⟨⟨t1044, t1045⟩, A200, H⟩ := H
              replace H : ((laws_markInt64S.f k t1028 t1044).bind fun bt1046 => (if bt1046.1 < 0 then (some false) else ((laws_eqInt64S.f k t1031 t1021).bind fun t1048 => (if t1048 = true then ((laws_markInt64S.f k t1031 1).bind fun bt1049 => ((laws_heldInt64S.f k bt1049.2 1).bind fun t1051 => (if t1051 < 0 then (some false) else (if t1051 = bt1049.1 then ((laws_toInt64S.f k l0).bind fun t1052 => ((laws_toInt64S.f k l1).bind fun t1055 => ((impl_MultiplyWhole.f k t1052 t1055).bind fun bt1058 => ((laws_eqInt64S.f k bt1058.1 t1021).bind fun t1062 => (if t1062 = true then (if bt1058.2 = t1022 then ((laws_heldInt64S.f k bt1049.2 1).bind fun t1063 => (if t1063 < 0 then (some false) else (if t1063 = bt1049.1 then (some true) else (some false)))) else (some false)) else (some false)))))) else (some false))))) else (some false))))) = some true := H
              have A20 := Aside0.mk A200
              clear A200
              replace H := Option.bind_eq_some_iff.mp H
              obtain ⟨⟨t1046, t1047⟩, A210, H⟩ := H
              replace H : (if t1046 < 0 then (some false) else ((laws_eqInt64S.f k t1031 t1021).bind fun t1048 => (if t1048 = true then ((laws_markInt64S.f k t1031 1).bind fun bt1049 => ((laws_heldInt64S.f k bt1049.2 1).bind fun t1051 => (if t1051 < 0 then (some false) else (if t1051 = bt1049.1 then ((laws_toInt64S.f k l0).bind fun t1052 => ((laws_toInt64S.f k l1).bind fun t1055 => ((impl_MultiplyWhole.f k t1052 t1055).bind fun bt1058 => ((laws_eqInt64S.f k bt1058.1 t1021).bind fun t1062 => (if t1062 = true then (if bt1058.2 = t1022 then ((laws_heldInt64S.f k bt1049.2 1).bind fun t1063 => (if t1063 < 0 then (some false) else (if t1063 = bt1049.1 then (some true) else (some false)))) else (some false)) else (some false)))))) else (some false))))) else (some false)))) = some true := H
              have A21 := Aside0.mk A210
              clear A210
              by_cases c22 : t1046 < 0
              · rw [if_pos c22] at H
                have c22b0 : decide (t1046 < 0) = true := decide_eq_true c22
                clear c22
                exact absurd H (by simp)
              · rw [if_neg c22] at H
                have c22b0 : decide (t1046 < 0) = false := decide_eq_false c22
                clear c22
                replace H := Option.bind_eq_some_iff.mp H
                obtain ⟨t1048, A230, H⟩ := H
                replace H : (if t1048 = true then ((laws_markInt64S.f k t1031 1).bind fun bt1049 => ((laws_heldInt64S.f k bt1049.2 1).bind fun t1051 => (if t1051 < 0 then (some false) else (if t1051 = bt1049.1 then ((laws_toInt64S.f k l0).bind fun t1052 => ((laws_toInt64S.f k l1).bind fun t1055 => ((impl_MultiplyWhole.f k t1052 t1055).bind fun bt1058 => ((laws_eqInt64S.f k bt1058.1 t1021).bind fun t1062 => (if t1062 = true then (if bt1058.2 = t1022 then ((laws_heldInt64S.f k bt1049.2 1).bind fun t1063 => (if t1063 < 0 then (some false) else (if t1063 = bt1049.1 then (some true) else (some false)))) else (some false)) else (some false)))))) else (some false))))) else (some false)) = some true := H
                have A23 := Aside0.mk A230
                clear A230
                by_cases c24 : t1048 = true
                · subst c24
                  have H1 : ((laws_markInt64S.f k t1031 1).bind fun bt1049 => ((laws_heldInt64S.f k bt1049.2 1).bind fun t1051 => (if t1051 < 0 then (some false) else (if t1051 = bt1049.1 then ((laws_toInt64S.f k l0).bind fun t1052 => ((laws_toInt64S.f k l1).bind fun t1055 => ((impl_MultiplyWhole.f k t1052 t1055).bind fun bt1058 => ((laws_eqInt64S.f k bt1058.1 t1021).bind fun t1062 => (if t1062 = true then (if bt1058.2 = t1022 then ((laws_heldInt64S.f k bt1049.2 1).bind fun t1063 => (if t1063 < 0 then (some false) else (if t1063 = bt1049.1 then (some true) else (some false)))) else (some false)) else (some false)))))) else (some false))))) = some true := by rw [if_pos rfl] at H; exact H
                  clear H
                  have H := H1
                  clear H1
                  replace H := Option.bind_eq_some_iff.mp H
                  obtain ⟨⟨t1049, t1050⟩, A250, H⟩ := H
                  replace H : ((laws_heldInt64S.f k t1050 1).bind fun t1051 => (if t1051 < 0 then (some false) else (if t1051 = t1049 then ((laws_toInt64S.f k l0).bind fun t1052 => ((laws_toInt64S.f k l1).bind fun t1055 => ((impl_MultiplyWhole.f k t1052 t1055).bind fun bt1058 => ((laws_eqInt64S.f k bt1058.1 t1021).bind fun t1062 => (if t1062 = true then (if bt1058.2 = t1022 then ((laws_heldInt64S.f k t1050 1).bind fun t1063 => (if t1063 < 0 then (some false) else (if t1063 = t1049 then (some true) else (some false)))) else (some false)) else (some false)))))) else (some false)))) = some true := H
                  have A25 := Aside0.mk A250
                  clear A250
                  replace H := Option.bind_eq_some_iff.mp H
                  obtain ⟨t1051, A260, H⟩ := H
                  replace H : (if t1051 < 0 then (some false) else (if t1051 = t1049 then ((laws_toInt64S.f k l0).bind fun t1052 => ((laws_toInt64S.f k l1).bind fun t1055 => ((impl_MultiplyWhole.f k t1052 t1055).bind fun bt1058 => ((laws_eqInt64S.f k bt1058.1 t1021).bind fun t1062 => (if t1062 = true then (if bt1058.2 = t1022 then ((laws_heldInt64S.f k t1050 1).bind fun t1063 => (if t1063 < 0 then (some false) else (if t1063 = t1049 then (some true) else (some false)))) else (some false)) else (some false)))))) else (some false))) = some true := H
                  have A26 := Aside0.mk A260
                  clear A260
                  by_cases c27 : t1051 < 0
                  · rw [if_pos c27] at H
                    have c27b0 : decide (t1051 < 0) = true := decide_eq_true c27
                    clear c27
                    exact absurd H (by simp)
                  · rw [if_neg c27] at H
                    have c27b0 : decide (t1051 < 0) = false := decide_eq_false c27
                    clear c27
                    by_cases c28 : t1051 = t1049
                    · rw [if_pos c28] at H
                      have c28b0 : (t1051 == t1049) = true := beq_iff_eq.mpr c28
                      have c28b1 : (t1051 != t1049) = false := bne_eq_false_iff_eq.mpr c28
                      clear c28
                      replace H := Option.bind_eq_some_iff.mp H
                      obtain ⟨t1052, A290, H⟩ := H
                      replace H : ((laws_toInt64S.f k l1).bind fun t1055 => ((impl_MultiplyWhole.f k t1052 t1055).bind fun bt1058 => ((laws_eqInt64S.f k bt1058.1 t1021).bind fun t1062 => (if t1062 = true then (if bt1058.2 = t1022 then ((laws_heldInt64S.f k t1050 1).bind fun t1063 => (if t1063 < 0 then (some false) else (if t1063 = t1049 then (some true) else (some false)))) else (some false)) else (some false))))) = some true := H
                      have A29 := Aside0.mk A290
                      clear A290
                      replace H := Option.bind_eq_some_iff.mp H
                      obtain ⟨t1055, A300, H⟩ := H
                      replace H : ((impl_MultiplyWhole.f k t1052 t1055).bind fun bt1058 => ((laws_eqInt64S.f k bt1058.1 t1021).bind fun t1062 => (if t1062 = true then (if bt1058.2 = t1022 then ((laws_heldInt64S.f k t1050 1).bind fun t1063 => (if t1063 < 0 then (some false) else (if t1063 = t1049 then (some true) else (some false)))) else (some false)) else (some false)))) = some true := H
                      have A30 := Aside0.mk A300
                      clear A300
                      replace H := Option.bind_eq_some_iff.mp H
                      obtain ⟨⟨t1058, t1061⟩, A310, H⟩ := H
                      replace H : ((laws_eqInt64S.f k t1058 t1021).bind fun t1062 => (if t1062 = true then (if t1061 = t1022 then ((laws_heldInt64S.f k t1050 1).bind fun t1063 => (if t1063 < 0 then (some false) else (if t1063 = t1049 then (some true) else (some false)))) else (some false)) else (some false))) = some true := H
                      have A31 := Aside0.mk A310
                      clear A310
                      replace H := Option.bind_eq_some_iff.mp H
                      obtain ⟨t1062, A320, H⟩ := H
                      replace H : (if t1062 = true then (if t1061 = t1022 then ((laws_heldInt64S.f k t1050 1).bind fun t1063 => (if t1063 < 0 then (some false) else (if t1063 = t1049 then (some true) else (some false)))) else (some false)) else (some false)) = some true := H
                      have A32 := Aside0.mk A320
                      clear A320
                      by_cases c33 : t1062 = true
                      · subst c33
                        have H1 : (if t1061 = t1022 then ((laws_heldInt64S.f k t1050 1).bind fun t1063 => (if t1063 < 0 then (some false) else (if t1063 = t1049 then (some true) else (some false)))) else (some false)) = some true := by rw [if_pos rfl] at H; exact H
                        clear H
                        have H := H1
                        clear H1
                        by_cases c34 : t1061 = t1022
                        · rw [if_pos c34] at H
                          have c34b0 : (t1061 == t1022) = true := beq_iff_eq.mpr c34
                          have c34b1 : (t1061 != t1022) = false := bne_eq_false_iff_eq.mpr c34
                          clear c34
                          replace H := Option.bind_eq_some_iff.mp H
                          obtain ⟨t1063, A350, H⟩ := H
                          replace H : (if t1063 < 0 then (some false) else (if t1063 = t1049 then (some true) else (some false))) = some true := H
                          have A35 := Aside0.mk A350
                          clear A350
                          by_cases c36 : t1063 < 0
                          · rw [if_pos c36] at H
                            have c36b0 : decide (t1063 < 0) = true := decide_eq_true c36
                            clear c36
                            exact absurd H (by simp)
                          · rw [if_neg c36] at H
                            have c36b0 : decide (t1063 < 0) = false := decide_eq_false c36
                            clear c36
                            by_cases c37 : t1063 = t1049
                            · rw [if_pos c37] at H
                              have c37b0 : (t1063 == t1049) = true := beq_iff_eq.mpr c37
                              have c37b1 : (t1063 != t1049) = false := bne_eq_false_iff_eq.mpr c37
                              clear c37
                              try clear H
                              go_enter Try.func12, Try.ntmps12
                              go_wp2_with (first | ((with_reducible refine gate_callee (f := 16) rfl ?_); refine goesL_ (some 24) rfl rfl Try.func16 (by kernel_rfl) rfl #[.slice A0 l0.length c0] rfl (by (try simp only [List.map_toArray, List.map_cons, List.map_nil]); first | done | rfl) ?_; (with_reducible refine (laws_toInt64S.calls k _ _ l0 t1015 _ ?side1 ?side2 A5.out).mono ?_); (case side1 => exact (Kd.C_below HR0.out HB.out)); (case side2 => exact HC0.out); rintro e w38 ⟨v1016, rfl, ho0, hb⟩; refine ⟨_, rfl, ?_⟩; have n0_ := Aside0.mk (Kd.R_lower (Kd.R_mono (Kd.R_bound ho0) (fun k_ hk_ => (⟨hk_.2.1, hk_.2.2.1⟩ : w.heap.size ≤ k_ ∧ k_ < w38.heap.size))) HB.out.size); have n1_ := Aside0.mk (below_step HB.out hb); have n2_ := Aside0.mk (hb.size); clear HB; have HO1017 := n0_; have HB := n1_; have Zw38 := n2_; clear n0_ n1_ n2_; (try clear hb); (try clear hkp); (try clear hd_); (try clear ho0); obtain ⟨Ao39, co39, eo39⟩ := Kd.R_slice HO1017.out; subst eo39) | ((with_reducible refine gate_callee (f := 16) rfl ?_); refine goesL_ (some 26) rfl rfl Try.func16 (by kernel_rfl) rfl #[.slice A1 l1.length c1] rfl (by (try simp only [List.map_toArray, List.map_cons, List.map_nil]); first | done | rfl) ?_; (with_reducible refine (laws_toInt64S.calls k _ _ l1 t1018 _ ?side1 ?side2 A6.out).mono ?_); (case side1 => exact (Kd.C_below HR1.out HB.out)); (case side2 => exact HC1.out); rintro e w40 ⟨v1019, rfl, ho0, hb⟩; refine ⟨_, rfl, ?_⟩; have n0_ := Aside0.mk (Kd.R_below HO1017.out hb); have n1_ := Aside0.mk (Kd.R_lower (Kd.R_mono (Kd.R_bound ho0) (fun k_ hk_ => (⟨hk_.2.1, hk_.2.2.1⟩ : w38.heap.size ≤ k_ ∧ k_ < w40.heap.size))) HB.out.size); have n2_ := Aside0.mk (below_step HB.out hb); have n3_ := Aside0.mk (hb.size); clear HO1017; clear HB; have HO1017 := n0_; have HO1020 := n1_; have HB := n2_; have Zw40 := n3_; clear n0_ n1_ n2_ n3_; (try clear hb); (try clear hkp); (try clear hd_); (try clear ho0); obtain ⟨Ao41, co41, eo41⟩ := Kd.R_slice HO1020.out; subst eo41) | ((with_reducible refine gate_callee (f := 47) rfl ?_); refine goesL_ (some 27) rfl rfl Try.func47 (by kernel_rfl) rfl #[.slice Ao39 t1015.length co39, .slice Ao41 t1018.length co41] rfl (by (try simp only [List.map_toArray, List.map_cons, List.map_nil]); first | done | rfl) ?_; (with_reducible refine (spec_MultiplyWhole.calls k _ _ t1015 _ _ t1018 t1021 t1022 _ ?side1 ?side2 ?side3 ?side4 A7.out).mono ?_); (case side1 => exact (Kd.R_reads' HO1017.out).2.2); (case side2 => (have e_ := Kd.R_reads' HO1017.out; have e1_ := e_.1; have e2_ := e_.2.1; omega)); (case side3 => exact (Kd.R_reads' HO1020.out).2.2); (case side4 => (have e_ := Kd.R_reads' HO1020.out; have e1_ := e_.1; have e2_ := e_.2.1; omega)); rintro e w42 ⟨v1023, rfl, ho0, hb⟩; refine ⟨_, rfl, ?_⟩; have n0_ := Aside0.mk (Kd.R_below HO1017.out hb); have n1_ := Aside0.mk (Kd.R_below HO1020.out hb); have n2_ := Aside0.mk (Kd.R_lower (Kd.R_mono (Kd.R_bound ho0) (fun k_ hk_ => (⟨hk_.2.1, hk_.2.2.1⟩ : w40.heap.size ≤ k_ ∧ k_ < w42.heap.size))) HB.out.size); have n3_ := Aside0.mk (below_step HB.out hb); have n4_ := Aside0.mk (hb.size); clear HO1017; clear HO1020; clear HB; have HO1017 := n0_; have HO1020 := n1_; have HO1024 := n2_; have HB := n3_; have Zw42 := n4_; clear n0_ n1_ n2_ n3_ n4_; (try clear hb); (try clear hkp); (try clear hd_); (try clear ho0); obtain ⟨Ao43, co43, eo43⟩ := Kd.R_slice HO1024.out; subst eo43) | ((with_reducible refine gate_callee (f := 16) rfl ?_); refine goesL_ (some 31) rfl rfl Try.func16 (by kernel_rfl) rfl #[.slice A0 l0.length c0] rfl (by (try simp only [List.map_toArray, List.map_cons, List.map_nil]); first | done | rfl) ?_; (with_reducible refine (laws_toInt64S.calls k _ _ l0 t1025 _ ?side1 ?side2 A8.out).mono ?_); (case side1 => exact (Kd.C_below HR0.out HB.out)); (case side2 => exact HC0.out); rintro e w44 ⟨v1026, rfl, ho0, hb⟩; refine ⟨_, rfl, ?_⟩; have n0_ := Aside0.mk (Kd.R_below HO1017.out hb); have n1_ := Aside0.mk (Kd.R_below HO1020.out hb); have n2_ := Aside0.mk (Kd.R_below HO1024.out hb); have n3_ := Aside0.mk (Kd.R_lower (Kd.R_mono (Kd.R_bound ho0) (fun k_ hk_ => (⟨hk_.2.1, hk_.2.2.1⟩ : w42.heap.size ≤ k_ ∧ k_ < w44.heap.size))) HB.out.size); have n4_ := Aside0.mk (below_step HB.out hb); have n5_ := Aside0.mk (hb.size); clear HO1017; clear HO1020; clear HO1024; clear HB; have HO1017 := n0_; have HO1020 := n1_; have HO1024 := n2_; have HO1027 := n3_; have HB := n4_; have Zw44 := n5_; clear n0_ n1_ n2_ n3_ n4_ n5_; (try clear hb); (try clear hkp); (try clear hd_); (try clear ho0); obtain ⟨Ao45, co45, eo45⟩ := Kd.R_slice HO1027.out; subst eo45) | ((with_reducible refine gate_callee (f := 16) rfl ?_); refine goesL_ (some 33) rfl rfl Try.func16 (by kernel_rfl) rfl #[.slice A1 l1.length c1] rfl (by (try simp only [List.map_toArray, List.map_cons, List.map_nil]); first | done | rfl) ?_; (with_reducible refine (laws_toInt64S.calls k _ _ l1 t1028 _ ?side1 ?side2 A9.out).mono ?_); (case side1 => exact (Kd.C_below HR1.out HB.out)); (case side2 => exact HC1.out); rintro e w46 ⟨v1029, rfl, ho0, hb⟩; refine ⟨_, rfl, ?_⟩; have n0_ := Aside0.mk (Kd.R_below HO1017.out hb); have n1_ := Aside0.mk (Kd.R_below HO1020.out hb); have n2_ := Aside0.mk (Kd.R_below HO1024.out hb); have n3_ := Aside0.mk (Kd.R_below HO1027.out hb); have n4_ := Aside0.mk (Kd.R_lower (Kd.R_mono (Kd.R_bound ho0) (fun k_ hk_ => (⟨hk_.2.1, hk_.2.2.1⟩ : w44.heap.size ≤ k_ ∧ k_ < w46.heap.size))) HB.out.size); have n5_ := Aside0.mk (below_step HB.out hb); have n6_ := Aside0.mk (hb.size); clear HO1017; clear HO1020; clear HO1024; clear HO1027; clear HB; have HO1017 := n0_; have HO1020 := n1_; have HO1024 := n2_; have HO1027 := n3_; have HO1030 := n4_; have HB := n5_; have Zw46 := n6_; clear n0_ n1_ n2_ n3_ n4_ n5_ n6_; (try clear hb); (try clear hkp); (try clear hd_); (try clear ho0); obtain ⟨Ao47, co47, eo47⟩ := Kd.R_slice HO1030.out; subst eo47) | ((with_reducible refine gate_callee (f := 48) rfl ?_); refine goesL_ (some 37) rfl rfl Try.func48 (by kernel_rfl) rfl #[.slice Ao45 t1025.length co45, .slice Ao47 t1028.length co47] rfl (by (try simp only [List.map_toArray, List.map_cons, List.map_nil]); first | done | rfl) ?_; (with_reducible refine (impl_MultiplyWhole.calls k (fun k_ => w42.heap.size ≤ k_ ∧ k_ < w44.heap.size) _ _ t1025 (fun k_ => w44.heap.size ≤ k_ ∧ k_ < w46.heap.size) _ _ t1028 t1031 t1034 _ ?side1 ?side2 A10.out).mono ?_); (case side1 => exact Kd.R_V HO1027.out); (case side2 => exact Kd.R_V HO1030.out); rintro e w48 ⟨v1032, rfl, ho0, hb⟩; refine ⟨_, rfl, ?_⟩; have n0_ := Aside0.mk (Kd.R_below HO1017.out hb); have n1_ := Aside0.mk (Kd.R_below HO1020.out hb); have n2_ := Aside0.mk (Kd.R_below HO1024.out hb); have n3_ := Aside0.mk (Kd.R_below HO1027.out hb); have n4_ := Aside0.mk (Kd.R_below HO1030.out hb); have n5_ := Aside0.mk (Kd.R_lower (Kd.R_mono (Kd.R_bound ho0) (fun k_ hk_ => (⟨hk_.2.1, hk_.2.2.1⟩ : w46.heap.size ≤ k_ ∧ k_ < w48.heap.size))) HB.out.size); have n6_ := Aside0.mk (below_step HB.out hb); have n7_ := Aside0.mk (hb.size); clear HO1017; clear HO1020; clear HO1024; clear HO1027; clear HO1030; clear HB; have HO1017 := n0_; have HO1020 := n1_; have HO1024 := n2_; have HO1027 := n3_; have HO1030 := n4_; have HO1033 := n5_; have HB := n6_; have Zw48 := n7_; clear n0_ n1_ n2_ n3_ n4_ n5_ n6_ n7_; (try clear hb); (try clear hkp); (try clear hd_); (try clear ho0); obtain ⟨Ao49, co49, eo49⟩ := Kd.R_slice HO1033.out; subst eo49) | ((with_reducible refine gate_callee (f := 18) rfl ?_); refine goesL_ (some 42) rfl rfl Try.func18 (by kernel_rfl) rfl #[.slice Ao49 t1031.length co49, .slice Ao43 t1021.length co43] rfl (by (try simp only [List.map_toArray, List.map_cons, List.map_nil]); first | done | rfl) ?_; (with_reducible refine (laws_eqInt64S.calls k _ _ t1031 _ _ t1021 true _ ?side1 ?side2 ?side3 ?side4 A11.out).mono ?_); (case side1 => exact (Kd.R_reads' HO1033.out).2.2); (case side2 => (have e_ := Kd.R_reads' HO1033.out; have e1_ := e_.1; have e2_ := e_.2.1; omega)); (case side3 => exact (Kd.R_reads' HO1024.out).2.2); (case side4 => (have e_ := Kd.R_reads' HO1024.out; have e1_ := e_.1; have e2_ := e_.2.1; omega)); rintro e w50 ⟨rfl, hd_⟩; refine ⟨_, rfl, ?_⟩; have hb := hd_.below; have n0_ := Aside0.mk (Kd.R_below HO1017.out hb); have n1_ := Aside0.mk (Kd.R_below HO1020.out hb); have n2_ := Aside0.mk (Kd.R_below HO1024.out hb); have n3_ := Aside0.mk (Kd.R_below HO1027.out hb); have n4_ := Aside0.mk (Kd.R_below HO1030.out hb); have n5_ := Aside0.mk (Kd.R_below HO1033.out hb); have n6_ := Aside0.mk (below_step HB.out hb); have n7_ := Aside0.mk (hb.size); clear HO1017; clear HO1020; clear HO1024; clear HO1027; clear HO1030; clear HO1033; clear HB; have HO1017 := n0_; have HO1020 := n1_; have HO1024 := n2_; have HO1027 := n3_; have HO1030 := n4_; have HO1033 := n5_; have HB := n6_; have Zw50 := n7_; clear n0_ n1_ n2_ n3_ n4_ n5_ n6_ n7_; (try clear hb); (try clear hkp); (try clear hd_)) | ((with_reducible refine gate_callee (f := 16) rfl ?_); refine goesL_ (some 51) rfl rfl Try.func16 (by kernel_rfl) rfl #[.slice A0 l0.length c0] rfl (by (try simp only [List.map_toArray, List.map_cons, List.map_nil]); first | done | rfl) ?_; (with_reducible refine (laws_toInt64S.calls k _ _ l0 t1036 _ ?side1 ?side2 A14.out).mono ?_); (case side1 => exact (Kd.C_below HR0.out HB.out)); (case side2 => exact HC0.out); rintro e w51 ⟨v1037, rfl, ho0, hb⟩; refine ⟨_, rfl, ?_⟩; have n0_ := Aside0.mk (Kd.R_below HO1017.out hb); have n1_ := Aside0.mk (Kd.R_below HO1020.out hb); have n2_ := Aside0.mk (Kd.R_below HO1024.out hb); have n3_ := Aside0.mk (Kd.R_below HO1027.out hb); have n4_ := Aside0.mk (Kd.R_below HO1030.out hb); have n5_ := Aside0.mk (Kd.R_below HO1033.out hb); have n6_ := Aside0.mk (Kd.R_lower (Kd.R_mono (Kd.R_bound ho0) (fun k_ hk_ => (⟨hk_.2.1, hk_.2.2.1⟩ : w50.heap.size ≤ k_ ∧ k_ < w51.heap.size))) HB.out.size); have n7_ := Aside0.mk (below_step HB.out hb); have n8_ := Aside0.mk (hb.size); clear HO1017; clear HO1020; clear HO1024; clear HO1027; clear HO1030; clear HO1033; clear HB; have HO1017 := n0_; have HO1020 := n1_; have HO1024 := n2_; have HO1027 := n3_; have HO1030 := n4_; have HO1033 := n5_; have HO1038 := n6_; have HB := n7_; have Zw51 := n8_; clear n0_ n1_ n2_ n3_ n4_ n5_ n6_ n7_ n8_; (try clear hb); (try clear hkp); (try clear hd_); (try clear ho0); obtain ⟨Ao52, co52, eo52⟩ := Kd.R_slice HO1038.out; subst eo52) | ((with_reducible refine gate_callee (f := 18) rfl ?_); refine goesL_ (some 52) rfl rfl Try.func18 (by kernel_rfl) rfl #[.slice Ao45 t1025.length co45, .slice Ao52 t1036.length co52] rfl (by (try simp only [List.map_toArray, List.map_cons, List.map_nil]); first | done | rfl) ?_; (with_reducible refine (laws_eqInt64S.calls k _ _ t1025 _ _ t1036 true _ ?side1 ?side2 ?side3 ?side4 A15.out).mono ?_); (case side1 => exact (Kd.R_reads' HO1027.out).2.2); (case side2 => (have e_ := Kd.R_reads' HO1027.out; have e1_ := e_.1; have e2_ := e_.2.1; omega)); (case side3 => exact (Kd.R_reads' HO1038.out).2.2); (case side4 => (have e_ := Kd.R_reads' HO1038.out; have e1_ := e_.1; have e2_ := e_.2.1; omega)); rintro e w53 ⟨rfl, hd_⟩; refine ⟨_, rfl, ?_⟩; have hb := hd_.below; have n0_ := Aside0.mk (Kd.R_below HO1017.out hb); have n1_ := Aside0.mk (Kd.R_below HO1020.out hb); have n2_ := Aside0.mk (Kd.R_below HO1024.out hb); have n3_ := Aside0.mk (Kd.R_below HO1027.out hb); have n4_ := Aside0.mk (Kd.R_below HO1030.out hb); have n5_ := Aside0.mk (Kd.R_below HO1033.out hb); have n6_ := Aside0.mk (Kd.R_below HO1038.out hb); have n7_ := Aside0.mk (below_step HB.out hb); have n8_ := Aside0.mk (hb.size); clear HO1017; clear HO1020; clear HO1024; clear HO1027; clear HO1030; clear HO1033; clear HO1038; clear HB; have HO1017 := n0_; have HO1020 := n1_; have HO1024 := n2_; have HO1027 := n3_; have HO1030 := n4_; have HO1033 := n5_; have HO1038 := n6_; have HB := n7_; have Zw53 := n8_; clear n0_ n1_ n2_ n3_ n4_ n5_ n6_ n7_ n8_; (try clear hb); (try clear hkp); (try clear hd_)) | ((with_reducible refine gate_callee (f := 16) rfl ?_); refine goesL_ (some 56) rfl rfl Try.func16 (by kernel_rfl) rfl #[.slice A1 l1.length c1] rfl (by (try simp only [List.map_toArray, List.map_cons, List.map_nil]); first | done | rfl) ?_; (with_reducible refine (laws_toInt64S.calls k _ _ l1 t1040 _ ?side1 ?side2 A17.out).mono ?_); (case side1 => exact (Kd.C_below HR1.out HB.out)); (case side2 => exact HC1.out); rintro e w54 ⟨v1041, rfl, ho0, hb⟩; refine ⟨_, rfl, ?_⟩; have n0_ := Aside0.mk (Kd.R_below HO1017.out hb); have n1_ := Aside0.mk (Kd.R_below HO1020.out hb); have n2_ := Aside0.mk (Kd.R_below HO1024.out hb); have n3_ := Aside0.mk (Kd.R_below HO1027.out hb); have n4_ := Aside0.mk (Kd.R_below HO1030.out hb); have n5_ := Aside0.mk (Kd.R_below HO1033.out hb); have n6_ := Aside0.mk (Kd.R_below HO1038.out hb); have n7_ := Aside0.mk (Kd.R_lower (Kd.R_mono (Kd.R_bound ho0) (fun k_ hk_ => (⟨hk_.2.1, hk_.2.2.1⟩ : w53.heap.size ≤ k_ ∧ k_ < w54.heap.size))) HB.out.size); have n8_ := Aside0.mk (below_step HB.out hb); have n9_ := Aside0.mk (hb.size); clear HO1017; clear HO1020; clear HO1024; clear HO1027; clear HO1030; clear HO1033; clear HO1038; clear HB; have HO1017 := n0_; have HO1020 := n1_; have HO1024 := n2_; have HO1027 := n3_; have HO1030 := n4_; have HO1033 := n5_; have HO1038 := n6_; have HO1042 := n7_; have HB := n8_; have Zw54 := n9_; clear n0_ n1_ n2_ n3_ n4_ n5_ n6_ n7_ n8_ n9_; (try clear hb); (try clear hkp); (try clear hd_); (try clear ho0); obtain ⟨Ao55, co55, eo55⟩ := Kd.R_slice HO1042.out; subst eo55) | ((with_reducible refine gate_callee (f := 18) rfl ?_); refine goesL_ (some 57) rfl rfl Try.func18 (by kernel_rfl) rfl #[.slice Ao47 t1028.length co47, .slice Ao55 t1040.length co55] rfl (by (try simp only [List.map_toArray, List.map_cons, List.map_nil]); first | done | rfl) ?_; (with_reducible refine (laws_eqInt64S.calls k _ _ t1028 _ _ t1040 true _ ?side1 ?side2 ?side3 ?side4 A18.out).mono ?_); (case side1 => exact (Kd.R_reads' HO1030.out).2.2); (case side2 => (have e_ := Kd.R_reads' HO1030.out; have e1_ := e_.1; have e2_ := e_.2.1; omega)); (case side3 => exact (Kd.R_reads' HO1042.out).2.2); (case side4 => (have e_ := Kd.R_reads' HO1042.out; have e1_ := e_.1; have e2_ := e_.2.1; omega)); rintro e w56 ⟨rfl, hd_⟩; refine ⟨_, rfl, ?_⟩; have hb := hd_.below; have n0_ := Aside0.mk (Kd.R_below HO1017.out hb); have n1_ := Aside0.mk (Kd.R_below HO1020.out hb); have n2_ := Aside0.mk (Kd.R_below HO1024.out hb); have n3_ := Aside0.mk (Kd.R_below HO1027.out hb); have n4_ := Aside0.mk (Kd.R_below HO1030.out hb); have n5_ := Aside0.mk (Kd.R_below HO1033.out hb); have n6_ := Aside0.mk (Kd.R_below HO1038.out hb); have n7_ := Aside0.mk (Kd.R_below HO1042.out hb); have n8_ := Aside0.mk (below_step HB.out hb); have n9_ := Aside0.mk (hb.size); clear HO1017; clear HO1020; clear HO1024; clear HO1027; clear HO1030; clear HO1033; clear HO1038; clear HO1042; clear HB; have HO1017 := n0_; have HO1020 := n1_; have HO1024 := n2_; have HO1027 := n3_; have HO1030 := n4_; have HO1033 := n5_; have HO1038 := n6_; have HO1042 := n7_; have HB := n8_; have Zw56 := n9_; clear n0_ n1_ n2_ n3_ n4_ n5_ n6_ n7_ n8_ n9_; (try clear hb); (try clear hkp); (try clear hd_)) | ((with_reducible refine gate_callee (f := 33) rfl ?_); refine goesL_ (some 61) rfl rfl Try.func33 (by kernel_rfl) rfl #[.slice Ao45 t1025.length co45, .int .i64 1] rfl (by (try simp only [List.map_toArray, List.map_cons, List.map_nil]); first | done | rfl) ?_; (with_reducible refine (laws_markInt64S.calls k (fun k_ => w42.heap.size ≤ k_ ∧ k_ < w44.heap.size) (.slice Ao45 t1025.length co45) t1025 1 t1044 t1045 w _ ?side1 ?side2 A20.out).mono ?_); (case side1 => exact HB.out); (case side2 => exact HO1027.out); rintro e w57 ⟨rfl, hy0, hb, hkp⟩; refine ⟨_, rfl, ?_⟩; have n0_ := Aside0.mk (Kd.R_step HO1017.out (fun k_ ho_ hl_ => hkp.2 k_ hl_ (fun hs_ => by have h1_ := ho_.1; have h2_ := ho_.2; have z0_ := Zw38.out; have z1_ := Zw40.out; have z2_ := Zw42.out; have z3_ := Zw44.out; have z4_ := Zw46.out; have z5_ := Zw48.out; have z6_ := Zw50.out; have z7_ := Zw51.out; have z8_ := Zw53.out; have z9_ := Zw54.out; have z10_ := Zw56.out; have h3_ := hs_.1; have h4_ := hs_.2; omega))); have n1_ := Aside0.mk (Kd.R_step HO1020.out (fun k_ ho_ hl_ => hkp.2 k_ hl_ (fun hs_ => by have h1_ := ho_.1; have h2_ := ho_.2; have z0_ := Zw38.out; have z1_ := Zw40.out; have z2_ := Zw42.out; have z3_ := Zw44.out; have z4_ := Zw46.out; have z5_ := Zw48.out; have z6_ := Zw50.out; have z7_ := Zw51.out; have z8_ := Zw53.out; have z9_ := Zw54.out; have z10_ := Zw56.out; have h3_ := hs_.1; have h4_ := hs_.2; omega))); have n2_ := Aside0.mk (Kd.R_step HO1024.out (fun k_ ho_ hl_ => hkp.2 k_ hl_ (fun hs_ => by have h1_ := ho_.1; have h2_ := ho_.2; have z0_ := Zw38.out; have z1_ := Zw40.out; have z2_ := Zw42.out; have z3_ := Zw44.out; have z4_ := Zw46.out; have z5_ := Zw48.out; have z6_ := Zw50.out; have z7_ := Zw51.out; have z8_ := Zw53.out; have z9_ := Zw54.out; have z10_ := Zw56.out; have h3_ := hs_.1; have h4_ := hs_.2; omega))); have n3_ := Aside0.mk (Kd.R_reok rfl hy0 (fun k_ e_ => HO1027.out.1 k_ e_)); have n4_ := Aside0.mk (Kd.R_step HO1030.out (fun k_ ho_ hl_ => hkp.2 k_ hl_ (fun hs_ => by have h1_ := ho_.1; have h2_ := ho_.2; have z0_ := Zw38.out; have z1_ := Zw40.out; have z2_ := Zw42.out; have z3_ := Zw44.out; have z4_ := Zw46.out; have z5_ := Zw48.out; have z6_ := Zw50.out; have z7_ := Zw51.out; have z8_ := Zw53.out; have z9_ := Zw54.out; have z10_ := Zw56.out; have h3_ := hs_.1; have h4_ := hs_.2; omega))); have n5_ := Aside0.mk (Kd.R_step HO1033.out (fun k_ ho_ hl_ => hkp.2 k_ hl_ (fun hs_ => by have h1_ := ho_.1; have h2_ := ho_.2; have z0_ := Zw38.out; have z1_ := Zw40.out; have z2_ := Zw42.out; have z3_ := Zw44.out; have z4_ := Zw46.out; have z5_ := Zw48.out; have z6_ := Zw50.out; have z7_ := Zw51.out; have z8_ := Zw53.out; have z9_ := Zw54.out; have z10_ := Zw56.out; have h3_ := hs_.1; have h4_ := hs_.2; omega))); have n6_ := Aside0.mk (Kd.R_step HO1038.out (fun k_ ho_ hl_ => hkp.2 k_ hl_ (fun hs_ => by have h1_ := ho_.1; have h2_ := ho_.2; have z0_ := Zw38.out; have z1_ := Zw40.out; have z2_ := Zw42.out; have z3_ := Zw44.out; have z4_ := Zw46.out; have z5_ := Zw48.out; have z6_ := Zw50.out; have z7_ := Zw51.out; have z8_ := Zw53.out; have z9_ := Zw54.out; have z10_ := Zw56.out; have h3_ := hs_.1; have h4_ := hs_.2; omega))); have n7_ := Aside0.mk (Kd.R_step HO1042.out (fun k_ ho_ hl_ => hkp.2 k_ hl_ (fun hs_ => by have h1_ := ho_.1; have h2_ := ho_.2; have z0_ := Zw38.out; have z1_ := Zw40.out; have z2_ := Zw42.out; have z3_ := Zw44.out; have z4_ := Zw46.out; have z5_ := Zw48.out; have z6_ := Zw50.out; have z7_ := Zw51.out; have z8_ := Zw53.out; have z9_ := Zw54.out; have z10_ := Zw56.out; have h3_ := hs_.1; have h4_ := hs_.2; omega))); have n8_ := Aside0.mk (hb); have n9_ := Aside0.mk (hkp.1); clear HO1017; clear HO1020; clear HO1024; clear HO1027; clear HO1030; clear HO1033; clear HO1038; clear HO1042; clear HB; have HO1017 := n0_; have HO1020 := n1_; have HO1024 := n2_; have HO1027 := n3_; have HO1030 := n4_; have HO1033 := n5_; have HO1038 := n6_; have HO1042 := n7_; have HB := n8_; have Zw57 := n9_; clear n0_ n1_ n2_ n3_ n4_ n5_ n6_ n7_ n8_ n9_; (try clear hb); (try clear hkp); (try clear hd_); (try clear hy0)) | ((with_reducible refine gate_callee (f := 33) rfl ?_); refine goesL_ (some 64) rfl rfl Try.func33 (by kernel_rfl) rfl #[.slice Ao47 t1028.length co47, .int .i64 t1044] rfl (by (try simp only [List.map_toArray, List.map_cons, List.map_nil]); first | done | rfl) ?_; (with_reducible refine (laws_markInt64S.calls k (fun k_ => w44.heap.size ≤ k_ ∧ k_ < w46.heap.size) (.slice Ao47 t1028.length co47) t1028 t1044 t1046 t1047 w _ ?side1 ?side2 A21.out).mono ?_); (case side1 => exact HB.out); (case side2 => exact HO1030.out); rintro e w58 ⟨rfl, hy0, hb, hkp⟩; refine ⟨_, rfl, ?_⟩; have n0_ := Aside0.mk (Kd.R_step HO1017.out (fun k_ ho_ hl_ => hkp.2 k_ hl_ (fun hs_ => by have h1_ := ho_.1; have h2_ := ho_.2; have z0_ := Zw38.out; have z1_ := Zw40.out; have z2_ := Zw42.out; have z3_ := Zw44.out; have z4_ := Zw46.out; have z5_ := Zw48.out; have z6_ := Zw50.out; have z7_ := Zw51.out; have z8_ := Zw53.out; have z9_ := Zw54.out; have z10_ := Zw56.out; have z11_ := Zw57.out; have h3_ := hs_.1; have h4_ := hs_.2; omega))); have n1_ := Aside0.mk (Kd.R_step HO1020.out (fun k_ ho_ hl_ => hkp.2 k_ hl_ (fun hs_ => by have h1_ := ho_.1; have h2_ := ho_.2; have z0_ := Zw38.out; have z1_ := Zw40.out; have z2_ := Zw42.out; have z3_ := Zw44.out; have z4_ := Zw46.out; have z5_ := Zw48.out; have z6_ := Zw50.out; have z7_ := Zw51.out; have z8_ := Zw53.out; have z9_ := Zw54.out; have z10_ := Zw56.out; have z11_ := Zw57.out; have h3_ := hs_.1; have h4_ := hs_.2; omega))); have n2_ := Aside0.mk (Kd.R_step HO1024.out (fun k_ ho_ hl_ => hkp.2 k_ hl_ (fun hs_ => by have h1_ := ho_.1; have h2_ := ho_.2; have z0_ := Zw38.out; have z1_ := Zw40.out; have z2_ := Zw42.out; have z3_ := Zw44.out; have z4_ := Zw46.out; have z5_ := Zw48.out; have z6_ := Zw50.out; have z7_ := Zw51.out; have z8_ := Zw53.out; have z9_ := Zw54.out; have z10_ := Zw56.out; have z11_ := Zw57.out; have h3_ := hs_.1; have h4_ := hs_.2; omega))); have n3_ := Aside0.mk (Kd.R_step HO1027.out (fun k_ ho_ hl_ => hkp.2 k_ hl_ (fun hs_ => by have h1_ := ho_.1; have h2_ := ho_.2; have z0_ := Zw38.out; have z1_ := Zw40.out; have z2_ := Zw42.out; have z3_ := Zw44.out; have z4_ := Zw46.out; have z5_ := Zw48.out; have z6_ := Zw50.out; have z7_ := Zw51.out; have z8_ := Zw53.out; have z9_ := Zw54.out; have z10_ := Zw56.out; have z11_ := Zw57.out; have h3_ := hs_.1; have h4_ := hs_.2; omega))); have n4_ := Aside0.mk (Kd.R_reok rfl hy0 (fun k_ e_ => HO1030.out.1 k_ e_)); have n5_ := Aside0.mk (Kd.R_step HO1033.out (fun k_ ho_ hl_ => hkp.2 k_ hl_ (fun hs_ => by have h1_ := ho_.1; have h2_ := ho_.2; have z0_ := Zw38.out; have z1_ := Zw40.out; have z2_ := Zw42.out; have z3_ := Zw44.out; have z4_ := Zw46.out; have z5_ := Zw48.out; have z6_ := Zw50.out; have z7_ := Zw51.out; have z8_ := Zw53.out; have z9_ := Zw54.out; have z10_ := Zw56.out; have z11_ := Zw57.out; have h3_ := hs_.1; have h4_ := hs_.2; omega))); have n6_ := Aside0.mk (Kd.R_step HO1038.out (fun k_ ho_ hl_ => hkp.2 k_ hl_ (fun hs_ => by have h1_ := ho_.1; have h2_ := ho_.2; have z0_ := Zw38.out; have z1_ := Zw40.out; have z2_ := Zw42.out; have z3_ := Zw44.out; have z4_ := Zw46.out; have z5_ := Zw48.out; have z6_ := Zw50.out; have z7_ := Zw51.out; have z8_ := Zw53.out; have z9_ := Zw54.out; have z10_ := Zw56.out; have z11_ := Zw57.out; have h3_ := hs_.1; have h4_ := hs_.2; omega))); have n7_ := Aside0.mk (Kd.R_step HO1042.out (fun k_ ho_ hl_ => hkp.2 k_ hl_ (fun hs_ => by have h1_ := ho_.1; have h2_ := ho_.2; have z0_ := Zw38.out; have z1_ := Zw40.out; have z2_ := Zw42.out; have z3_ := Zw44.out; have z4_ := Zw46.out; have z5_ := Zw48.out; have z6_ := Zw50.out; have z7_ := Zw51.out; have z8_ := Zw53.out; have z9_ := Zw54.out; have z10_ := Zw56.out; have z11_ := Zw57.out; have h3_ := hs_.1; have h4_ := hs_.2; omega))); have n8_ := Aside0.mk (hb); have n9_ := Aside0.mk (hkp.1); clear HO1017; clear HO1020; clear HO1024; clear HO1027; clear HO1030; clear HO1033; clear HO1038; clear HO1042; clear HB; have HO1017 := n0_; have HO1020 := n1_; have HO1024 := n2_; have HO1027 := n3_; have HO1030 := n4_; have HO1033 := n5_; have HO1038 := n6_; have HO1042 := n7_; have HB := n8_; have Zw58 := n9_; clear n0_ n1_ n2_ n3_ n4_ n5_ n6_ n7_ n8_ n9_; (try clear hb); (try clear hkp); (try clear hd_); (try clear hy0)) | (go_at_call 18; (with_reducible refine (laws_eqInt64S.calls k _ _ t1031 _ _ t1021 true _ ?side1 ?side2 ?side3 ?side4 A23.out).mono ?_); (case side1 => exact (Kd.R_reads' HO1033.out).2.2); (case side2 => (have e_ := Kd.R_reads' HO1033.out; have e1_ := e_.1; have e2_ := e_.2.1; omega)); (case side3 => exact (Kd.R_reads' HO1024.out).2.2); (case side4 => (have e_ := Kd.R_reads' HO1024.out; have e1_ := e_.1; have e2_ := e_.2.1; omega)); rintro e w59 ⟨rfl, hd_⟩; have hb := hd_.below; have n0_ := Aside0.mk (Kd.R_below HO1017.out hb); have n1_ := Aside0.mk (Kd.R_below HO1020.out hb); have n2_ := Aside0.mk (Kd.R_below HO1024.out hb); have n3_ := Aside0.mk (Kd.R_below HO1027.out hb); have n4_ := Aside0.mk (Kd.R_below HO1030.out hb); have n5_ := Aside0.mk (Kd.R_below HO1033.out hb); have n6_ := Aside0.mk (Kd.R_below HO1038.out hb); have n7_ := Aside0.mk (Kd.R_below HO1042.out hb); have n8_ := Aside0.mk (below_step HB.out hb); have n9_ := Aside0.mk (hb.size); clear HO1017; clear HO1020; clear HO1024; clear HO1027; clear HO1030; clear HO1033; clear HO1038; clear HO1042; clear HB; have HO1017 := n0_; have HO1020 := n1_; have HO1024 := n2_; have HO1027 := n3_; have HO1030 := n4_; have HO1033 := n5_; have HO1038 := n6_; have HO1042 := n7_; have HB := n8_; have Zw59 := n9_; clear n0_ n1_ n2_ n3_ n4_ n5_ n6_ n7_ n8_ n9_; (try clear hb); (try clear hkp); (try clear hd_)) | ((with_reducible refine gate_callee (f := 33) rfl ?_); refine goesL_ (some 80) rfl rfl Try.func33 (by kernel_rfl) rfl #[.slice Ao49 t1031.length co49, .int .i64 1] rfl (by (try simp only [List.map_toArray, List.map_cons, List.map_nil]); first | done | rfl) ?_; (with_reducible refine (laws_markInt64S.calls k (fun k_ => w46.heap.size ≤ k_ ∧ k_ < w48.heap.size) (.slice Ao49 t1031.length co49) t1031 1 t1049 t1050 w _ ?side1 ?side2 A25.out).mono ?_); (case side1 => exact HB.out); (case side2 => exact HO1033.out); rintro e w60 ⟨rfl, hy0, hb, hkp⟩; refine ⟨_, rfl, ?_⟩; have n0_ := Aside0.mk (Kd.R_step HO1017.out (fun k_ ho_ hl_ => hkp.2 k_ hl_ (fun hs_ => by have h1_ := ho_.1; have h2_ := ho_.2; have z0_ := Zw38.out; have z1_ := Zw40.out; have z2_ := Zw42.out; have z3_ := Zw44.out; have z4_ := Zw46.out; have z5_ := Zw48.out; have z6_ := Zw50.out; have z7_ := Zw51.out; have z8_ := Zw53.out; have z9_ := Zw54.out; have z10_ := Zw56.out; have z11_ := Zw57.out; have z12_ := Zw58.out; have z13_ := Zw59.out; have h3_ := hs_.1; have h4_ := hs_.2; omega))); have n1_ := Aside0.mk (Kd.R_step HO1020.out (fun k_ ho_ hl_ => hkp.2 k_ hl_ (fun hs_ => by have h1_ := ho_.1; have h2_ := ho_.2; have z0_ := Zw38.out; have z1_ := Zw40.out; have z2_ := Zw42.out; have z3_ := Zw44.out; have z4_ := Zw46.out; have z5_ := Zw48.out; have z6_ := Zw50.out; have z7_ := Zw51.out; have z8_ := Zw53.out; have z9_ := Zw54.out; have z10_ := Zw56.out; have z11_ := Zw57.out; have z12_ := Zw58.out; have z13_ := Zw59.out; have h3_ := hs_.1; have h4_ := hs_.2; omega))); have n2_ := Aside0.mk (Kd.R_step HO1024.out (fun k_ ho_ hl_ => hkp.2 k_ hl_ (fun hs_ => by have h1_ := ho_.1; have h2_ := ho_.2; have z0_ := Zw38.out; have z1_ := Zw40.out; have z2_ := Zw42.out; have z3_ := Zw44.out; have z4_ := Zw46.out; have z5_ := Zw48.out; have z6_ := Zw50.out; have z7_ := Zw51.out; have z8_ := Zw53.out; have z9_ := Zw54.out; have z10_ := Zw56.out; have z11_ := Zw57.out; have z12_ := Zw58.out; have z13_ := Zw59.out; have h3_ := hs_.1; have h4_ := hs_.2; omega))); have n3_ := Aside0.mk (Kd.R_step HO1027.out (fun k_ ho_ hl_ => hkp.2 k_ hl_ (fun hs_ => by have h1_ := ho_.1; have h2_ := ho_.2; have z0_ := Zw38.out; have z1_ := Zw40.out; have z2_ := Zw42.out; have z3_ := Zw44.out; have z4_ := Zw46.out; have z5_ := Zw48.out; have z6_ := Zw50.out; have z7_ := Zw51.out; have z8_ := Zw53.out; have z9_ := Zw54.out; have z10_ := Zw56.out; have z11_ := Zw57.out; have z12_ := Zw58.out; have z13_ := Zw59.out; have h3_ := hs_.1; have h4_ := hs_.2; omega))); have n4_ := Aside0.mk (Kd.R_step HO1030.out (fun k_ ho_ hl_ => hkp.2 k_ hl_ (fun hs_ => by have h1_ := ho_.1; have h2_ := ho_.2; have z0_ := Zw38.out; have z1_ := Zw40.out; have z2_ := Zw42.out; have z3_ := Zw44.out; have z4_ := Zw46.out; have z5_ := Zw48.out; have z6_ := Zw50.out; have z7_ := Zw51.out; have z8_ := Zw53.out; have z9_ := Zw54.out; have z10_ := Zw56.out; have z11_ := Zw57.out; have z12_ := Zw58.out; have z13_ := Zw59.out; have h3_ := hs_.1; have h4_ := hs_.2; omega))); have n5_ := Aside0.mk (Kd.R_reok rfl hy0 (fun k_ e_ => HO1033.out.1 k_ e_)); have n6_ := Aside0.mk (Kd.R_step HO1038.out (fun k_ ho_ hl_ => hkp.2 k_ hl_ (fun hs_ => by have h1_ := ho_.1; have h2_ := ho_.2; have z0_ := Zw38.out; have z1_ := Zw40.out; have z2_ := Zw42.out; have z3_ := Zw44.out; have z4_ := Zw46.out; have z5_ := Zw48.out; have z6_ := Zw50.out; have z7_ := Zw51.out; have z8_ := Zw53.out; have z9_ := Zw54.out; have z10_ := Zw56.out; have z11_ := Zw57.out; have z12_ := Zw58.out; have z13_ := Zw59.out; have h3_ := hs_.1; have h4_ := hs_.2; omega))); have n7_ := Aside0.mk (Kd.R_step HO1042.out (fun k_ ho_ hl_ => hkp.2 k_ hl_ (fun hs_ => by have h1_ := ho_.1; have h2_ := ho_.2; have z0_ := Zw38.out; have z1_ := Zw40.out; have z2_ := Zw42.out; have z3_ := Zw44.out; have z4_ := Zw46.out; have z5_ := Zw48.out; have z6_ := Zw50.out; have z7_ := Zw51.out; have z8_ := Zw53.out; have z9_ := Zw54.out; have z10_ := Zw56.out; have z11_ := Zw57.out; have z12_ := Zw58.out; have z13_ := Zw59.out; have h3_ := hs_.1; have h4_ := hs_.2; omega))); have n8_ := Aside0.mk (hb); have n9_ := Aside0.mk (hkp.1); clear HO1017; clear HO1020; clear HO1024; clear HO1027; clear HO1030; clear HO1033; clear HO1038; clear HO1042; clear HB; have HO1017 := n0_; have HO1020 := n1_; have HO1024 := n2_; have HO1027 := n3_; have HO1030 := n4_; have HO1033 := n5_; have HO1038 := n6_; have HO1042 := n7_; have HB := n8_; have Zw60 := n9_; clear n0_ n1_ n2_ n3_ n4_ n5_ n6_ n7_ n8_ n9_; (try clear hb); (try clear hkp); (try clear hd_); (try clear hy0)) | ((with_reducible refine gate_callee (f := 34) rfl ?_); refine goesL_ (some 83) rfl rfl Try.func34 (by kernel_rfl) rfl #[.slice Ao49 t1031.length co49, .int .i64 1] rfl (by (try simp only [List.map_toArray, List.map_cons, List.map_nil]); first | done | rfl) ?_; refine calls_of_args (args' := #[.slice Ao49 t1050.length co49, .int .i64 1]) (by first | rfl | (rw [show t1031.length = t1050.length from (Kd.R_reads' HO1033.out).1] <;> rfl) | (simp only [show t1031.length = t1050.length from (Kd.R_reads' HO1033.out).1])) ?_; (with_reducible refine (laws_heldInt64S.calls k _ _ t1050 1 t1051 _ ?side1 ?side2 A26.out).mono ?_); (case side1 => exact (Kd.R_reads' HO1033.out).2.2); (case side2 => (have e_ := Kd.R_reads' HO1033.out; have e1_ := e_.1; have e2_ := e_.2.1; omega)); rintro e w61 ⟨rfl, hd_⟩; refine ⟨_, rfl, ?_⟩; have hb := hd_.below; have n0_ := Aside0.mk (Kd.R_below HO1017.out hb); have n1_ := Aside0.mk (Kd.R_below HO1020.out hb); have n2_ := Aside0.mk (Kd.R_below HO1024.out hb); have n3_ := Aside0.mk (Kd.R_below HO1027.out hb); have n4_ := Aside0.mk (Kd.R_below HO1030.out hb); have n5_ := Aside0.mk (Kd.R_below HO1033.out hb); have n6_ := Aside0.mk (Kd.R_below HO1038.out hb); have n7_ := Aside0.mk (Kd.R_below HO1042.out hb); have n8_ := Aside0.mk (below_step HB.out hb); have n9_ := Aside0.mk (hb.size); clear HO1017; clear HO1020; clear HO1024; clear HO1027; clear HO1030; clear HO1033; clear HO1038; clear HO1042; clear HB; have HO1017 := n0_; have HO1020 := n1_; have HO1024 := n2_; have HO1027 := n3_; have HO1030 := n4_; have HO1033 := n5_; have HO1038 := n6_; have HO1042 := n7_; have HB := n8_; have Zw61 := n9_; clear n0_ n1_ n2_ n3_ n4_ n5_ n6_ n7_ n8_ n9_; (try clear hb); (try clear hkp); (try clear hd_)) | ((with_reducible refine gate_callee (f := 16) rfl ?_); refine goesL_ (some 91) rfl rfl Try.func16 (by kernel_rfl) rfl #[.slice A0 l0.length c0] rfl (by (try simp only [List.map_toArray, List.map_cons, List.map_nil]); first | done | rfl) ?_; (with_reducible refine (laws_toInt64S.calls k _ _ l0 t1052 _ ?side1 ?side2 A29.out).mono ?_); (case side1 => exact (Kd.C_below HR0.out HB.out)); (case side2 => exact HC0.out); rintro e w62 ⟨v1053, rfl, ho0, hb⟩; refine ⟨_, rfl, ?_⟩; have n0_ := Aside0.mk (Kd.R_below HO1017.out hb); have n1_ := Aside0.mk (Kd.R_below HO1020.out hb); have n2_ := Aside0.mk (Kd.R_below HO1024.out hb); have n3_ := Aside0.mk (Kd.R_below HO1027.out hb); have n4_ := Aside0.mk (Kd.R_below HO1030.out hb); have n5_ := Aside0.mk (Kd.R_below HO1033.out hb); have n6_ := Aside0.mk (Kd.R_below HO1038.out hb); have n7_ := Aside0.mk (Kd.R_below HO1042.out hb); have n8_ := Aside0.mk (Kd.R_lower (Kd.R_mono (Kd.R_bound ho0) (fun k_ hk_ => (⟨hk_.2.1, hk_.2.2.1⟩ : w61.heap.size ≤ k_ ∧ k_ < w62.heap.size))) HB.out.size); have n9_ := Aside0.mk (below_step HB.out hb); have n10_ := Aside0.mk (hb.size); clear HO1017; clear HO1020; clear HO1024; clear HO1027; clear HO1030; clear HO1033; clear HO1038; clear HO1042; clear HB; have HO1017 := n0_; have HO1020 := n1_; have HO1024 := n2_; have HO1027 := n3_; have HO1030 := n4_; have HO1033 := n5_; have HO1038 := n6_; have HO1042 := n7_; have HO1054 := n8_; have HB := n9_; have Zw62 := n10_; clear n0_ n1_ n2_ n3_ n4_ n5_ n6_ n7_ n8_ n9_ n10_; (try clear hb); (try clear hkp); (try clear hd_); (try clear ho0); obtain ⟨Ao63, co63, eo63⟩ := Kd.R_slice HO1054.out; subst eo63) | ((with_reducible refine gate_callee (f := 16) rfl ?_); refine goesL_ (some 93) rfl rfl Try.func16 (by kernel_rfl) rfl #[.slice A1 l1.length c1] rfl (by (try simp only [List.map_toArray, List.map_cons, List.map_nil]); first | done | rfl) ?_; (with_reducible refine (laws_toInt64S.calls k _ _ l1 t1055 _ ?side1 ?side2 A30.out).mono ?_); (case side1 => exact (Kd.C_below HR1.out HB.out)); (case side2 => exact HC1.out); rintro e w64 ⟨v1056, rfl, ho0, hb⟩; refine ⟨_, rfl, ?_⟩; have n0_ := Aside0.mk (Kd.R_below HO1017.out hb); have n1_ := Aside0.mk (Kd.R_below HO1020.out hb); have n2_ := Aside0.mk (Kd.R_below HO1024.out hb); have n3_ := Aside0.mk (Kd.R_below HO1027.out hb); have n4_ := Aside0.mk (Kd.R_below HO1030.out hb); have n5_ := Aside0.mk (Kd.R_below HO1033.out hb); have n6_ := Aside0.mk (Kd.R_below HO1038.out hb); have n7_ := Aside0.mk (Kd.R_below HO1042.out hb); have n8_ := Aside0.mk (Kd.R_below HO1054.out hb); have n9_ := Aside0.mk (Kd.R_lower (Kd.R_mono (Kd.R_bound ho0) (fun k_ hk_ => (⟨hk_.2.1, hk_.2.2.1⟩ : w62.heap.size ≤ k_ ∧ k_ < w64.heap.size))) HB.out.size); have n10_ := Aside0.mk (below_step HB.out hb); have n11_ := Aside0.mk (hb.size); clear HO1017; clear HO1020; clear HO1024; clear HO1027; clear HO1030; clear HO1033; clear HO1038; clear HO1042; clear HO1054; clear HB; have HO1017 := n0_; have HO1020 := n1_; have HO1024 := n2_; have HO1027 := n3_; have HO1030 := n4_; have HO1033 := n5_; have HO1038 := n6_; have HO1042 := n7_; have HO1054 := n8_; have HO1057 := n9_; have HB := n10_; have Zw64 := n11_; clear n0_ n1_ n2_ n3_ n4_ n5_ n6_ n7_ n8_ n9_ n10_ n11_; (try clear hb); (try clear hkp); (try clear hd_); (try clear ho0); obtain ⟨Ao65, co65, eo65⟩ := Kd.R_slice HO1057.out; subst eo65) | ((with_reducible refine gate_callee (f := 48) rfl ?_); refine goesL_ (some 94) rfl rfl Try.func48 (by kernel_rfl) rfl #[.slice Ao63 t1052.length co63, .slice Ao65 t1055.length co65] rfl (by (try simp only [List.map_toArray, List.map_cons, List.map_nil]); first | done | rfl) ?_; (with_reducible refine (impl_MultiplyWhole.calls k (fun k_ => w61.heap.size ≤ k_ ∧ k_ < w62.heap.size) _ _ t1052 (fun k_ => w62.heap.size ≤ k_ ∧ k_ < w64.heap.size) _ _ t1055 t1058 t1061 _ ?side1 ?side2 A31.out).mono ?_); (case side1 => exact Kd.R_V HO1054.out); (case side2 => exact Kd.R_V HO1057.out); rintro e w66 ⟨v1059, rfl, ho0, hb⟩; refine ⟨_, rfl, ?_⟩; have n0_ := Aside0.mk (Kd.R_below HO1017.out hb); have n1_ := Aside0.mk (Kd.R_below HO1020.out hb); have n2_ := Aside0.mk (Kd.R_below HO1024.out hb); have n3_ := Aside0.mk (Kd.R_below HO1027.out hb); have n4_ := Aside0.mk (Kd.R_below HO1030.out hb); have n5_ := Aside0.mk (Kd.R_below HO1033.out hb); have n6_ := Aside0.mk (Kd.R_below HO1038.out hb); have n7_ := Aside0.mk (Kd.R_below HO1042.out hb); have n8_ := Aside0.mk (Kd.R_below HO1054.out hb); have n9_ := Aside0.mk (Kd.R_below HO1057.out hb); have n10_ := Aside0.mk (Kd.R_lower (Kd.R_mono (Kd.R_bound ho0) (fun k_ hk_ => (⟨hk_.2.1, hk_.2.2.1⟩ : w64.heap.size ≤ k_ ∧ k_ < w66.heap.size))) HB.out.size); have n11_ := Aside0.mk (below_step HB.out hb); have n12_ := Aside0.mk (hb.size); clear HO1017; clear HO1020; clear HO1024; clear HO1027; clear HO1030; clear HO1033; clear HO1038; clear HO1042; clear HO1054; clear HO1057; clear HB; have HO1017 := n0_; have HO1020 := n1_; have HO1024 := n2_; have HO1027 := n3_; have HO1030 := n4_; have HO1033 := n5_; have HO1038 := n6_; have HO1042 := n7_; have HO1054 := n8_; have HO1057 := n9_; have HO1060 := n10_; have HB := n11_; have Zw66 := n12_; clear n0_ n1_ n2_ n3_ n4_ n5_ n6_ n7_ n8_ n9_ n10_ n11_ n12_; (try clear hb); (try clear hkp); (try clear hd_); (try clear ho0); obtain ⟨Ao67, co67, eo67⟩ := Kd.R_slice HO1060.out; subst eo67) | ((with_reducible refine gate_callee (f := 18) rfl ?_); refine goesL_ (some 99) rfl rfl Try.func18 (by kernel_rfl) rfl #[.slice Ao67 t1058.length co67, .slice Ao43 t1021.length co43] rfl (by (try simp only [List.map_toArray, List.map_cons, List.map_nil]); first | done | rfl) ?_; (with_reducible refine (laws_eqInt64S.calls k _ _ t1058 _ _ t1021 true _ ?side1 ?side2 ?side3 ?side4 A32.out).mono ?_); (case side1 => exact (Kd.R_reads' HO1060.out).2.2); (case side2 => (have e_ := Kd.R_reads' HO1060.out; have e1_ := e_.1; have e2_ := e_.2.1; omega)); (case side3 => exact (Kd.R_reads' HO1024.out).2.2); (case side4 => (have e_ := Kd.R_reads' HO1024.out; have e1_ := e_.1; have e2_ := e_.2.1; omega)); rintro e w68 ⟨rfl, hd_⟩; refine ⟨_, rfl, ?_⟩; have hb := hd_.below; have n0_ := Aside0.mk (Kd.R_below HO1017.out hb); have n1_ := Aside0.mk (Kd.R_below HO1020.out hb); have n2_ := Aside0.mk (Kd.R_below HO1024.out hb); have n3_ := Aside0.mk (Kd.R_below HO1027.out hb); have n4_ := Aside0.mk (Kd.R_below HO1030.out hb); have n5_ := Aside0.mk (Kd.R_below HO1033.out hb); have n6_ := Aside0.mk (Kd.R_below HO1038.out hb); have n7_ := Aside0.mk (Kd.R_below HO1042.out hb); have n8_ := Aside0.mk (Kd.R_below HO1054.out hb); have n9_ := Aside0.mk (Kd.R_below HO1057.out hb); have n10_ := Aside0.mk (Kd.R_below HO1060.out hb); have n11_ := Aside0.mk (below_step HB.out hb); have n12_ := Aside0.mk (hb.size); clear HO1017; clear HO1020; clear HO1024; clear HO1027; clear HO1030; clear HO1033; clear HO1038; clear HO1042; clear HO1054; clear HO1057; clear HO1060; clear HB; have HO1017 := n0_; have HO1020 := n1_; have HO1024 := n2_; have HO1027 := n3_; have HO1030 := n4_; have HO1033 := n5_; have HO1038 := n6_; have HO1042 := n7_; have HO1054 := n8_; have HO1057 := n9_; have HO1060 := n10_; have HB := n11_; have Zw68 := n12_; clear n0_ n1_ n2_ n3_ n4_ n5_ n6_ n7_ n8_ n9_ n10_ n11_ n12_; (try clear hb); (try clear hkp); (try clear hd_)) | ((with_reducible refine gate_callee (f := 34) rfl ?_); refine goesL_ (some 108) rfl rfl Try.func34 (by kernel_rfl) rfl #[.slice Ao49 t1031.length co49, .int .i64 1] rfl (by (try simp only [List.map_toArray, List.map_cons, List.map_nil]); first | done | rfl) ?_; refine calls_of_args (args' := #[.slice Ao49 t1050.length co49, .int .i64 1]) (by first | rfl | (rw [show t1031.length = t1050.length from (Kd.R_reads' HO1033.out).1] <;> rfl) | (simp only [show t1031.length = t1050.length from (Kd.R_reads' HO1033.out).1])) ?_; (with_reducible refine (laws_heldInt64S.calls k _ _ t1050 1 t1063 _ ?side1 ?side2 A35.out).mono ?_); (case side1 => exact (Kd.R_reads' HO1033.out).2.2); (case side2 => (have e_ := Kd.R_reads' HO1033.out; have e1_ := e_.1; have e2_ := e_.2.1; omega)); rintro e w69 ⟨rfl, hd_⟩; refine ⟨_, rfl, ?_⟩; have hb := hd_.below; have n0_ := Aside0.mk (Kd.R_below HO1017.out hb); have n1_ := Aside0.mk (Kd.R_below HO1020.out hb); have n2_ := Aside0.mk (Kd.R_below HO1024.out hb); have n3_ := Aside0.mk (Kd.R_below HO1027.out hb); have n4_ := Aside0.mk (Kd.R_below HO1030.out hb); have n5_ := Aside0.mk (Kd.R_below HO1033.out hb); have n6_ := Aside0.mk (Kd.R_below HO1038.out hb); have n7_ := Aside0.mk (Kd.R_below HO1042.out hb); have n8_ := Aside0.mk (Kd.R_below HO1054.out hb); have n9_ := Aside0.mk (Kd.R_below HO1057.out hb); have n10_ := Aside0.mk (Kd.R_below HO1060.out hb); have n11_ := Aside0.mk (below_step HB.out hb); have n12_ := Aside0.mk (hb.size); clear HO1017; clear HO1020; clear HO1024; clear HO1027; clear HO1030; clear HO1033; clear HO1038; clear HO1042; clear HO1054; clear HO1057; clear HO1060; clear HB; have HO1017 := n0_; have HO1020 := n1_; have HO1024 := n2_; have HO1027 := n3_; have HO1030 := n4_; have HO1033 := n5_; have HO1038 := n6_; have HO1042 := n7_; have HO1054 := n8_; have HO1057 := n9_; have HO1060 := n10_; have HB := n11_; have Zw69 := n12_; clear n0_ n1_ n2_ n3_ n4_ n5_ n6_ n7_ n8_ n9_ n10_ n11_ n12_; (try clear hb); (try clear hkp); (try clear hd_)))
                              go_ret
                              exact ⟨by first | rfl | (simp [errW_none, errW_some] <;> rfl) | (simp [*, errW_none, errW_some] <;> rfl), by repeat (first | (with_reducible first | exact HB.out | apply below_alloc | apply pw_below_drewN | apply below_drew1) | exact HB.out)⟩
                            · rw [if_neg c37] at H
                              have c37b0 : (t1063 == t1049) = false := beq_eq_false_iff_ne.mpr c37
                              have c37b1 : (t1063 != t1049) = true := bne_iff_ne.mpr c37
                              exact absurd H (by simp)
                        · rw [if_neg c34] at H
                          have c34b0 : (t1061 == t1022) = false := beq_eq_false_iff_ne.mpr c34
                          have c34b1 : (t1061 != t1022) = true := bne_iff_ne.mpr c34
                          exact absurd H (by simp)
                      · replace c33 := Bool.eq_false_iff.mpr c33
                        subst c33
                        have H1 : (some false) = some true := by rw [if_neg (show ¬ (false = true) by decide)] at H; exact H
                        clear H
                        have H := H1
                        clear H1
                        exact absurd H (by simp)
                    · rw [if_neg c28] at H
                      have c28b0 : (t1051 == t1049) = false := beq_eq_false_iff_ne.mpr c28
                      have c28b1 : (t1051 != t1049) = true := bne_iff_ne.mpr c28
                      exact absurd H (by simp)
                · replace c24 := Bool.eq_false_iff.mpr c24
                  subst c24
                  have H1 : (some false) = some true := by rw [if_neg (show ¬ (false = true) by decide)] at H; exact H
                  clear H
                  have H := H1
                  clear H1
                  exact absurd H (by simp)
            · replace c19 := Bool.eq_false_iff.mpr c19
              subst c19
              have H1 : (some false) = some true := by rw [if_neg (show ¬ (false = true) by decide)] at H; exact H
              clear H
              have H := H1
              clear H1
              exact absurd H (by simp)
          · replace c16 := Bool.eq_false_iff.mpr c16
            subst c16
            have H1 : (some false) = some true := by rw [if_neg (show ¬ (false = true) by decide)] at H; exact H
            clear H
            have H := H1
            clear H1
            exact absurd H (by simp)
        · rw [if_neg c13] at H
          have c13b0 : (t1034 == t1022) = false := beq_eq_false_iff_ne.mpr c13
          have c13b1 : (t1034 != t1022) = true := bne_iff_ne.mpr c13
          exact absurd H (by simp)
      · replace c12 := Bool.eq_false_iff.mpr c12
        subst c12
        have H1 : (some false) = some true := by rw [if_neg (show ¬ (false = true) by decide)] at H; exact H
        clear H
        have H := H1
        clear H1
        exact absurd H (by simp)

/-- THE ONE PURE STATEMENT of laws_FnExactMultiplyWhole: yours. -/
def laws_FnExactMultiplyWhole.Pure : Prop := ∀ (l0 : List Int) (l1 : List Int), l0.length ≤ maxLen → (∀ y ∈ l0, (Lit.int .i64 y).wf = true) → l1.length ≤ maxLen → (∀ y ∈ l1, (Lit.int .i64 y).wf = true) → ∃ k, laws_FnExactMultiplyWhole.f k l0 l1 = some true
theorem laws_FnExactMultiplyWhole.walk (P : laws_FnExactMultiplyWhole.Pure) (A0 : Option Addr) (c0 : Nat) (l0 : List Int) (A1 : Option Addr) (c1 : Nat) (l1 : List Int) (w : World) (hm0 : l0.length ≤ maxLen) (hw0 : (∀ y ∈ l0, (Lit.int .i64 y).wf = true)) (hr0 : Kd.C (Kd.int .i64) w A0 l0.length l0) (hc0 : l0.length ≤ c0) (hm1 : l1.length ≤ maxLen) (hw1 : (∀ y ∈ l1, (Lit.int .i64 y).wf = true)) (hr1 : Kd.C (Kd.int .i64) w A1 l1.length l1) (hc1 : l1.length ≤ c1) :
    Calls Try.prog 12 #[.slice A0 l0.length c0, .slice A1 l1.length c1] w fun e w' => e = .returned (.bool true) ∧ Below w.heap.size w w' := by
  obtain ⟨k, h⟩ := P l0 l1 hm0 hw0 hm1 hw1
  refine (laws_FnExactMultiplyWhole.calls k _ _ l0 _ _ l1 w hr0 hc0 hr1 hc1 h).mono ?_
  rintro e w' ⟨rfl, hd⟩
  exact ⟨rfl, hd⟩

end Go.Proofs.Ytkhbehppjahokaa.G
