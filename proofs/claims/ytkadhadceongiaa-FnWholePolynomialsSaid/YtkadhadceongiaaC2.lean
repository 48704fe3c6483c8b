/- The printed functions that this law reaches, and their contracts: part 2. -/
-- printed by this repo's wip/printer out of the kit's print with its own changes
import Derived.Test.YtkadhadceongiaaC1
namespace Go.Proofs.Ytkadhadceongiaa.G
open Go.RowKit Go.Proofs.YtkadhadceongiaaW.PrintWords Go.Proofs.YtkadhadceongiaaW.PrintLast Go.Proofs.YtkadhadceongiaaW.PrintMore
attribute [local go_sem] max2_int min2_int max_two min_two max_three min_three max_four min_four   -- for this text's walks alone
set_option linter.unusedVariables false
set_option linter.unusedSimpArgs false

/-! ### spec_DivideWhole: function 65 -/
mutual
def spec_DivideWhole.j0 : Nat → List Int → List Int → Bool → Option (List Int × Int)
 | 0, _, _, _ => none
 | k + 1, x0, x1, x16 => if x16 = true then (some (([] : List Int), 1)) else (if (x1.length : Int) = 0 then (spec_DivideWhole.j1 k x0 x1 true) else (if 0 < (x1.length : Int) then (if (rd x1 0) = 1 then (spec_DivideWhole.j1 k x0 x1 false) else (spec_DivideWhole.j1 k x0 x1 ((rd x1 0) != (-1)))) else (none)))
def spec_DivideWhole.j1 : Nat → List Int → List Int → Bool → Option (List Int × Int)
 | 0, _, _, _ => none
 | k + 1, x0, x1, x25 => if x25 = true then (some (([] : List Int), 5)) else (if (x0.length : Int) = 0 then (some ((([] : List Int)), 0)) else (if (x0.length : Int) < (x1.length : Int) then (some (([] : List Int), 4)) else (spec_DivideWhole.l0 k x0 x1 (([] : List Int)) 0)))
def spec_DivideWhole.l0 : Nat → List Int → List Int → List Int → Int → Option (List Int × Int)
 | 0, _, _, _, _ => none
 | k + 1, x0, x1, x6, x7 => if x7 ≤ (wrap64 ((x0.length : Int) - (x1.length : Int))) then (if 0 ≤ x7 then (if x7 < (x0.length : Int) then (spec_DivideWhole.l1 k x0 x1 x6 x7 (rd x0 x7) 1) else (none)) else (none)) else ((spec_l01Trim.f k x6).bind fun t472 => ((spec_l01Product.f k t472 x1).bind fun bt475 => (if bt475.2 = true then (spec_DivideWhole.l2 k x0 x6 bt475.1 ((bt475.1.length : Int) == (x0.length : Int)) 0) else (some (([] : List Int), 3)))))
def spec_DivideWhole.l1 : Nat → List Int → List Int → List Int → Int → Int → Int → Option (List Int × Int)
 | 0, _, _, _, _, _, _ => none
 | k + 1, x0, x1, x6, x7, x8, x9 => if x9 ≤ x7 then (spec_DivideWhole.j4 k x0 x1 x6 x7 x8 x9 (decide (x9 < (x1.length : Int)))) else (spec_DivideWhole.j4 k x0 x1 x6 x7 x8 x9 false)
def spec_DivideWhole.j4 : Nat → List Int → List Int → List Int → Int → Int → Int → Bool → Option (List Int × Int)
 | 0, _, _, _, _, _, _, _ => none
 | k + 1, x0, x1, x6, x7, x8, x9, x74 => if x74 = true then (if 0 ≤ x9 then (if x9 < (x1.length : Int) then (if 0 ≤ (wrap64 (x7 - x9)) then (if (wrap64 (x7 - x9)) < (x6.length : Int) then ((spec_l01More.f x8 (wrap64 (-(rd x1 x9))) (rd x6 (wrap64 (x7 - x9)))).bind fun bt466 => (if bt466.2 = true then (spec_DivideWhole.l1 k x0 x1 x6 x7 bt466.1 (wrap64 (x9 + 1))) else (some (([] : List Int), 3)))) else (none)) else (none)) else (none)) else (none)) else (if 0 < (x1.length : Int) then (if x6.length < 17592186044416 then (spec_DivideWhole.l0 k x0 x1 (x6 ++ [wrap64 (x8 * (rd x1 0))]) (wrap64 (x7 + 1))) else (none)) else (none))
def spec_DivideWhole.l2 : Nat → List Int → List Int → List Int → Bool → Int → Option (List Int × Int)
 | 0, _, _, _, _, _ => none
 | k + 1, x0, x6, x12, x14, x15 => if x15 < (x0.length : Int) then (if x14 = true then (if 0 ≤ x15 then (if x15 < (x12.length : Int) then (spec_DivideWhole.l2 k x0 x6 x12 ((rd x12 x15) == (rd x0 x15)) (wrap64 (x15 + 1))) else (none)) else (none)) else (some (([] : List Int), 4))) else (if x14 = true then ((spec_l01Trim.f k x6).bind fun t481 => (some (t481, 0))) else (some (([] : List Int), 4)))
end
def spec_DivideWhole.f (k : Nat) (l0 : List Int) (l1 : List Int) : Option (List Int × Int) := (spec_l01Poly.f k l0).bind fun t453 => (if t453 = true then ((spec_l01Poly.f k l1).bind fun t454 => (spec_DivideWhole.j0 k l0 l1 (!t454))) else (spec_DivideWhole.j0 k l0 l1 true))
def spec_DivideWhole.T17 : Bool × List (List Nat × List Nat) := (true, [([], []), ([], []), ([], []), ([1, 2], [1, 2]), ([3], [3]), ([4], [4]), ([], []), ([], []), ([], []), ([7, 8], [7, 8]), ([6, 9], [6, 9]), ([10], [10]), ([0, 5, 11], [0, 5, 11]), ([12], [12]), ([13], [13]), ([13], [13]), ([14, 12, 0, 1, 2, 3, 4, 5, 6, 7, 8, 9, 10, 11, 12, 13, 14], [14]), ([15, 16, 0, 1, 2, 3, 4, 5, 6, 7, 8, 9, 10, 11, 12, 13, 14, 15, 16], [15])])
def spec_DivideWhole.B17 : List Nat := [0, 0, 0, 6, 14, 30, 0, 0, 0, 384, 960, 1984, 4095, 8191, 16383, 16383, 32767, 131071]
theorem spec_DivideWhole.tab17 : rtab .any (opsOf Try.f65 17) = spec_DivideWhole.T17 := by kernel_rfl
theorem spec_DivideWhole.bits17 : waitsOk spec_DivideWhole.T17.2 spec_DivideWhole.B17 = true := by kernel_rfl
def spec_DivideWhole.T29 : Bool × List (List Nat × List Nat) := (true, [([], []), ([], []), ([0, 1], [0, 1]), ([2], [2]), ([], []), ([], []), ([4, 5], [4, 5]), ([6], [6]), ([3, 7], [3, 7]), ([8, 0, 1, 2, 3, 4, 5, 6, 7, 8], [8])])
def spec_DivideWhole.B29 : List Nat := [0, 0, 3, 7, 0, 0, 48, 112, 255, 511]
theorem spec_DivideWhole.tab29 : rtab .any (opsOf Try.f65 29) = spec_DivideWhole.T29 := by kernel_rfl
theorem spec_DivideWhole.bits29 : waitsOk spec_DivideWhole.T29.2 spec_DivideWhole.B29 = true := by kernel_rfl
set_option maxHeartbeats 8000000 in
set_option maxRecDepth 100000 in
theorem spec_DivideWhole.calls (k : Nat) (A0 : Option Addr) (c0 : Nat) (l0 : List Int) (A1 : Option Addr) (c1 : Nat) (l1 : List Int) (r1 : List Int) (r2 : Int) (w : World) (hr0 : Kd.C (Kd.int .i64) w A0 l0.length l0) (hc0 : l0.length ≤ c0) (hr1 : Kd.C (Kd.int .i64) w A1 l1.length l1) (hc1 : l1.length ≤ c1) (h : spec_DivideWhole.f k l0 l1 = some (r1, r2)) :
  Calls Try.prog 65 #[.slice A0 l0.length c0, .slice A1 l1.length c1] w fun e w' => ∃ v0_ : Value, e = .returned (.tuple #[v0_, .int .i64 r2]) ∧ Kd.R (Kd.int .i64) 2 w' w.heap.size (fun _ => True) v0_ r1 ∧ Below w.heap.size w w' := by
 have HR0 := Aside0.mk hr0
 have HC0 := Aside0.mk hc0
 clear hr0 hc0
 have HR1 := Aside0.mk hr1
 have HC1 := Aside0.mk hc1
 clear hr1 hc1
 have HB := Aside0.mk (Below.refl w.heap.size w)
 have H : ((spec_l01Poly.f k l0).bind fun t453 => (if t453 = true then ((spec_l01Poly.f k l1).bind fun t454 => (spec_DivideWhole.j0 k l0 l1 (!t454))) else (spec_DivideWhole.j0 k l0 l1 true))) = some (r1, r2) := h
 clear h
 have HC3 := Aside0.mk H
 clear H
 go_enter Try.func65, Try.ntmps65
 go_upto_region 1 with (fail)
 go_cut [16] (fun v16 wc => ∃ (kq : Nat) (x16_2 : Bool), v16 = .bool x16_2 ∧ Aside0 (spec_DivideWhole.j0 kq l0 l1 x16_2 = some (r1, r2)) ∧ Aside0 (kq ≤ k) ∧ Aside0 (Below w.heap.size w wc))
 case first =>
  have H := HC3.out
  clear HC3
  obtain ⟨t453, A4, H⟩ := bnd_ H
  by_cases c5 : t453 = true
  ·subst c5
   have H1 : ((spec_l01Poly.f k l1).bind fun t454 => (spec_DivideWhole.j0 k l0 l1 (!t454))) = some (r1, r2) := by rw [if_pos rfl] at H; exact H
   clear H
   have H := H1
   clear H1
   obtain ⟨t454, A6, H⟩ := bnd_ H
   have H' := Aside0.mk H
   clear H
   go_wp2_with (first | ((with_reducible refine gate_callee (f := 165) rfl ?_); refine goesL_ (some 18) rfl rfl Try.func165 (by kernel_rfl) rfl #[.slice A0 l0.length c0] rfl arg_ ?_; (with_reducible refine (spec_l01Poly.calls k _ _ l0 true _ ?side1 ?side2 A4.out).mono ?_); (case side1 => exact Kd.C_below (Kd.C_below HR0.out HB.out) bgo_); (case side2 => exact HC0.out); rintro e w' ⟨rfl, ⟨nd, rfl⟩⟩; refine ⟨_, rfl, ?_⟩) | (go_at_call 165; (with_reducible refine (spec_l01Poly.calls k _ _ l1 t454 _ ?side1 ?side2 A6.out).mono ?_); (case side1 => exact Kd.C_below (Kd.C_below HR1.out hb_) bgo_); (case side2 => exact HC1.out); rintro e w' ⟨rfl, ⟨nd, rfl⟩⟩))
   go_meet
   case rel => exact ⟨_, (!t454), es_, H', ⟨by first | omega | exact Nat.le_refl _⟩, ⟨hb_⟩⟩
  ·replace c5 := Bool.eq_false_iff.mpr c5
   subst c5
   have H1 : (spec_DivideWhole.j0 k l0 l1 true) = some (r1, r2) := by rw [if_neg (show ¬ (false = true) by decide)] at H; exact H
   clear H
   have H := H1
   clear H1
   have H' := Aside0.mk H
   clear H
   go_wp2_with (first | ((with_reducible refine gate_callee (f := 165) rfl ?_); refine goesL_ (some 18) rfl rfl Try.func165 (by kernel_rfl) rfl #[.slice A0 l0.length c0] rfl arg_ ?_; (with_reducible refine (spec_l01Poly.calls k _ _ l0 false _ ?side1 ?side2 A4.out).mono ?_); (case side1 => exact Kd.C_below (Kd.C_below HR0.out HB.out) bgo_); (case side2 => exact HC0.out); rintro e w' ⟨rfl, ⟨nd, rfl⟩⟩; refine ⟨_, rfl, ?_⟩))
   go_meet
   case rel => exact ⟨_, (true), es_, H', ⟨by first | omega | exact Nat.le_refl _⟩, ⟨hb_⟩⟩
 case rest =>
  clear HC3
  obtain ⟨kq, x16_2, rfl, HA, HJ2, HB⟩ := hcut
  cases kq with
  | zero => exact absurd HA.out (by simp [spec_DivideWhole.j0])
  | succ kj2 =>
   have H := HA.out
   clear HA
   simp only [spec_DivideWhole.j0] at H
   by_cases c7 : x16_2 = true
   ·subst c7
    have H1 : (some (([] : List Int), 1)) = some (r1, r2) := by rw [if_pos rfl] at H; exact H
    clear H
    have H := H1
    clear H1
    simp only [Option.some.injEq, Prod.mk.injEq] at H
    obtain ⟨rfl, rfl⟩ := H
    go_wp2
    go_ret2
    exact ⟨_, er_, by first | exact Kd.R_nil _ _ _ _ _ | exact Kd.N_nil _ _ _ _ _ | exact Kd.V_nil _ _ _ _ _ | exact Kd.Q_nil _ _ _ _ _ | exact Kd.S_nil _ _ _ _ _, hb_⟩
   ·replace c7 := Bool.eq_false_iff.mpr c7
    subst c7
    have H1 : (if (l1.length : Int) = 0 then (spec_DivideWhole.j1 kj2 l0 l1 true) else (if 0 < (l1.length : Int) then (if (rd l1 0) = 1 then (spec_DivideWhole.j1 kj2 l0 l1 false) else (spec_DivideWhole.j1 kj2 l0 l1 ((rd l1 0) != (-1)))) else (none))) = some (r1, r2) := by rw [if_neg (show ¬ (false = true) by decide)] at H; exact H
    clear H
    have H := H1
    clear H1
    have HC8 := Aside0.mk H
    clear H
    go_upto_region 3 with (fail)
    go_cut [25] (fun v25 wc => ∃ (kq : Nat) (x25_7 : Bool), v25 = .bool x25_7 ∧ Aside0 (spec_DivideWhole.j1 kq l0 l1 x25_7 = some (r1, r2)) ∧ Aside0 (kq ≤ kj2) ∧ Aside0 (Below w.heap.size w wc))
    case first =>
     have H := HC8.out
     clear HC8
     by_cases c9 : (l1.length : Int) = 0
     ·rw [if_pos c9] at H
      have c9b0 : ((l1.length : Int) == 0) = true := beq_iff_eq.mpr c9
      have c9b1 : ((l1.length : Int) != 0) = false := bne_eq_false_iff_eq.mpr c9
      clear c9
      (first | rw [c9b0] | (simp only [i64_w, i32_w]; rw [c9b0]) | skip)
      have H' := Aside0.mk H
      clear H
      go_wp2
      go_meet
      case rel => exact ⟨_, (true), es_, H', ⟨by have := HJ2.out; first | omega | exact Nat.le_refl _⟩, ⟨hb_⟩⟩
     ·rw [if_neg c9] at H
      have c9b0 : ((l1.length : Int) == 0) = false := beq_eq_false_iff_ne.mpr c9
      have c9b1 : ((l1.length : Int) != 0) = true := bne_iff_ne.mpr c9
      have c9b2 : ¬ (l1 = []) := fun h_ => c9 (by rw [h_]; rfl)
      (first | rw [c9b0] | (simp only [i64_w, i32_w]; rw [c9b0]) | skip)
      obtain ⟨c10, H⟩ := itn_ H
      have c10b0 := decide_eq_true c10
      have c10b1 : decide (0 < l1.length) = true := decide_eq_true (by omega)
      clear c10
      by_cases c11 : (rd l1 0) = 1
      ·rw [if_pos c11] at H
       have c11b0 : ((rd l1 0) == 1) = true := beq_iff_eq.mpr c11
       have c11b1 : ((rd l1 0) != 1) = false := bne_eq_false_iff_eq.mpr c11
       clear c11
       have H' := Aside0.mk H
       clear H
       have p455 : 0 ≤ (0 : Int) := (by omega)
       have q455 : 0 < (l1.length : Int) := od_
       obtain ⟨ad455, e455, hx455_0⟩ := Kd.at_int HR1.out 0 p455 q455
       cases e455
       have qi455 : (0 < l1.length) = True := eq_true (by omega)
       (try rw [show ((0 : Int)).toNat = 0 from rfl] at hx455_0)
       (try rw [Addr.add_zero'] at hx455_0)
       (try replace hx455_0 := (HB.out.cell (World.block_lt_of_cell? w _ hx455_0)).trans hx455_0)
       replace p455 := eq_true p455
       replace q455 := eq_true q455
       go_wp2
       go_meet
       case rel => exact ⟨_, (false), es_, H', ⟨by have := HJ2.out; first | omega | exact Nat.le_refl _⟩, ⟨hb_⟩⟩
      ·rw [if_neg c11] at H
       have c11b0 : ((rd l1 0) == 1) = false := beq_eq_false_iff_ne.mpr c11
       have c11b1 : ((rd l1 0) != 1) = true := bne_iff_ne.mpr c11
       have H' := Aside0.mk H
       clear H
       have p455 : 0 ≤ (0 : Int) := (by omega)
       have q455 : 0 < (l1.length : Int) := od_
       obtain ⟨ad455, e455, hx455_0⟩ := Kd.at_int HR1.out 0 p455 q455
       cases e455
       have qi455 : (0 < l1.length) = True := eq_true (by omega)
       (try rw [show ((0 : Int)).toNat = 0 from rfl] at hx455_0)
       (try rw [Addr.add_zero'] at hx455_0)
       (try replace hx455_0 := (HB.out.cell (World.block_lt_of_cell? w _ hx455_0)).trans hx455_0)
       replace p455 := eq_true p455
       replace q455 := eq_true q455
       have p456 : 0 ≤ (0 : Int) := (by omega)
       have q456 : 0 < (l1.length : Int) := od_
       obtain ⟨ad456, e456, hx456_0⟩ := Kd.at_int HR1.out 0 p456 q456
       obtain rfl : ad455 = ad456 := (by injection e456)
       have qi456 : (0 < l1.length) = True := eq_true (by omega)
       (try rw [show ((0 : Int)).toNat = 0 from rfl] at hx456_0)
       (try rw [Addr.add_zero'] at hx456_0)
       (try replace hx456_0 := (HB.out.cell (World.block_lt_of_cell? w _ hx456_0)).trans hx456_0)
       replace p456 := eq_true p456
       replace q456 := eq_true q456
       go_wp2
       go_meet
       case rel => exact ⟨_, (((rd l1 0) != (-1))), es_, H', ⟨by have := HJ2.out; first | omega | exact Nat.le_refl _⟩, ⟨hb_⟩⟩
    case rest =>
     clear HC8
     obtain ⟨kq, x25_7, rfl, HA, HJ7, HB⟩ := hcut
     cases kq with
     | zero => exact absurd HA.out (by simp [spec_DivideWhole.j1])
     | succ kj7 =>
      have H := HA.out
      clear HA
      simp only [spec_DivideWhole.j1] at H
      by_cases c12 : x25_7 = true
      ·subst c12
       have H1 : (some (([] : List Int), 5)) = some (r1, r2) := by rw [if_pos rfl] at H; exact H
       clear H
       have H := H1
       clear H1
       simp only [Option.some.injEq, Prod.mk.injEq] at H
       obtain ⟨rfl, rfl⟩ := H
       go_wp2
       go_ret2
       exact ⟨_, er_, by first | exact Kd.R_nil _ _ _ _ _ | exact Kd.N_nil _ _ _ _ _ | exact Kd.V_nil _ _ _ _ _ | exact Kd.Q_nil _ _ _ _ _ | exact Kd.S_nil _ _ _ _ _, hb_⟩
      ·replace c12 := Bool.eq_false_iff.mpr c12
       subst c12
       have H1 : (if (l0.length : Int) = 0 then (some ((([] : List Int)), 0)) else (if (l0.length : Int) < (l1.length : Int) then (some (([] : List Int), 4)) else (spec_DivideWhole.l0 kj7 l0 l1 (([] : List Int)) 0))) = some (r1, r2) := by rw [if_neg (show ¬ (false = true) by decide)] at H; exact H
       clear H
       have H := H1
       clear H1
       by_cases c13 : (l0.length : Int) = 0
       ·rw [if_pos c13] at H
        have c13b0 : ((l0.length : Int) == 0) = true := beq_iff_eq.mpr c13
        have c13b1 : ((l0.length : Int) != 0) = false := bne_eq_false_iff_eq.mpr c13
        clear c13
        obtain ⟨y457, Ny457, H⟩ : ∃ y457 : List Int, Aside0 (y457 = (([] : List Int))) ∧ (some (y457, 0)) = some (r1, r2) := ⟨_, ⟨rfl⟩, H⟩
        simp only [Option.some.injEq, Prod.mk.injEq] at H
        obtain ⟨rfl, rfl⟩ := H
        go_wp2_with (first | ((with_reducible refine gate_dst (N := 45) rfl ?_); (try (refine gate_guard (by rfl) ?_; dsimp only)); refine Kd.R_lit (Kd.int .i64) _ 2 ?hg (N := 45) ?hd (xs := ([] : List Int)) (inner := []) (ok := fun _ => True) (okp := fun _ => True) ?hr ?hp (fun _ hk => hk) trivial (Below.refl _ _) (Nat.le_refl _) (by simp) ?_; (case hd => rfl); (case hg => rfl); (case hr => first | (go_simp; done) | (go_simp; rfl)); (case hp => exact (Reps.none _ _)); intro v458 w14 ho15 hb hg_ hnew_; clear hg_ hnew_; (first | rw [← Ny457.out] at ho15 | (simp only [Int.reduceToNat] at ho15; rw [← Ny457.out] at ho15)); have HO459 := Aside0.mk (Kd.R_lower ho15 (below_size hb_)); replace HB := Aside0.mk (below_step hb_ hb); clear hb ho15))
        go_ret2
        exact ⟨_, er_, (Kd.R_below HO459.out bgo_), hb_⟩
       ·rw [if_neg c13] at H
        have c13b0 : ((l0.length : Int) == 0) = false := beq_eq_false_iff_ne.mpr c13
        have c13b1 : ((l0.length : Int) != 0) = true := bne_iff_ne.mpr c13
        have c13b2 : ¬ (l0 = []) := fun h_ => c13 (by rw [h_]; rfl)
        by_cases c16 : (l0.length : Int) < (l1.length : Int)
        ·rw [if_pos c16] at H
         have c16b0 := decide_eq_true c16
         have c16b1 : decide (l0.length < l1.length) = true := decide_eq_true (Int.ofNat_lt.mp c16)
         clear c16
         simp only [Option.some.injEq, Prod.mk.injEq] at H
         obtain ⟨rfl, rfl⟩ := H
         go_wp2
         go_ret2
         exact ⟨_, er_, by first | exact Kd.R_nil _ _ _ _ _ | exact Kd.N_nil _ _ _ _ _ | exact Kd.V_nil _ _ _ _ _ | exact Kd.Q_nil _ _ _ _ _ | exact Kd.S_nil _ _ _ _ _, hb_⟩
        ·rw [if_neg c16] at H
         have c16b0 := decide_eq_false c16
         have c16b1 : decide (l0.length < l1.length) = false := decide_eq_false (fun h => c16 (Int.ofNat_lt.mpr h))
         clear c16
         obtain ⟨y460, Ny460, H⟩ : ∃ y460 : List Int, Aside0 (y460 = (([] : List Int))) ∧ (spec_DivideWhole.l0 kj7 l0 l1 y460 0) = some (r1, r2) := ⟨_, ⟨rfl⟩, H⟩
         have H' := Aside0.mk H
         clear H
         go_wp2_with (first | ((with_reducible refine gate_dst (N := 52) rfl ?_); (try (refine gate_guard (by rfl) ?_; dsimp only)); refine Kd.R_lit (Kd.int .i64) _ 2 ?hg (N := 52) ?hd (xs := ([] : List Int)) (inner := []) (ok := fun _ => True) (okp := fun _ => True) ?hr ?hp (fun _ hk => hk) trivial (Below.refl _ _) (Nat.le_refl _) (by simp) ?_; (case hd => rfl); (case hg => rfl); (case hr => first | (go_simp; done) | (go_simp; rfl)); (case hp => exact (Reps.none _ _)); intro v461 w17 ho18 hb hg_ hnew_; clear hg_ hnew_; (first | rw [← Ny460.out] at ho18 | (simp only [Int.reduceToNat] at ho18; rw [← Ny460.out] at ho18)); have HO462 := Aside0.mk (Kd.R_lower ho18 (below_size hb_)); replace HB := Aside0.mk (below_step hb_ hb); clear hb ho18))
         go_loopg [6, 7] kj7 (fun kq v6 v7 w' => ∃ (x6_3 : List Int) (x7_3 : Int), v7 = .int .i64 x7_3 ∧ Aside0 (spec_DivideWhole.l0 kq l0 l1 x6_3 x7_3 = some (r1, r2)) ∧ Aside0 (kq ≤ kj7) ∧ Aside0 (Kd.R (Kd.int .i64) 2 w' w.heap.size (fun _ => True) v6 x6_3) ∧ Aside0 (Below w.heap.size w w'))
         case atStart => exact ⟨(y460), (0), es_, H', ⟨Nat.le_refl _⟩, ⟨Kd.R_below HO462.out bgo_⟩, ⟨hb_⟩⟩
         case round =>
          clear H'
          obtain ⟨x6_3, x7_3, rfl, HA, HK3, HO_6, HB⟩ := hrel
          cases gk with
          | zero => exact absurd HA.out (by simp [spec_DivideWhole.l0])
          | succ k3 =>
           have H := HA.out
           clear HA
           simp only [spec_DivideWhole.l0] at H
           by_cases c19 : x7_3 ≤ (wrap64 ((l0.length : Int) - (l1.length : Int)))
           ·rw [if_pos c19] at H
            have c19b0 := decide_eq_true c19
            clear c19
            obtain ⟨c20, H⟩ := itn_ H
            have c20b0 := decide_eq_true c20
            clear c20
            obtain ⟨c21, H⟩ := itn_ H
            have c21b0 := decide_eq_true c21
            clear c21
            have H' := Aside0.mk H
            clear H
            have p463 : 0 ≤ (x7_3 : Int) := od_
            have q463 : x7_3 < (l0.length : Int) := od_
            obtain ⟨ad463, e463, hx463_0⟩ := Kd.at_int HR0.out x7_3 p463 q463
            cases e463
            (try replace hx463_0 := (HB.out.cell (World.block_lt_of_cell? w _ hx463_0)).trans hx463_0)
            replace p463 := eq_true p463
            replace q463 := eq_true q463
            go_wp2
            go_loopg [8, 9] k3 (fun kq v8 v9 w' => ∃ (x8_4 : Int) (x9_4 : Int), v8 = .int .i64 x8_4 ∧ v9 = .int .i64 x9_4 ∧ Aside0 (spec_DivideWhole.l1 kq l0 l1 x6_3 x7_3 x8_4 x9_4 = some (r1, r2)) ∧ Aside0 (kq ≤ k3) ∧ Aside0 (Kd.R (Kd.int .i64) 2 w' w.heap.size (fun _ => True) u6 x6_3) ∧ Aside0 (Below w.heap.size w w'))
            case atStart => exact ⟨(rd l0 x7_3), (1), es_, es_, H', ⟨Nat.le_refl _⟩, ⟨Kd.R_below HO_6.out bgo_⟩, ⟨hb_⟩⟩
            case round =>
             clear H'
             obtain ⟨x8_4, x9_4, rfl, rfl, HA, HK4, HO_6, HB⟩ := hrel
             cases gk with
             | zero => exact absurd HA.out (by simp [spec_DivideWhole.l1])
             | succ k4 =>
              have H := HA.out
              clear HA
              simp only [spec_DivideWhole.l1] at H
              have HC22 := Aside0.mk H
              clear H
              go_upto_region 15 with (fail)
              go_cut [74] (fun v74 wc => ∃ (kq : Nat) (x74_21 : Bool), v74 = .bool x74_21 ∧ Aside0 (spec_DivideWhole.j4 kq l0 l1 x6_3 x7_3 x8_4 x9_4 x74_21 = some (r1, r2)) ∧ Aside0 (kq ≤ k4) ∧ Aside0 (Kd.R (Kd.int .i64) 2 wc w.heap.size (fun _ => True) u6 x6_3) ∧ Aside0 (Below w.heap.size w wc))
              case first =>
               have H := HC22.out
               clear HC22
               by_cases c23 : x9_4 ≤ x7_3
               ·rw [if_pos c23] at H
                have c23b0 := decide_eq_true c23
                clear c23
                (first | rw [c23b0] | (simp only [i64_w, i32_w]; rw [c23b0]) | skip)
                have H' := Aside0.mk H
                clear H
                go_wp2
                go_meet
                case rel => exact ⟨_, (decide (x9_4 < (l1.length : Int))), es_, H', ⟨by have := HJ2.out; have := HJ7.out; have := HK3.out; have := HK4.out; first | omega | exact Nat.le_refl _⟩, ⟨Kd.R_below HO_6.out bgo_⟩, ⟨hb_⟩⟩
               ·rw [if_neg c23] at H
                have c23b0 := decide_eq_false c23
                clear c23
                (first | rw [c23b0] | (simp only [i64_w, i32_w]; rw [c23b0]) | skip)
                have H' := Aside0.mk H
                clear H
                go_wp2
                go_meet
                case rel => exact ⟨_, (false), es_, H', ⟨by have := HJ2.out; have := HJ7.out; have := HK3.out; have := HK4.out; first | omega | exact Nat.le_refl _⟩, ⟨Kd.R_below HO_6.out bgo_⟩, ⟨hb_⟩⟩
              case rest =>
               clear HC22
               obtain ⟨kq, x74_21, rfl, HA, HJ21, HO_6, HB⟩ := hcut
               cases kq with
               | zero => exact absurd HA.out (by simp [spec_DivideWhole.j4])
               | succ kj21 =>
                have H := HA.out
                clear HA
                simp only [spec_DivideWhole.j4] at H
                by_cases c24 : x74_21 = true
                ·subst c24
                 have H1 : (if 0 ≤ x9_4 then (if x9_4 < (l1.length : Int) then (if 0 ≤ (wrap64 (x7_3 - x9_4)) then (if (wrap64 (x7_3 - x9_4)) < (x6_3.length : Int) then ((spec_l01More.f x8_4 (wrap64 (-(rd l1 x9_4))) (rd x6_3 (wrap64 (x7_3 - x9_4)))).bind fun bt466 => (if bt466.2 = true then (spec_DivideWhole.l1 kj21 l0 l1 x6_3 x7_3 bt466.1 (wrap64 (x9_4 + 1))) else (some (([] : List Int), 3)))) else (none)) else (none)) else (none)) else (none)) = some (r1, r2) := by rw [if_pos rfl] at H; exact H
                 clear H
                 have H := H1
                 clear H1
                 obtain ⟨c25, H⟩ := itn_ H
                 have c25b0 := decide_eq_true c25
                 clear c25
                 obtain ⟨c26, H⟩ := itn_ H
                 have c26b0 := decide_eq_true c26
                 clear c26
                 obtain ⟨ji27, hji27⟩ : ∃ j_ : Int, (wrap64 (x7_3 - x9_4)) = j_ := ⟨_, rfl⟩
                 (try rw [hji27])
                 replace H : (if 0 ≤ (ji27) then (if (ji27) < (x6_3.length : Int) then ((spec_l01More.f x8_4 (wrap64 (-(rd l1 x9_4))) (rd x6_3 (ji27))).bind fun bt466 => (if bt466.2 = true then (spec_DivideWhole.l1 kj21 l0 l1 x6_3 x7_3 bt466.1 (wrap64 (x9_4 + 1))) else (some (([] : List Int), 3)))) else (none)) else (none)) = some (r1, r2) := by first | (rw [hji27] at H; exact H) | (simp only [hji27] at H ⊢; exact H)
                 have hji27w : (IntKind.i64.wrap (x7_3 - x9_4)) = ji27 := (i64_w _).trans hji27
                 obtain ⟨c28, H⟩ := itn_ H
                 have c28b0 := decide_eq_true c28
                 clear c28
                 obtain ⟨c29, H⟩ := itn_ H
                 have c29b0 := decide_eq_true c29
                 clear c29
                 obtain ⟨⟨t466, t467⟩, A30, H⟩ := bnd_ H
                 dsimp only at H
                 by_cases c31 : t467 = true
                 ·subst c31
                  have H1 : (spec_DivideWhole.l1 kj21 l0 l1 x6_3 x7_3 t466 (wrap64 (x9_4 + 1))) = some (r1, r2) := by rw [if_pos rfl] at H; exact H
                  clear H
                  have H := H1
                  clear H1
                  have H' := Aside0.mk H
                  clear H
                  try go_wp2
                  have n0_ := Aside0.mk (Kd.R_drew HO_6.out)
                  have n1_ := Aside0.mk (below_drew1 HB.out)
                  clear HO_6
                  clear HB
                  have HO_6 := n0_
                  have HB := n1_
                  clear n0_ n1_
                  have p464 : 0 ≤ (x9_4 : Int) := od_
                  have q464 : x9_4 < (l1.length : Int) := od_
                  obtain ⟨ad464, e464, hx464_0⟩ := Kd.at_int HR1.out x9_4 p464 q464
                  have hw464_0 := hx464_0
                  cases e464
                  (try replace hx464_0 := (HB.out.cell (World.block_lt_of_cell? w _ hx464_0)).trans hx464_0)
                  replace p464 := eq_true p464
                  replace q464 := eq_true q464
                  obtain ⟨Ao33, co33, eo33⟩ := Kd.R_slice HO_6.out
                  (first | subst eo33 | (injection eo33 with f1_ f2_ f3_; have f4_ := f1_.symm; have f5_ := f3_.symm; clear f1_ f2_ f3_; subst f4_; subst f5_))
                  have p465 : 0 ≤ ((ji27) : Int) := od_
                  have q465 : (ji27) < (x6_3.length : Int) := od_
                  obtain ⟨ad465, e465, hx465_0⟩ := Kd.at_int (Kd.R_reads' HO_6.out).2.2 (ji27) p465 q465
                  cases e465
                  replace p465 := eq_true p465
                  replace q465 := eq_true q465
                  refine start_ (n := 18) (S := fun w' => w'.cell? (ad464.add (x9_4).toNat) = some (.int .i64 (rd l1 x9_4)) ∧ w'.cell? (ad465.add ((ji27)).toNat) = some (.int .i64 (rd x6_3 (ji27)))) (ds := []) #[false, false, false, false, false, false, false, false, false, false, false, false, false, false, false, false, false, false] (by kernel_rfl) rfl rfl ⟨((HB.out.cell (World.block_lt_of_cell? _ _ hw464_0)).trans hw464_0), hx465_0⟩ (fun hHeld => ?_); refine with_tabW spec_DivideWhole.tab17 spec_DivideWhole.bits17 (fun HT_ HW_ => ?_)
                  generalize wc.drew = w32 at HO_6 HB hx464_0 hx465_0 hHeld ⊢
                  refine pk_ 0 18 78 1 ?_
                  refine pk_ 1 18 79 3 ?_
                  refine pk_ 2 18 80 7 ?_
                  refine pk_ 3 18 81 15 ?_
                  refine pk_ 6 18 84 79 ?_
                  refine pk_ 7 18 85 207 ?_
                  refine pk_ 8 18 86 463 ?_
                  refine pk_ 9 18 87 975 ?_
                  refine pk_ 10 18 88 1999 ?_
                  refine tk_ 4 18 82 2015 hHeld ?_
                  refine pk_ 5 18 83 2047 ?_
                  refine tk_ 11 18 89 4095 hHeld ?_
                  refine one_ (i := 12) (N := some 90) #[true, true, true, true, true, true, true, true, true, true, true, true, true, false, false, false, false, false] rfl rfl (one_of HT_.out (by kernel_rfl)) (by decide) (fun K hK => ?_)
                  refine goes_ Try.func174 (by kernel_rfl) rfl #[.int .i64 x8_4, .int .i64 (wrap64 (-(rd l1 x9_4))), .int .i64 (rd x6_3 (ji27))] (by rfl) rfl rfl (by (try simp only [List.map_toArray, List.map_cons, List.map_nil]); first | done | (simp only [hji27]; rfl) | rfl | (simp only [List.length_drop, List.length_take]; rfl)) ?_
                  with_reducible refine (spec_l01More.calls x8_4 (wrap64 (-(rd l1 x9_4))) (rd x6_3 (ji27)) t466 true _ A30.out).mono ?_
                  rintro e w34 ⟨rfl, hb⟩
                  have HS1_ := (hb.cell (World.block_lt_of_cell? _ _ (hHeld.2))).trans (hHeld.2)
                  refine ⟨_, rfl, ?_⟩
                  have n0_ := Aside0.mk (Kd.R_below (Kd.R_below HO_6.out bgo_) hb)
                  have n1_ := Aside0.mk (below_step hb_ hb)
                  clear HO_6
                  clear HB
                  have HO_6 := n0_
                  have HB := n1_
                  clear n0_ n1_
                  (try clear hb)
                  (try clear hb2)
                  (try clear hk)
                  (try clear hi)
                  refine hK.out _ _ ⟨((HB.out.cell (World.block_lt_of_cell? _ _ hw464_0)).trans hw464_0), HS1_⟩ (fun hHeld => ?_)
                  clear hK K
                  refine norm_ (a' := ?_) ?_ ?_
                  rotate_left
                  ·show Act.put _ (some 90) _ = _
                   simp only [Act.put, nf_]
                   rfl
                  refine pk_ 13 18 77 16383 ?_
                  refine pk_ 14 18 91 32767 ?_
                  refine pk_ 15 18 92 65535 ?_
                  refine pk_ 16 18 10 131071 ?_
                  refine pk_ 17 18 11 262143 ?_
                  refine done_ (done_of HT_.out (by kernel_rfl)) ?_
                  try go_wp2
                  first | (first | go_roundg kj21 | (refine Handed.intro kj21 ?measure ?_; rotate_left; go_step; (try simp only [add_plain]); (repeat apply Exists.intro); refine ⟨?rel, rfl⟩)) | ((try subst hji27); (first | go_roundg kj21 | (refine Handed.intro kj21 ?measure ?_; rotate_left; go_step; (try simp only [add_plain]); (repeat apply Exists.intro); refine ⟨?rel, rfl⟩)))
                  case measure => have := HJ2.out; have := HJ7.out; have := HK3.out; have := HK4.out; have := HJ21.out; omega
                  case rel => exact ⟨(t466), (wrap64 (x9_4 + 1)), es_, es_, H', ⟨by have := HJ2.out; have := HJ7.out; have := HK3.out; have := HK4.out; have := HJ21.out; omega⟩, ⟨Kd.R_below HO_6.out bgo_⟩, ⟨hb_⟩⟩
                 ·replace c31 := Bool.eq_false_iff.mpr c31
                  subst c31
                  have H1 : (some (([] : List Int), 3)) = some (r1, r2) := by rw [if_neg (show ¬ (false = true) by decide)] at H; exact H
                  clear H
                  have H := H1
                  clear H1
                  simp only [Option.some.injEq, Prod.mk.injEq] at H
                  obtain ⟨rfl, rfl⟩ := H
                  try go_wp2
                  have n0_ := Aside0.mk (Kd.R_drew HO_6.out)
                  have n1_ := Aside0.mk (below_drew1 HB.out)
                  clear HO_6
                  clear HB
                  have HO_6 := n0_
                  have HB := n1_
                  clear n0_ n1_
                  have p464 : 0 ≤ (x9_4 : Int) := od_
                  have q464 : x9_4 < (l1.length : Int) := od_
                  obtain ⟨ad464, e464, hx464_0⟩ := Kd.at_int HR1.out x9_4 p464 q464
                  have hw464_0 := hx464_0
                  cases e464
                  (try replace hx464_0 := (HB.out.cell (World.block_lt_of_cell? w _ hx464_0)).trans hx464_0)
                  replace p464 := eq_true p464
                  replace q464 := eq_true q464
                  obtain ⟨Ao36, co36, eo36⟩ := Kd.R_slice HO_6.out
                  (first | subst eo36 | (injection eo36 with f1_ f2_ f3_; have f4_ := f1_.symm; have f5_ := f3_.symm; clear f1_ f2_ f3_; subst f4_; subst f5_))
                  have p465 : 0 ≤ ((ji27) : Int) := od_
                  have q465 : (ji27) < (x6_3.length : Int) := od_
                  obtain ⟨ad465, e465, hx465_0⟩ := Kd.at_int (Kd.R_reads' HO_6.out).2.2 (ji27) p465 q465
                  cases e465
                  replace p465 := eq_true p465
                  replace q465 := eq_true q465
                  refine start_ (n := 18) (S := fun w' => w'.cell? (ad464.add (x9_4).toNat) = some (.int .i64 (rd l1 x9_4)) ∧ w'.cell? (ad465.add ((ji27)).toNat) = some (.int .i64 (rd x6_3 (ji27)))) (ds := []) #[false, false, false, false, false, false, false, false, false, false, false, false, false, false, false, false, false, false] (by kernel_rfl) rfl rfl ⟨((HB.out.cell (World.block_lt_of_cell? _ _ hw464_0)).trans hw464_0), hx465_0⟩ (fun hHeld => ?_); refine with_tabW spec_DivideWhole.tab17 spec_DivideWhole.bits17 (fun HT_ HW_ => ?_)
                  generalize wc.drew = w35 at HO_6 HB hx464_0 hx465_0 hHeld ⊢
                  refine pk_ 0 18 78 1 ?_
                  refine pk_ 1 18 79 3 ?_
                  refine pk_ 2 18 80 7 ?_
                  refine pk_ 3 18 81 15 ?_
                  refine pk_ 6 18 84 79 ?_
                  refine pk_ 7 18 85 207 ?_
                  refine pk_ 8 18 86 463 ?_
                  refine pk_ 9 18 87 975 ?_
                  refine pk_ 10 18 88 1999 ?_
                  refine tk_ 4 18 82 2015 hHeld ?_
                  refine pk_ 5 18 83 2047 ?_
                  refine tk_ 11 18 89 4095 hHeld ?_
                  refine one_ (i := 12) (N := some 90) #[true, true, true, true, true, true, true, true, true, true, true, true, true, false, false, false, false, false] rfl rfl (one_of HT_.out (by kernel_rfl)) (by decide) (fun K hK => ?_)
                  refine goes_ Try.func174 (by kernel_rfl) rfl #[.int .i64 x8_4, .int .i64 (wrap64 (-(rd l1 x9_4))), .int .i64 (rd x6_3 (ji27))] (by rfl) rfl rfl (by (try simp only [List.map_toArray, List.map_cons, List.map_nil]); first | done | (simp only [hji27]; rfl) | rfl | (simp only [List.length_drop, List.length_take]; rfl)) ?_
                  with_reducible refine (spec_l01More.calls x8_4 (wrap64 (-(rd l1 x9_4))) (rd x6_3 (ji27)) t466 false _ A30.out).mono ?_
                  rintro e w37 ⟨rfl, hb⟩
                  have HS1_ := (hb.cell (World.block_lt_of_cell? _ _ (hHeld.2))).trans (hHeld.2)
                  refine ⟨_, rfl, ?_⟩
                  have n0_ := Aside0.mk (Kd.R_below (Kd.R_below HO_6.out bgo_) hb)
                  have n1_ := Aside0.mk (below_step hb_ hb)
                  clear HO_6
                  clear HB
                  have HO_6 := n0_
                  have HB := n1_
                  clear n0_ n1_
                  (try clear hb)
                  (try clear hb2)
                  (try clear hk)
                  (try clear hi)
                  refine hK.out _ _ ⟨((HB.out.cell (World.block_lt_of_cell? _ _ hw464_0)).trans hw464_0), HS1_⟩ (fun hHeld => ?_)
                  clear hK K
                  refine norm_ (a' := ?_) ?_ ?_
                  rotate_left
                  ·show Act.put _ (some 90) _ = _
                   simp only [Act.put, nf_]
                   rfl
                  refine pk_ 13 18 77 16383 ?_
                  refine pk_ 14 18 91 32767 ?_
                  refine pk_ 15 18 92 65535 ?_
                  refine pk_ 16 18 10 131071 ?_
                  refine pk_ 17 18 11 262143 ?_
                  refine done_ (done_of HT_.out (by kernel_rfl)) ?_
                  try go_wp2
                  go_ret2
                  exact ⟨_, by first | rfl | (simp [errW_none, errW_some] <;> rfl) | (simp only [← hji27]; first | rfl | (simp [errW_none, errW_some] <;> rfl)) | (simp [*, errW_none, errW_some] <;> rfl), by first | exact Kd.R_nil _ _ _ _ _ | exact Kd.N_nil _ _ _ _ _ | exact Kd.V_nil _ _ _ _ _ | exact Kd.Q_nil _ _ _ _ _ | exact Kd.S_nil _ _ _ _ _, hb_⟩
                ·replace c24 := Bool.eq_false_iff.mpr c24
                 subst c24
                 have H1 : (if 0 < (l1.length : Int) then (if x6_3.length < 17592186044416 then (spec_DivideWhole.l0 kj21 l0 l1 (x6_3 ++ [wrap64 (x8_4 * (rd l1 0))]) (wrap64 (x7_3 + 1))) else (none)) else (none)) = some (r1, r2) := by rw [if_neg (show ¬ (false = true) by decide)] at H; exact H
                 clear H
                 have H := H1
                 clear H1
                 obtain ⟨c38, H⟩ := itn_ H
                 have c38b0 := decide_eq_true c38
                 have c38b1 : decide (0 < l1.length) = true := decide_eq_true (by omega)
                 clear c38
                 obtain ⟨c39, H⟩ := itn_ H
                 have LMc39 := Aside0.mk c39
                 clear c39
                 obtain ⟨y469, Ny469, H⟩ : ∃ y469 : List Int, Aside0 (y469 = (x6_3 ++ [wrap64 (x8_4 * (rd l1 0))])) ∧ (spec_DivideWhole.l0 kj21 l0 l1 y469 (wrap64 (x7_3 + 1))) = some (r1, r2) := ⟨_, ⟨rfl⟩, H⟩
                 have H' := Aside0.mk H
                 clear H
                 have p468 : 0 ≤ (0 : Int) := (by omega)
                 have q468 : 0 < (l1.length : Int) := od_
                 obtain ⟨ad468, e468, hx468_0⟩ := Kd.at_int HR1.out 0 p468 q468
                 cases e468
                 have qi468 : (0 < l1.length) = True := eq_true (by omega)
                 (try rw [show ((0 : Int)).toNat = 0 from rfl] at hx468_0)
                 (try rw [Addr.add_zero'] at hx468_0)
                 (try replace hx468_0 := (HB.out.cell (World.block_lt_of_cell? w _ hx468_0)).trans hx468_0)
                 replace p468 := eq_true p468
                 replace q468 := eq_true q468
                 go_wp2_with (first | ((with_reducible refine gate_builtin (b := .append) (xs := #[.tmp 96, .tmp 102]) rfl ?_); (try (refine gate_guard (by rfl) ?_; dsimp only)); at_builtin; refine Kd.R_append (Kd.int .i64) (w0 := w) w.heap.size rfl (.tmp 96) (.tmp 102) 29 2 (.int .i64 0) 8 rfl Try.underlying29 info2 rfl (by decide) (by omega) u6 x6_3 (wrap64 (x8_4 * (rd l1 0))) [.int .i64 (wrap64 (x8_4 * (rd l1 0)))] (fun _ => True) (fun _ => False) rfl rfl ?aP (fun _ hk => hk.elim) ?aF ?aO ?aB ?aS ?aL ?_; (case aP => exact rfl); (case aB => exact hb_); (case aF => exact (fun _ _ => trivial)); (case aO => exact (Kd.R_below HO_6.out bgo_)); (case aS => exact (below_size hb_)); (case aL => have := LMc39.out; omega); intro v470 w40 ho hb hg hat; rw [← Ny469.out] at ho; replace HB := Aside0.mk (hb); have HO471 := Aside0.mk (ho); clear HO_6; clear ho hb hg hat))
                 first | go_roundg kj21 | (refine Handed.intro kj21 ?measure ?_; rotate_left; go_step; (try simp only [add_plain]); (repeat apply Exists.intro); refine ⟨?rel, rfl⟩)
                 case measure => have := HJ2.out; have := HJ7.out; have := HK3.out; have := HK4.out; have := HJ21.out; omega
                 case rel => exact ⟨(y469), (wrap64 (x7_3 + 1)), es_, H', ⟨by have := HJ2.out; have := HJ7.out; have := HK3.out; have := HK4.out; have := HJ21.out; omega⟩, ⟨Kd.R_below HO471.out bgo_⟩, ⟨hb_⟩⟩
           ·rw [if_neg c19] at H
            have c19b0 := decide_eq_false c19
            clear c19
            obtain ⟨t472, A41, H⟩ := bnd_ H
            obtain ⟨⟨t475, t476⟩, A42, H⟩ := bnd_ H
            dsimp only at H
            by_cases c43 : t476 = true
            ·subst c43
             have H1 : (spec_DivideWhole.l2 k3 l0 x6_3 t475 ((t475.length : Int) == (l0.length : Int)) 0) = some (r1, r2) := by rw [if_pos rfl] at H; exact H
             clear H
             have H := H1
             clear H1
             have H' := Aside0.mk H
             clear H
             obtain ⟨Ao44, co44, eo44⟩ := Kd.R_slice HO_6.out
             subst eo44
             go_wp2_with (first | ((with_reducible refine gate_callee (f := 175) rfl ?_); refine goesL_ (some 106) rfl rfl Try.func175 (by kernel_rfl) rfl #[.slice Ao44 x6_3.length co44] rfl arg_ ?_; (with_reducible refine (spec_l01Trim.calls k3 _ _ x6_3 t472 _ ?side1 ?side2 A41.out).mono ?_); (case side1 => exact Kd.C_below (Kd.R_reads' HO_6.out).2.2 bgo_); (case side2 => exact (Kd.R_reads' HO_6.out).2.1); rintro e w45 ⟨v473, rfl, ho0, hb⟩; refine ⟨_, rfl, ?_⟩; have HO474 := Aside0.mk (Kd.R_lower (Kd.R_new' ho0 (Kd.R_lt (Kd.R_below HO_6.out bgo_))) (below_size hb_)); replace HO_6 := Aside0.mk (Kd.R_elder' (Kd.R_below HO_6.out bgo_) (Kd.R_base ho0) hb); replace HB := Aside0.mk (below_step hb_ hb); (try clear hb); (try clear hb2); (try clear hk); (try clear hi); (try clear ho0); obtain ⟨Ao46, co46, eo46⟩ := Kd.R_slice HO474.out; subst eo46) | ((with_reducible refine gate_callee (f := 166) rfl ?_); refine goesL_ (some 108) rfl rfl Try.func166 (by kernel_rfl) rfl #[.slice Ao46 t472.length co46, .slice A1 l1.length c1] rfl arg_ ?_; (with_reducible refine (spec_l01Product.calls k3 _ _ t472 _ _ l1 t475 true _ ?side1 ?side2 ?side3 ?side4 A42.out).mono ?_); (case side1 => exact Kd.C_below (Kd.R_reads' HO474.out).2.2 bgo_); (case side2 => exact (Kd.R_reads' HO474.out).2.1); (case side3 => exact Kd.C_below (Kd.C_below HR1.out HB.out) bgo_); (case side4 => exact HC1.out); rintro e w47 ⟨v477, rfl, ho0, hb⟩; refine ⟨_, rfl, ?_⟩; have HO478 := Aside0.mk (Kd.R_lower (Kd.R_new' (Kd.R_new' ho0 (Kd.R_lt (Kd.R_below HO_6.out bgo_))) (Kd.R_lt (Kd.R_below HO474.out bgo_))) (below_size hb_)); replace HO_6 := Aside0.mk (Kd.R_elder' (Kd.R_below HO_6.out bgo_) (Kd.R_base ho0) hb); replace HO474 := Aside0.mk (Kd.R_elder' (Kd.R_below HO474.out bgo_) (Kd.R_base ho0) hb); replace HB := Aside0.mk (below_step hb_ hb); (try clear hb); (try clear hb2); (try clear hk); (try clear hi); (try clear ho0); obtain ⟨Ao48, co48, eo48⟩ := Kd.R_slice HO478.out; subst eo48))
             go_loopg [14, 15] k3 (fun kq v14 v15 w' => ∃ (x14_4 : Bool) (x15_4 : Int), v14 = .bool x14_4 ∧ v15 = .int .i64 x15_4 ∧ Aside0 (spec_DivideWhole.l2 kq l0 x6_3 t475 x14_4 x15_4 = some (r1, r2)) ∧ Aside0 (kq ≤ k3) ∧ Aside0 (Kd.R (Kd.int .i64) 2 w' w.heap.size (fun k_ => some k_ ≠ ((.slice Ao48 t475.length co48) : Value).ownBlock) (.slice Ao44 x6_3.length co44) x6_3) ∧ Aside0 (Kd.R (Kd.int .i64) 2 w' w.heap.size (fun k_ => some k_ ≠ ((.slice Ao44 x6_3.length co44) : Value).ownBlock) (.slice Ao48 t475.length co48) t475) ∧ Aside0 (Below w.heap.size w w'))
             case atStart => exact ⟨(((t475.length : Int) == (l0.length : Int))), (0), es_, es_, H', ⟨Nat.le_refl _⟩, ⟨by (with_reducible repeat (first | apply Kd.R_alloc | apply Kd.R_drewN | apply Kd.R_drew)); exact Kd.R_mono HO_6.out (fun _ hk => hk.2)⟩, ⟨by (with_reducible repeat (first | apply Kd.R_alloc | apply Kd.R_drewN | apply Kd.R_drew)); exact Kd.R_mono HO478.out (fun _ hk => hk.1.2)⟩, ⟨hb_⟩⟩
             case round =>
              clear H'
              obtain ⟨x14_4, x15_4, rfl, rfl, HA, HK4, HO_6, HO_12, HB⟩ := hrel
              cases gk with
              | zero => exact absurd HA.out (by simp [spec_DivideWhole.l2])
              | succ k4 =>
               have H := HA.out
               clear HA
               simp only [spec_DivideWhole.l2] at H
               by_cases c49 : x15_4 < (l0.length : Int)
               ·rw [if_pos c49] at H
                have c49b0 := decide_eq_true c49
                clear c49
                by_cases c50 : x14_4 = true
                ·subst c50
                 have H1 : (if 0 ≤ x15_4 then (if x15_4 < (t475.length : Int) then (spec_DivideWhole.l2 k4 l0 x6_3 t475 ((rd t475 x15_4) == (rd l0 x15_4)) (wrap64 (x15_4 + 1))) else (none)) else (none)) = some (r1, r2) := by rw [if_pos rfl] at H; exact H
                 clear H
                 have H := H1
                 clear H1
                 obtain ⟨c51, H⟩ := itn_ H
                 have c51b0 := decide_eq_true c51
                 clear c51
                 obtain ⟨c52, H⟩ := itn_ H
                 have c52b0 := decide_eq_true c52
                 clear c52
                 have H' := Aside0.mk H
                 clear H
                 try go_wp2
                 have n0_ := Aside0.mk (Kd.R_drew HO_6.out)
                 have n1_ := Aside0.mk (Kd.R_drew HO_12.out)
                 have n2_ := Aside0.mk (below_drew1 HB.out)
                 clear HO_6
                 clear HO_12
                 clear HB
                 have HO_6 := n0_
                 have HO_12 := n1_
                 have HB := n2_
                 clear n0_ n1_ n2_
                 have p479 : 0 ≤ (x15_4 : Int) := od_
                 have q479 : x15_4 < (t475.length : Int) := od_
                 obtain ⟨ad479, e479, hx479_0⟩ := Kd.at_int (Kd.R_reads' HO_12.out).2.2 x15_4 p479 q479
                 cases e479
                 replace p479 := eq_true p479
                 replace q479 := eq_true q479
                 have p480 : 0 ≤ (x15_4 : Int) := od_
                 have q480 : x15_4 < (l0.length : Int) := od_
                 obtain ⟨ad480, e480, hx480_0⟩ := Kd.at_int HR0.out x15_4 p480 q480
                 have hw480_0 := hx480_0
                 cases e480
                 (try replace hx480_0 := (HB.out.cell (World.block_lt_of_cell? w _ hx480_0)).trans hx480_0)
                 replace p480 := eq_true p480
                 replace q480 := eq_true q480
                 refine start_ (n := 10) (S := fun w' => w'.cell? (ad479.add (x15_4).toNat) = some (.int .i64 (rd t475 x15_4)) ∧ w'.cell? (ad480.add (x15_4).toNat) = some (.int .i64 (rd l0 x15_4))) (ds := []) #[false, false, false, false, false, false, false, false, false, false] (by kernel_rfl) rfl rfl ⟨hx479_0, ((HB.out.cell (World.block_lt_of_cell? _ _ hw480_0)).trans hw480_0)⟩ (fun hHeld => ?_); refine with_tabW spec_DivideWhole.tab29 spec_DivideWhole.bits29 (fun HT_ HW_ => ?_)
                 generalize wr.drew = w53 at HO_6 HO_12 HB hx479_0 hx480_0 hHeld ⊢
                 refine pk_ 0 10 127 1 ?_
                 refine pk_ 1 10 128 3 ?_
                 refine pk_ 2 10 129 7 ?_
                 refine pk_ 4 10 131 23 ?_
                 refine pk_ 5 10 132 55 ?_
                 refine pk_ 6 10 133 119 ?_
                 refine tk_ 3 10 130 127 hHeld ?_
                 refine tk_ 7 10 134 255 hHeld ?_
                 refine pk_ 8 10 135 511 ?_
                 refine pk_ 9 10 14 1023 ?_
                 refine done_ (done_of HT_.out (by kernel_rfl)) ?_
                 try go_wp2
                 first | go_roundg k4 | (refine Handed.intro k4 ?measure ?_; rotate_left; go_step; (try simp only [add_plain]); (repeat apply Exists.intro); refine ⟨?rel, rfl⟩)
                 case measure => have := HJ2.out; have := HJ7.out; have := HK3.out; have := HK4.out; omega
                 case rel => exact ⟨(((rd t475 x15_4) == (rd l0 x15_4))), (wrap64 (x15_4 + 1)), es_, es_, H', ⟨by have := HJ2.out; have := HJ7.out; have := HK3.out; have := HK4.out; omega⟩, ⟨Kd.R_below HO_6.out bgo_⟩, ⟨Kd.R_below HO_12.out bgo_⟩, ⟨hb_⟩⟩
                ·replace c50 := Bool.eq_false_iff.mpr c50
                 subst c50
                 have H1 : (some (([] : List Int), 4)) = some (r1, r2) := by rw [if_neg (show ¬ (false = true) by decide)] at H; exact H
                 clear H
                 have H := H1
                 clear H1
                 simp only [Option.some.injEq, Prod.mk.injEq] at H
                 obtain ⟨rfl, rfl⟩ := H
                 go_wp2
                 go_ret2
                 exact ⟨_, er_, by first | exact Kd.R_nil _ _ _ _ _ | exact Kd.N_nil _ _ _ _ _ | exact Kd.V_nil _ _ _ _ _ | exact Kd.Q_nil _ _ _ _ _ | exact Kd.S_nil _ _ _ _ _, hb_⟩
               ·rw [if_neg c49] at H
                have c49b0 := decide_eq_false c49
                clear c49
                by_cases c54 : x14_4 = true
                ·subst c54
                 have H1 : ((spec_l01Trim.f k4 x6_3).bind fun t481 => (some (t481, 0))) = some (r1, r2) := by rw [if_pos rfl] at H; exact H
                 clear H
                 have H := H1
                 clear H1
                 obtain ⟨t481, A55, H⟩ := bnd_ H
                 simp only [Option.some.injEq, Prod.mk.injEq] at H
                 obtain ⟨rfl, rfl⟩ := H
                 go_wp2_with (first | ((with_reducible refine gate_callee (f := 175) rfl ?_); refine goesL_ (some 139) rfl rfl Try.func175 (by kernel_rfl) rfl #[.slice Ao44 x6_3.length co44] rfl arg_ ?_; (with_reducible refine (spec_l01Trim.calls k4 _ _ x6_3 t481 _ ?side1 ?side2 A55.out).mono ?_); (case side1 => exact Kd.C_below (Kd.R_reads' HO_6.out).2.2 bgo_); (case side2 => exact (Kd.R_reads' HO_6.out).2.1); rintro e w56 ⟨v482, rfl, ho0, hb⟩; refine ⟨_, rfl, ?_⟩; have HO483 := Aside0.mk (Kd.R_lower (Kd.R_new' (Kd.R_new' ho0 (Kd.R_lt (Kd.R_below HO_6.out bgo_))) (Kd.R_lt (Kd.R_below HO_12.out bgo_))) (below_size hb_)); replace HO_6 := Aside0.mk (Kd.R_elder' (Kd.R_below HO_6.out bgo_) (Kd.R_base ho0) hb); replace HO_12 := Aside0.mk (Kd.R_elder' (Kd.R_below HO_12.out bgo_) (Kd.R_base ho0) hb); replace HB := Aside0.mk (below_step hb_ hb); (try clear hb); (try clear hb2); (try clear hk); (try clear hi); (try clear ho0)))
                 go_ret2
                 exact ⟨_, er_, by (with_reducible repeat (first | apply Kd.R_alloc | apply Kd.R_drewN | apply Kd.R_drew)); exact Kd.R_mono HO483.out (fun _ hk => trivial), hb_⟩
                ·replace c54 := Bool.eq_false_iff.mpr c54
                 subst c54
                 have H1 : (some (([] : List Int), 4)) = some (r1, r2) := by rw [if_neg (show ¬ (false = true) by decide)] at H; exact H
                 clear H
                 have H := H1
                 clear H1
                 simp only [Option.some.injEq, Prod.mk.injEq] at H
                 obtain ⟨rfl, rfl⟩ := H
                 go_wp2
                 go_ret2
                 exact ⟨_, er_, by first | exact Kd.R_nil _ _ _ _ _ | exact Kd.N_nil _ _ _ _ _ | exact Kd.V_nil _ _ _ _ _ | exact Kd.Q_nil _ _ _ _ _ | exact Kd.S_nil _ _ _ _ _, hb_⟩
            ·replace c43 := Bool.eq_false_iff.mpr c43
             subst c43
             have H1 : (some (([] : List Int), 3)) = some (r1, r2) := by rw [if_neg (show ¬ (false = true) by decide)] at H; exact H
             clear H
             have H := H1
             clear H1
             simp only [Option.some.injEq, Prod.mk.injEq] at H
             obtain ⟨rfl, rfl⟩ := H
             obtain ⟨Ao57, co57, eo57⟩ := Kd.R_slice HO_6.out
             subst eo57
             go_wp2_with (first | ((with_reducible refine gate_callee (f := 175) rfl ?_); refine goesL_ (some 106) rfl rfl Try.func175 (by kernel_rfl) rfl #[.slice Ao57 x6_3.length co57] rfl arg_ ?_; (with_reducible refine (spec_l01Trim.calls k3 _ _ x6_3 t472 _ ?side1 ?side2 A41.out).mono ?_); (case side1 => exact Kd.C_below (Kd.R_reads' HO_6.out).2.2 bgo_); (case side2 => exact (Kd.R_reads' HO_6.out).2.1); rintro e w58 ⟨v473, rfl, ho0, hb⟩; refine ⟨_, rfl, ?_⟩; have HO474 := Aside0.mk (Kd.R_lower (Kd.R_new' ho0 (Kd.R_lt (Kd.R_below HO_6.out bgo_))) (below_size hb_)); replace HO_6 := Aside0.mk (Kd.R_elder' (Kd.R_below HO_6.out bgo_) (Kd.R_base ho0) hb); replace HB := Aside0.mk (below_step hb_ hb); (try clear hb); (try clear hb2); (try clear hk); (try clear hi); (try clear ho0); obtain ⟨Ao59, co59, eo59⟩ := Kd.R_slice HO474.out; subst eo59) | ((with_reducible refine gate_callee (f := 166) rfl ?_); refine goesL_ (some 108) rfl rfl Try.func166 (by kernel_rfl) rfl #[.slice Ao59 t472.length co59, .slice A1 l1.length c1] rfl arg_ ?_; (with_reducible refine (spec_l01Product.calls k3 _ _ t472 _ _ l1 t475 false _ ?side1 ?side2 ?side3 ?side4 A42.out).mono ?_); (case side1 => exact Kd.C_below (Kd.R_reads' HO474.out).2.2 bgo_); (case side2 => exact (Kd.R_reads' HO474.out).2.1); (case side3 => exact Kd.C_below (Kd.C_below HR1.out HB.out) bgo_); (case side4 => exact HC1.out); rintro e w60 ⟨v477, rfl, ho0, hb⟩; refine ⟨_, rfl, ?_⟩; have HO478 := Aside0.mk (Kd.R_lower (Kd.R_new' (Kd.R_new' ho0 (Kd.R_lt (Kd.R_below HO_6.out bgo_))) (Kd.R_lt (Kd.R_below HO474.out bgo_))) (below_size hb_)); replace HO_6 := Aside0.mk (Kd.R_elder' (Kd.R_below HO_6.out bgo_) (Kd.R_base ho0) hb); replace HO474 := Aside0.mk (Kd.R_elder' (Kd.R_below HO474.out bgo_) (Kd.R_base ho0) hb); replace HB := Aside0.mk (below_step hb_ hb); (try clear hb); (try clear hb2); (try clear hk); (try clear hi); (try clear ho0)))
             go_ret2
             exact ⟨_, er_, by first | exact Kd.R_nil _ _ _ _ _ | exact Kd.N_nil _ _ _ _ _ | exact Kd.V_nil _ _ _ _ _ | exact Kd.Q_nil _ _ _ _ _ | exact Kd.S_nil _ _ _ _ _, hb_⟩

/-! ### spec_DrawDeterminantWhole: function 66 -/
mutual
def spec_DrawDeterminantWhole.l0 : Nat → Int → Int → List (List Int) → Int → List Int → Int → Int → Option ((List (List Int)))
 | 0, _, _, _, _, _, _, _ => none
 | k + 1, x4, x5, x6, x7, x488000, x488001, x488002 => if x7 < x4 then (spec_DrawDeterminantWhole.l1 k x4 x5 x6 x7 (([] : List Int)) 0 x488000 x488001 x488002) else (if x4 > 0 then ((spec_l01Next.f x488000 x488001 x488002 24).bind fun bt521 => (spec_DrawDeterminantWhole.j2 k x6 (bt521.1 == 0) x488000 bt521.2.1 bt521.2.2)) else (spec_DrawDeterminantWhole.j2 k x6 false x488000 x488001 x488002))
def spec_DrawDeterminantWhole.l1 : Nat → Int → Int → List (List Int) → Int → List Int → Int → List Int → Int → Int → Option ((List (List Int)))
 | 0, _, _, _, _, _, _, _, _, _ => none
 | k + 1, x4, x5, x6, x7, x8, x9, x488000, x488001, x488002 => if x9 < x4 then ((spec_l01Next.f x488000 x488001 x488002 (wrap64 ((wrap64 (2 * x5)) + 1))).bind fun bt506 => ((spec_l01Pick.f x488000 bt506.2.1 bt506.2.2 (([0, 1, 1] : List Int))).bind fun bt512 => (if x8.length < 17592186044416 then (spec_DrawDeterminantWhole.l1 k x4 x5 x6 x7 (x8 ++ [wrap64 ((wrap64 (bt506.1 - x5)) * bt512.1)]) (wrap64 (x9 + 1)) x488000 bt512.2.1 bt512.2.2) else (none)))) else (if x6.length < 5864062014805 then (spec_DrawDeterminantWhole.l0 k x4 x5 (x6 ++ [x8]) (wrap64 (x7 + 1)) x488000 x488001 x488002) else (none))
def spec_DrawDeterminantWhole.j2 : Nat → List (List Int) → Bool → List Int → Int → Int → Option ((List (List Int)))
 | 0, _, _, _, _, _ => none
 | k + 1, x6, x55, x488000, x488001, x488002 => if x55 = true then ((spec_l01Next.f x488000 x488001 x488002 2).bind fun bt524 => (if bt524.1 = 0 then (if 0 < (x6.length : Int) then (if (rd_L2 x6 0).length < 17592186044416 then (some (x6.set (0 : Int).toNat ((rd_L2 x6 0) ++ [0]))) else (none)) else (none)) else (if 0 < (x6.length : Int) then ((spec_l01Pick.f x488000 bt524.2.1 bt524.2.2 (([21, (-21)] : List Int))).bind fun bt536 => (if 0 < ((rd_L2 x6 0).length : Int) then (some (x6.set (0 : Int).toNat ((rd_L2 x6 0).set (0 : Int).toNat bt536.1))) else (none))) else (none)))) else (some x6)
end
def spec_DrawDeterminantWhole.f (k : Nat) (l0 : List Int) : Option ((List (List Int))) := (spec_l01From.f k l0).bind fun bt484 => ((spec_l01Pick.f bt484.1 bt484.2.1 bt484.2.2 (([0, 1, 2, 3, 4, 6, 8, 9] : List Int))).bind fun bt491 => ((spec_l01Pick.f bt484.1 bt491.2.1 bt491.2.2 (([1, 2, 5, 20] : List Int))).bind fun bt497 => (spec_DrawDeterminantWhole.l0 k bt491.1 bt497.1 (([] : List (List Int))) 0 bt484.1 bt497.2.1 bt497.2.2)))
set_option maxHeartbeats 8000000 in
set_option maxRecDepth 100000 in
theorem spec_DrawDeterminantWhole.calls (k : Nat) (A0 : Option Addr) (c0 : Nat) (l0 : List Int) (r : List (List Int)) (w : World) (hr0 : Kd.C (Kd.int .u8) w A0 l0.length l0) (hc0 : l0.length ≤ c0) (h : spec_DrawDeterminantWhole.f k l0 = some r) :
  Calls Try.prog 66 #[.slice A0 l0.length c0] w fun e w' => ∃ v0_ : Value, e = .returned (v0_) ∧ Kd.S (Kd.slice 2 (Kd.int .i64)) 29 w' w.heap.size (fun _ => True) v0_ r ∧ Below w.heap.size w w' := by
 have HR0 := Aside0.mk hr0
 have HC0 := Aside0.mk hc0
 clear hr0 hc0
 have HB := Aside0.mk (Below.refl w.heap.size w)
 have H : ((spec_l01From.f k l0).bind fun bt484 => ((spec_l01Pick.f bt484.1 bt484.2.1 bt484.2.2 (([0, 1, 2, 3, 4, 6, 8, 9] : List Int))).bind fun bt491 => ((spec_l01Pick.f bt484.1 bt491.2.1 bt491.2.2 (([1, 2, 5, 20] : List Int))).bind fun bt497 => (spec_DrawDeterminantWhole.l0 k bt491.1 bt497.1 (([] : List (List Int))) 0 bt484.1 bt497.2.1 bt497.2.2)))) = some r := h
 clear h
 obtain ⟨⟨t484, t485, t486⟩, A2, H⟩ := bnd_ H
 dsimp only at H
 obtain ⟨y488, Ny488, H⟩ : ∃ y488 : List Int, Aside0 (y488 = (([0, 1, 2, 3, 4, 6, 8, 9] : List Int))) ∧ ((spec_l01Pick.f t484 t485 t486 y488).bind fun bt491 => ((spec_l01Pick.f t484 bt491.2.1 bt491.2.2 (([1, 2, 5, 20] : List Int))).bind fun bt497 => (spec_DrawDeterminantWhole.l0 k bt491.1 bt497.1 (([] : List (List Int))) 0 t484 bt497.2.1 bt497.2.2))) = some r := ⟨_, ⟨rfl⟩, H⟩
 obtain ⟨⟨t491, t492, t493⟩, A3, H⟩ := bnd_ H
 dsimp only at H
 obtain ⟨y494, Ny494, H⟩ : ∃ y494 : List Int, Aside0 (y494 = (([1, 2, 5, 20] : List Int))) ∧ ((spec_l01Pick.f t484 t492 t493 y494).bind fun bt497 => (spec_DrawDeterminantWhole.l0 k t491 bt497.1 (([] : List (List Int))) 0 t484 bt497.2.1 bt497.2.2)) = some r := ⟨_, ⟨rfl⟩, H⟩
 obtain ⟨⟨t497, t498, t499⟩, A4, H⟩ := bnd_ H
 dsimp only at H
 obtain ⟨y500, Ny500, H⟩ : ∃ y500 : List (List Int), Aside0 (y500 = (([] : List (List Int)))) ∧ (spec_DrawDeterminantWhole.l0 k t491 t497 y500 0 t484 t498 t499) = some r := ⟨_, ⟨rfl⟩, H⟩
 have H' := Aside0.mk H
 clear H
 go_enter Try.func66, Try.ntmps66
 go_wp2_with (first | ((with_reducible refine gate_callee (f := 102) rfl ?_); refine goesL_ (some 12) rfl rfl Try.func102 (by kernel_rfl) rfl #[.slice A0 l0.length c0] rfl arg_ ?_; (with_reducible refine (spec_l01From.calls k _ _ l0 t484 t485 t486 w _ ?side1 ?side2 ?side3 A2.out).mono ?_); (case side1 => exact hb_); (case side2 => exact HR0.out); (case side3 => exact HC0.out); rintro e w5 ⟨g487, rfl, hi, hb, hb2⟩; refine ⟨_, rfl, ?_⟩; replace HB := Aside0.mk (hb); have HI487 := Aside0.mk (hi); (try clear hb); (try clear hb2); (try clear hk); (try clear hi)) | ((with_reducible refine gate_dst (N := 14) rfl ?_); refine Kd.R_lit (Kd.int .i64) _ 2 ?hg (N := 14) ?hd (xs := ([0, 1, 2, 3, 4, 6, 8, 9] : List Int)) (inner := [.int .i64 0, .int .i64 1, .int .i64 2, .int .i64 3, .int .i64 4, .int .i64 6, .int .i64 8, .int .i64 9]) (ok := fun _ => True) (okp := fun _ => True) ?hr ?hp (fun _ hk => hk) trivial (Below.refl _ _) (Nat.le_refl _) (by simp) ?_; (case hd => rfl); (case hg => rfl); (case hr => first | (go_simp; done) | (go_simp; rfl)); (case hp => exact (Reps.one (show Kd.M (Kd.int .i64) _ _ _ 0 [.int .i64 0] from rfl) (Reps.one (show Kd.M (Kd.int .i64) _ _ _ 1 [.int .i64 1] from rfl) (Reps.one (show Kd.M (Kd.int .i64) _ _ _ 2 [.int .i64 2] from rfl) (Reps.one (show Kd.M (Kd.int .i64) _ _ _ 3 [.int .i64 3] from rfl) (Reps.one (show Kd.M (Kd.int .i64) _ _ _ 4 [.int .i64 4] from rfl) (Reps.one (show Kd.M (Kd.int .i64) _ _ _ 6 [.int .i64 6] from rfl) (Reps.one (show Kd.M (Kd.int .i64) _ _ _ 8 [.int .i64 8] from rfl) (Reps.one (show Kd.M (Kd.int .i64) _ _ _ 9 [.int .i64 9] from rfl) (Reps.none _ _)))))))))); intro v489 w6 ho7 hb hg_ hnew_; clear hg_ hnew_; (first | rw [← Ny488.out] at ho7 | (simp only [Int.reduceToNat] at ho7; rw [← Ny488.out] at ho7)); have HO490 := Aside0.mk (Kd.R_lower ho7 (below_size IsS131.hb_)); replace HB := Aside0.mk (below_step IsS131.hb_ hb); replace HI487 := Aside0.mk (IsS131.below IsS131.go_ hb); clear hb ho7; obtain ⟨Ao8, co8, eo8⟩ := Kd.R_slice HO490.out; subst eo8) | ((with_reducible refine gate_callee (f := 144) rfl ?_); refine goesL_ (some 15) rfl rfl Try.func144 (by kernel_rfl) rfl #[.pointer (some ⟨g487, 0, none⟩), .slice Ao8 y488.length co8] rfl arg_ ?_; (with_reducible refine (spec_l01Pick.calls g487 t484 t485 t486 _ _ y488 t491 t492 t493 w _ ?side1 ?side2 ?side3 ?side4 ?side5 A3.out).mono ?_); (case side1 => exact IsS131.go_); (case side2 => exact IsS131.hb_); (case side3 => exact Kd.C_below (Kd.R_reads' HO490.out).2.2 bgo_); (case side4 => exact (Kd.R_reads' HO490.out).2.1); (case side5 => exact far_slice (IsS131.own_ne HI487.out HO490.out (by decide))); rintro e w9 ⟨rfl, hi, hb, hk⟩; refine ⟨_, rfl, ?_⟩; replace HO490 := Aside0.mk (Kd.R_mono (Kd.R_keep (IsS131.apart (show IsS131 w _ g487 t484 t485 t486 from IsS131.go_) (Kd.R_below HO490.out bgo_) (by decide)) hk (fun _ h => h.2)) (fun _ h => h.1)); replace HB := Aside0.mk (hb); replace HI487 := Aside0.mk (hi); (try clear hb); (try clear hb2); (try clear hk); (try clear hi)) | ((with_reducible refine gate_dst (N := 17) rfl ?_); refine Kd.R_lit (Kd.int .i64) _ 2 ?hg (N := 17) ?hd (xs := ([1, 2, 5, 20] : List Int)) (inner := [.int .i64 1, .int .i64 2, .int .i64 5, .int .i64 20]) (ok := fun _ => True) (okp := fun _ => True) ?hr ?hp (fun _ hk => hk) trivial (Below.refl _ _) (Nat.le_refl _) (by simp) ?_; (case hd => rfl); (case hg => rfl); (case hr => first | (go_simp; done) | (go_simp; rfl)); (case hp => exact (Reps.one (show Kd.M (Kd.int .i64) _ _ _ 1 [.int .i64 1] from rfl) (Reps.one (show Kd.M (Kd.int .i64) _ _ _ 2 [.int .i64 2] from rfl) (Reps.one (show Kd.M (Kd.int .i64) _ _ _ 5 [.int .i64 5] from rfl) (Reps.one (show Kd.M (Kd.int .i64) _ _ _ 20 [.int .i64 20] from rfl) (Reps.none _ _)))))); intro v495 w10 ho11 hb hg_ hnew_; clear hg_ hnew_; (first | rw [← Ny494.out] at ho11 | (simp only [Int.reduceToNat] at ho11; rw [← Ny494.out] at ho11)); have HO496 := Aside0.mk (Kd.R_lower (Kd.R_new' ho11 (Kd.R_lt (Kd.R_below HO490.out bgo_))) (below_size IsS131.hb_)); replace HO490 := Aside0.mk (Kd.R_elder' (Kd.R_below HO490.out bgo_) (Kd.R_base ho11) hb); replace HB := Aside0.mk (below_step IsS131.hb_ hb); replace HI487 := Aside0.mk (IsS131.below IsS131.go_ hb); clear hb ho11; obtain ⟨Ao12, co12, eo12⟩ := Kd.R_slice HO496.out; subst eo12) | ((with_reducible refine gate_callee (f := 144) rfl ?_); refine goesL_ (some 18) rfl rfl Try.func144 (by kernel_rfl) rfl #[.pointer (some ⟨g487, 0, none⟩), .slice Ao12 y494.length co12] rfl arg_ ?_; (with_reducible refine (spec_l01Pick.calls g487 t484 t492 t493 _ _ y494 t497 t498 t499 w _ ?side1 ?side2 ?side3 ?side4 ?side5 A4.out).mono ?_); (case side1 => exact IsS131.go_); (case side2 => exact IsS131.hb_); (case side3 => exact Kd.C_below (Kd.R_reads' HO496.out).2.2 bgo_); (case side4 => exact (Kd.R_reads' HO496.out).2.1); (case side5 => exact far_slice (IsS131.own_ne HI487.out HO496.out (by decide))); rintro e w13 ⟨rfl, hi, hb, hk⟩; refine ⟨_, rfl, ?_⟩; replace HO490 := Aside0.mk (Kd.R_mono (Kd.R_keep (IsS131.apart (show IsS131 w _ g487 t484 t492 t493 from IsS131.go_) (Kd.R_below HO490.out bgo_) (by decide)) hk (fun _ h => h.2)) (fun _ h => h.1)); replace HO496 := Aside0.mk (Kd.R_mono (Kd.R_keep (IsS131.apart (show IsS131 w _ g487 t484 t492 t493 from IsS131.go_) (Kd.R_below HO496.out bgo_) (by decide)) hk (fun _ h => h.2)) (fun _ h => h.1)); replace HB := Aside0.mk (hb); replace HI487 := Aside0.mk (hi); (try clear hb); (try clear hb2); (try clear hk); (try clear hi)) | ((with_reducible refine gate_dst (N := 19) rfl ?_); refine Kd.S_lit (Kd.slice 2 (Kd.int .i64)) _ 29 ?hg (N := 19) ?hd (xs := ([] : List (List Int))) (inner := []) (ok := fun _ => True) (okp := fun _ => True) ?hr ?hp (fun _ hk => hk) trivial (Below.refl _ _) (Nat.le_refl _) (by simp) ?_; (case hd => rfl); (case hg => rfl); (case hr => first | (go_simp; done) | (go_simp; rfl)); (case hp => exact (Reps.none _ _)); intro v501 w14 ho15 hb hg_ hnew_; clear hg_ hnew_; (first | rw [← Ny500.out] at ho15 | (simp only [Int.reduceToNat] at ho15; rw [← Ny500.out] at ho15)); have HO502 := Aside0.mk (Kd.S_lower (Kd.S_new' (Kd.S_new' ho15 (Kd.R_lt (Kd.R_below HO490.out bgo_))) (Kd.R_lt (Kd.R_below HO496.out bgo_))) (below_size IsS131.hb_)); replace HO490 := Aside0.mk (Kd.R_below (Kd.R_below HO490.out bgo_) hb); replace HO496 := Aside0.mk (Kd.R_below (Kd.R_below HO496.out bgo_) hb); replace HB := Aside0.mk (below_step IsS131.hb_ hb); replace HI487 := Aside0.mk (IsS131.below IsS131.go_ hb); clear hb ho15))
 go_loopg [6, 7] k (fun kq v6 v7 w' => ∃ (x6_1 : List (List Int)) (x7_1 : Int) (x488001_1 : Int) (x488002_1 : Int), v7 = .int .i64 x7_1 ∧ Aside0 (spec_DrawDeterminantWhole.l0 kq t491 t497 x6_1 x7_1 t484 x488001_1 x488002_1 = some r) ∧ Aside0 (kq ≤ k) ∧ Aside0 (Kd.S (Kd.slice 2 (Kd.int .i64)) 29 w' w.heap.size (fun _ => True) v6 x6_1) ∧ Aside0 (IsS131 w w' g487 t484 x488001_1 x488002_1) ∧ Aside0 (Below w.heap.size w w'))
 case atStart => exact ⟨(y500), (0), (t498), (t499), es_, H', ⟨Nat.le_refl _⟩, ⟨by (with_reducible repeat (first | apply Kd.S_alloc | apply Kd.S_drewN | apply Kd.S_drew)); exact Kd.S_mono HO502.out (fun _ hk => trivial)⟩, ⟨IsS131.go_⟩, ⟨IsS131.hb_⟩⟩
 case round =>
  clear H'
  obtain ⟨x6_1, x7_1, x488001_1, x488002_1, rfl, HA, HK1, HO_6, HI487, HB⟩ := hrel
  cases gk with
  | zero => exact absurd HA.out (by simp [spec_DrawDeterminantWhole.l0])
  | succ k1 =>
   have H := HA.out
   clear HA
   simp only [spec_DrawDeterminantWhole.l0] at H
   by_cases c16 : x7_1 < t491
   ·rw [if_pos c16] at H
    have c16b0 := decide_eq_true c16
    clear c16
    obtain ⟨y503, Ny503, H⟩ : ∃ y503 : List Int, Aside0 (y503 = (([] : List Int))) ∧ (spec_DrawDeterminantWhole.l1 k1 t491 t497 x6_1 x7_1 y503 0 t484 x488001_1 x488002_1) = some r := ⟨_, ⟨rfl⟩, H⟩
    have H' := Aside0.mk H
    clear H
    go_wp2_with (first | ((with_reducible refine gate_dst (N := 25) rfl ?_); refine Kd.R_lit (Kd.int .i64) _ 2 ?hg (N := 25) ?hd (xs := ([] : List Int)) (inner := []) (ok := fun _ => True) (okp := fun _ => True) ?hr ?hp (fun _ hk => hk) trivial (Below.refl _ _) (Nat.le_refl _) (by simp) ?_; (case hd => rfl); (case hg => rfl); (case hr => first | (go_simp; done) | (go_simp; rfl)); (case hp => exact (Reps.none _ _)); intro v504 w17 ho18 hb hg_ hnew_; clear hg_ hnew_; (first | rw [← Ny503.out] at ho18 | (simp only [Int.reduceToNat] at ho18; rw [← Ny503.out] at ho18)); replace HO_6 := Aside0.mk (Kd.S_elder' (Kd.S_below HO_6.out bgo_) (Kd.R_base ho18) hb); have HO505 := Aside0.mk (Kd.R_lower ho18 (below_size IsS131.hb_)); replace HB := Aside0.mk (below_step IsS131.hb_ hb); replace HI487 := Aside0.mk (IsS131.below IsS131.go_ hb); clear hb ho18))
    go_loopg [8, 9] k1 (fun kq v8 v9 w' => ∃ (x8_2 : List Int) (x9_2 : Int) (x488001_2 : Int) (x488002_2 : Int), v9 = .int .i64 x9_2 ∧ Aside0 (spec_DrawDeterminantWhole.l1 kq t491 t497 x6_1 x7_1 x8_2 x9_2 t484 x488001_2 x488002_2 = some r) ∧ Aside0 (kq ≤ k1) ∧ Aside0 (Kd.S (Kd.slice 2 (Kd.int .i64)) 29 w' w.heap.size (fun k_ => some k_ ≠ (v8 : Value).ownBlock) u6 x6_1) ∧ Aside0 (Kd.R (Kd.int .i64) 2 w' w.heap.size (fun _ => True) v8 x8_2) ∧ Aside0 (IsS131 w w' g487 t484 x488001_2 x488002_2) ∧ Aside0 (Below w.heap.size w w'))
    case atStart => exact ⟨(y503), (0), (x488001_1), (x488002_1), es_, H', ⟨Nat.le_refl _⟩, ⟨by (with_reducible repeat (first | apply Kd.S_alloc | apply Kd.S_drewN | apply Kd.S_drew)); exact Kd.S_mono HO_6.out (fun _ hk => hk.2)⟩, ⟨Kd.R_below HO505.out bgo_⟩, ⟨IsS131.go_⟩, ⟨IsS131.hb_⟩⟩
    case round =>
     clear H'
     obtain ⟨x8_2, x9_2, x488001_2, x488002_2, rfl, HA, HK2, HO_6, HO_8, HI487, HB⟩ := hrel
     cases gk with
     | zero => exact absurd HA.out (by simp [spec_DrawDeterminantWhole.l1])
     | succ k2 =>
      have H := HA.out
      clear HA
      simp only [spec_DrawDeterminantWhole.l1] at H
      by_cases c19 : x9_2 < t491
      ·rw [if_pos c19] at H
       have c19b0 := decide_eq_true c19
       clear c19
       obtain ⟨⟨t506, t507, t508⟩, A20, H⟩ := bnd_ H
       dsimp only at H
       obtain ⟨y509, Ny509, H⟩ : ∃ y509 : List Int, Aside0 (y509 = (([0, 1, 1] : List Int))) ∧ ((spec_l01Pick.f t484 t507 t508 y509).bind fun bt512 => (if x8_2.length < 17592186044416 then (spec_DrawDeterminantWhole.l1 k2 t491 t497 x6_1 x7_1 (x8_2 ++ [wrap64 ((wrap64 (t506 - t497)) * bt512.1)]) (wrap64 (x9_2 + 1)) t484 bt512.2.1 bt512.2.2) else (none))) = some r := ⟨_, ⟨rfl⟩, H⟩
       obtain ⟨⟨t512, t513, t514⟩, A21, H⟩ := bnd_ H
       dsimp only at H
       obtain ⟨c22, H⟩ := itn_ H
       have LMc22 := Aside0.mk c22
       clear c22
       obtain ⟨y515, Ny515, H⟩ : ∃ y515 : List Int, Aside0 (y515 = (x8_2 ++ [wrap64 ((wrap64 (t506 - t497)) * t512)])) ∧ (spec_DrawDeterminantWhole.l1 k2 t491 t497 x6_1 x7_1 y515 (wrap64 (x9_2 + 1)) t484 t513 t514) = some r := ⟨_, ⟨rfl⟩, H⟩
       have H' := Aside0.mk H
       clear H
       go_wp2_with (first | ((with_reducible refine gate_callee (f := 171) rfl ?_); refine goesL_ (some 36) rfl rfl Try.func171 (by kernel_rfl) rfl #[.pointer (some ⟨g487, 0, none⟩), .int .i64 (wrap64 ((wrap64 (2 * t497)) + 1))] rfl arg_ ?_; (with_reducible refine (spec_l01Next.calls g487 t484 x488001_2 x488002_2 (wrap64 ((wrap64 (2 * t497)) + 1)) t506 t507 t508 w _ ?side1 ?side2 A20.out).mono ?_); (case side1 => exact IsS131.go_); (case side2 => exact IsS131.hb_); rintro e w23 ⟨rfl, hi, hb, hk⟩; refine ⟨_, rfl, ?_⟩; replace HO_6 := Aside0.mk (Kd.S_mono (Kd.S_keep (IsS131.apartS (show IsS131 w _ g487 t484 x488001_2 x488002_2 from IsS131.go_) (Kd.S_below HO_6.out bgo_) (by decide)) hk (fun _ h => h.2)) (fun _ h => h.1)); replace HO_8 := Aside0.mk (Kd.R_mono (Kd.R_keep (IsS131.apart (show IsS131 w _ g487 t484 x488001_2 x488002_2 from IsS131.go_) (Kd.R_below HO_8.out bgo_) (by decide)) hk (fun _ h => h.2)) (fun _ h => h.1)); replace HB := Aside0.mk (hb); replace HI487 := Aside0.mk (hi); (try clear hb); (try clear hb2); (try clear hk); (try clear hi)) | ((with_reducible refine gate_dst (N := 40) rfl ?_); refine Kd.R_lit (Kd.int .i64) _ 2 ?hg (N := 40) ?hd (xs := ([0, 1, 1] : List Int)) (inner := [.int .i64 0, .int .i64 1, .int .i64 1]) (ok := fun _ => True) (okp := fun _ => True) ?hr ?hp (fun _ hk => hk) trivial (Below.refl _ _) (Nat.le_refl _) (by simp) ?_; (case hd => rfl); (case hg => rfl); (case hr => first | (go_simp; done) | (go_simp; rfl)); (case hp => exact (Reps.one (show Kd.M (Kd.int .i64) _ _ _ 0 [.int .i64 0] from rfl) (Reps.one (show Kd.M (Kd.int .i64) _ _ _ 1 [.int .i64 1] from rfl) (Reps.one (show Kd.M (Kd.int .i64) _ _ _ 1 [.int .i64 1] from rfl) (Reps.none _ _))))); intro v510 w24 ho25 hb hg_ hnew_; clear hg_ hnew_; (first | rw [← Ny509.out] at ho25 | (simp only [Int.reduceToNat] at ho25; rw [← Ny509.out] at ho25)); replace HO_6 := Aside0.mk (Kd.S_elder' (Kd.S_below HO_6.out bgo_) (Kd.R_base ho25) hb); have HO511 := Aside0.mk (Kd.R_lower (Kd.R_new' ho25 (Kd.R_lt (Kd.R_below HO_8.out bgo_))) (below_size IsS131.hb_)); replace HO_8 := Aside0.mk (Kd.R_elder' (Kd.R_below HO_8.out bgo_) (Kd.R_base ho25) hb); replace HB := Aside0.mk (below_step IsS131.hb_ hb); replace HI487 := Aside0.mk (IsS131.below IsS131.go_ hb); clear hb ho25; obtain ⟨Ao26, co26, eo26⟩ := Kd.R_slice HO511.out; subst eo26) | ((with_reducible refine gate_callee (f := 144) rfl ?_); refine goesL_ (some 41) rfl rfl Try.func144 (by kernel_rfl) rfl #[.pointer (some ⟨g487, 0, none⟩), .slice Ao26 y509.length co26] rfl arg_ ?_; (with_reducible refine (spec_l01Pick.calls g487 t484 t507 t508 _ _ y509 t512 t513 t514 w _ ?side1 ?side2 ?side3 ?side4 ?side5 A21.out).mono ?_); (case side1 => exact IsS131.go_); (case side2 => exact IsS131.hb_); (case side3 => exact Kd.C_below (Kd.R_reads' HO511.out).2.2 bgo_); (case side4 => exact (Kd.R_reads' HO511.out).2.1); (case side5 => exact far_slice (IsS131.own_ne HI487.out HO511.out (by decide))); rintro e w27 ⟨rfl, hi, hb, hk⟩; refine ⟨_, rfl, ?_⟩; replace HO_6 := Aside0.mk (Kd.S_mono (Kd.S_keep (IsS131.apartS (show IsS131 w _ g487 t484 t507 t508 from IsS131.go_) (Kd.S_below HO_6.out bgo_) (by decide)) hk (fun _ h => h.2)) (fun _ h => h.1)); replace HO_8 := Aside0.mk (Kd.R_mono (Kd.R_keep (IsS131.apart (show IsS131 w _ g487 t484 t507 t508 from IsS131.go_) (Kd.R_below HO_8.out bgo_) (by decide)) hk (fun _ h => h.2)) (fun _ h => h.1)); replace HO511 := Aside0.mk (Kd.R_mono (Kd.R_keep (IsS131.apart (show IsS131 w _ g487 t484 t507 t508 from IsS131.go_) (Kd.R_below HO511.out bgo_) (by decide)) hk (fun _ h => h.2)) (fun _ h => h.1)); replace HB := Aside0.mk (hb); replace HI487 := Aside0.mk (hi); (try clear hb); (try clear hb2); (try clear hk); (try clear hi)) | ((with_reducible refine gate_builtin (b := .append) (xs := #[.tmp 31, .tmp 43]) rfl ?_); at_builtin; refine Kd.R_append (Kd.int .i64) (w0 := w) w.heap.size rfl (.tmp 31) (.tmp 43) 29 2 (.int .i64 0) 8 rfl Try.underlying29 info2 rfl (by decide) (by omega) u8 x8_2 (wrap64 ((wrap64 (t506 - t497)) * t512)) [.int .i64 (wrap64 ((wrap64 (t506 - t497)) * t512))] (fun k_ => some k_ ≠ (.slice Ao26 y509.length co26 : Value).ownBlock) (fun _ => False) rfl rfl ?aP (fun _ hk => hk.elim) ?aF ?aO ?aB ?aS ?aL ?_; (case aP => exact rfl); (case aB => exact IsS131.hb_); (case aF => exact (fun k_ hk => Kd.fresh' (Kd.R_lt (Kd.R_below HO511.out bgo_)) k_ hk)); (case aO => exact (by (with_reducible repeat (first | apply Kd.R_alloc | apply Kd.R_drewN | apply Kd.R_drew)); exact Kd.R_mono HO_8.out (fun _ hk => hk.2))); (case aS => exact (below_size IsS131.hb_)); (case aL => have := LMc22.out; omega); intro v516 w28 ho hb hg hat; rw [← Ny515.out] at ho; replace HO_6 := Aside0.mk (Kd.S_after (ok := (fun k_ => some k_ ≠ (.slice Ao26 y509.length co26 : Value).ownBlock)) (by (with_reducible repeat (first | apply Kd.S_alloc | apply Kd.S_drewN | apply Kd.S_drew)); exact Kd.S_mono HO_6.out (fun _ hk => ⟨hk.2, hk.1⟩)) hg hat); replace HI487 := Aside0.mk (IsS131.grown IsS131.go_ hg (IsS131.own_ne HI487.out HO_8.out (by decide))); replace HO511 := Aside0.mk (Kd.R_after (ok := (fun _ => True)) (Kd.R_below HO511.out bgo_) hg hat); replace HB := Aside0.mk (hb); have HO517 := Aside0.mk (ho); clear HO_8; clear ho hb hg hat))
       first | go_roundg k2 | (refine Handed.intro k2 ?measure ?_; rotate_left; go_step; (try simp only [add_plain]); (repeat apply Exists.intro); refine ⟨?rel, rfl⟩)
       case measure => have := HK1.out; have := HK2.out; omega
       case rel => exact ⟨(y515), (wrap64 (x9_2 + 1)), (t513), (t514), es_, H', ⟨by have := HK1.out; have := HK2.out; omega⟩, ⟨by (with_reducible repeat (first | apply Kd.S_alloc | apply Kd.S_drewN | apply Kd.S_drew)); exact Kd.S_mono HO_6.out (fun _ hk => hk.2)⟩, ⟨by (with_reducible repeat (first | apply Kd.R_alloc | apply Kd.R_drewN | apply Kd.R_drew)); exact Kd.R_mono HO517.out (fun _ hk => trivial)⟩, ⟨IsS131.go_⟩, ⟨IsS131.hb_⟩⟩
      ·rw [if_neg c19] at H
       have c19b0 := decide_eq_false c19
       clear c19
       obtain ⟨c29, H⟩ := itn_ H
       have LMc29 := Aside0.mk c29
       clear c29
       obtain ⟨y518, Ny518, H⟩ : ∃ y518 : List (List Int), Aside0 (y518 = (x6_1 ++ [x8_2])) ∧ (spec_DrawDeterminantWhole.l0 k2 t491 t497 y518 (wrap64 (x7_1 + 1)) t484 x488001_2 x488002_2) = some r := ⟨_, ⟨rfl⟩, H⟩
       have H' := Aside0.mk H
       clear H
       obtain ⟨Ao31, co31, eo31⟩ := Kd.R_slice HO_8.out
       subst eo31
       go_wp2_with (first | ((with_reducible refine gate_builtin (b := .append) (xs := #[.tmp 45, .tmp 47]) rfl ?_); at_builtin; refine Kd.S_append (Kd.slice 2 (Kd.int .i64)) (w0 := w) w.heap.size rfl (.tmp 45) (.tmp 47) 24 29 (.slice none 0 0) 24 rfl Try.underlying24 info29 rfl (by decide) (by omega) u6 x6_1 x8_2 [.slice Ao31 x8_2.length co31] (fun _ => True) (fun k_ => some k_ = (.slice Ao31 x8_2.length co31 : Value).ownBlock) rfl rfl ?aP (fun k_ hk_ => ((Kd.R_mono (ok' := fun k_ => ((fun _ => True)) k_ ∧ some k_ ≠ (u6 : Value).ownBlock) (Kd.R_apart' (HO_8.out) (Kd.S_typed HO_6.out) (by decide)) (fun k_ hk => ⟨trivial, hk.2⟩))).1 k_ hk_.symm) ?aF ?aO ?aB ?aS ?aL ?_; (case aP => exact Kd.M_row (Kd.R_mono (Kd.R_tight rfl (Kd.R_mono (ok' := fun k_ => ((fun _ => True)) k_ ∧ some k_ ≠ (u6 : Value).ownBlock) (Kd.R_apart' (HO_8.out) (Kd.S_typed HO_6.out) (by decide)) (fun k_ hk => ⟨trivial, hk.2⟩))) (fun _ h_ => h_))); (case aB => exact IsS131.hb_); (case aF => exact (fun _ _ => trivial)); (case aO => exact (by (with_reducible repeat (first | apply Kd.S_alloc | apply Kd.S_drewN | apply Kd.S_drew)); exact Kd.S_mono HO_6.out (fun k_ hk => ⟨trivial, fun e_ => hk e_⟩))); (case aS => exact (below_size IsS131.hb_)); (case aL => have := LMc29.out; omega); intro v519 w30 ho hb hg hat; rw [← Ny518.out] at ho; replace HI487 := Aside0.mk (IsS131.grown IsS131.go_ hg (IsS131.own_neS HI487.out HO_6.out (by decide))); replace HB := Aside0.mk (hb); have HO520 := Aside0.mk (ho); clear HO_6 HO_8; clear ho hb hg hat))
       first | go_roundg k2 | (refine Handed.intro k2 ?measure ?_; rotate_left; go_step; (try simp only [add_plain]); (repeat apply Exists.intro); refine ⟨?rel, rfl⟩)
       case measure => have := HK1.out; have := HK2.out; omega
       case rel => exact ⟨(y518), (wrap64 (x7_1 + 1)), (x488001_2), (x488002_2), es_, H', ⟨by have := HK1.out; have := HK2.out; omega⟩, ⟨Kd.S_below HO520.out bgo_⟩, ⟨IsS131.go_⟩, ⟨IsS131.hb_⟩⟩
   ·rw [if_neg c16] at H
    have c16b0 := decide_eq_false c16
    clear c16
    have HC32 := Aside0.mk H
    clear H
    go_upto_region 12 with (fail)
    go_cut [55] (fun v55 wc => ∃ (kq : Nat) (x55_31 : Bool) (x488001_31 : Int) (x488002_31 : Int), v55 = .bool x55_31 ∧ Aside0 (spec_DrawDeterminantWhole.j2 kq x6_1 x55_31 t484 x488001_31 x488002_31 = some r) ∧ Aside0 (kq ≤ k1) ∧ Aside0 (Kd.S (Kd.slice 2 (Kd.int .i64)) 29 wc w.heap.size (fun _ => True) u6 x6_1) ∧ Aside0 (IsS131 w wc g487 t484 x488001_31 x488002_31) ∧ Aside0 (Below w.heap.size w wc))
    case first =>
     have H := HC32.out
     clear HC32
     by_cases c33 : t491 > 0
     ·rw [if_pos c33] at H
      have c33b0 := decide_eq_true c33
      clear c33
      (first | rw [c33b0] | (simp only [i64_w, i32_w]; rw [c33b0]) | skip)
      obtain ⟨⟨t521, t522, t523⟩, A34, H⟩ := bnd_ H
      dsimp only at H
      have H' := Aside0.mk H
      clear H
      go_wp2_with (first | (go_at_call 171; (with_reducible refine (spec_l01Next.calls g487 t484 x488001_1 x488002_1 24 t521 t522 t523 w _ ?side1 ?side2 A34.out).mono ?_); (case side1 => exact IsS131.go_); (case side2 => exact IsS131.hb_); rintro e w35 ⟨rfl, hi, hb, hk⟩; replace HO_6 := Aside0.mk (Kd.S_mono (Kd.S_keep (IsS131.apartS (show IsS131 w _ g487 t484 x488001_1 x488002_1 from IsS131.go_) (Kd.S_below HO_6.out bgo_) (by decide)) hk (fun _ h => h.2)) (fun _ h => h.1)); replace HB := Aside0.mk (hb); replace HI487 := Aside0.mk (hi); (try clear hb); (try clear hb2); (try clear hk); (try clear hi)))
      go_meet
      case rel => exact ⟨_, ((t521 == 0)), (t522), (t523), es_, H', ⟨by have := HK1.out; first | omega | exact Nat.le_refl _⟩, ⟨Kd.S_below HO_6.out bgo_⟩, ⟨IsS131.go_⟩, ⟨IsS131.hb_⟩⟩
     ·rw [if_neg c33] at H
      have c33b0 := decide_eq_false c33
      clear c33
      (first | rw [c33b0] | (simp only [i64_w, i32_w]; rw [c33b0]) | skip)
      have H' := Aside0.mk H
      clear H
      go_wp2
      go_meet
      case rel => exact ⟨_, (false), (x488001_1), (x488002_1), es_, H', ⟨by have := HK1.out; first | omega | exact Nat.le_refl _⟩, ⟨Kd.S_below HO_6.out bgo_⟩, ⟨IsS131.go_⟩, ⟨IsS131.hb_⟩⟩
    case rest =>
     clear HC32
     obtain ⟨kq, x55_31, x488001_31, x488002_31, rfl, HA, HJ31, HO_6, HI487, HB⟩ := hcut
     cases kq with
     | zero => exact absurd HA.out (by simp [spec_DrawDeterminantWhole.j2])
     | succ kj31 =>
      have H := HA.out
      clear HA
      simp only [spec_DrawDeterminantWhole.j2] at H
      by_cases c36 : x55_31 = true
      ·subst c36
       have H1 : ((spec_l01Next.f t484 x488001_31 x488002_31 2).bind fun bt524 => (if bt524.1 = 0 then (if 0 < (x6_1.length : Int) then (if (rd_L2 x6_1 0).length < 17592186044416 then (some (x6_1.set (0 : Int).toNat ((rd_L2 x6_1 0) ++ [0]))) else (none)) else (none)) else (if 0 < (x6_1.length : Int) then ((spec_l01Pick.f t484 bt524.2.1 bt524.2.2 (([21, (-21)] : List Int))).bind fun bt536 => (if 0 < ((rd_L2 x6_1 0).length : Int) then (some (x6_1.set (0 : Int).toNat ((rd_L2 x6_1 0).set (0 : Int).toNat bt536.1))) else (none))) else (none)))) = some r := by rw [if_pos rfl] at H; exact H
       clear H
       have H := H1
       clear H1
       obtain ⟨⟨t524, t525, t526⟩, A37, H⟩ := bnd_ H
       dsimp only at H
       by_cases c38 : t524 = 0
       ·rw [if_pos c38] at H
        have c38b0 : (t524 == 0) = true := beq_iff_eq.mpr c38
        have c38b1 : (t524 != 0) = false := bne_eq_false_iff_eq.mpr c38
        clear c38
        obtain ⟨c39, H⟩ := itn_ H
        have c39b0 := decide_eq_true c39
        have c39b1 : decide (0 < x6_1.length) = true := decide_eq_true (by omega)
        clear c39
        obtain ⟨c40, H⟩ := itn_ H
        have LMc40 := Aside0.mk c40
        clear c40
        obtain ⟨y528, Ny528, H⟩ : ∃ y528 : List Int, Aside0 (y528 = ((rd_L2 x6_1 0) ++ [0])) ∧ (some (x6_1.set (0 : Int).toNat y528)) = some r := ⟨_, ⟨rfl⟩, H⟩
        obtain ⟨y531, Ny531, H⟩ : ∃ y531 : List (List Int), Aside0 (y531 = (x6_1.set (0 : Int).toNat y528)) ∧ (some y531) = some r := ⟨_, ⟨rfl⟩, H⟩
        obtain rfl := Option.some.inj H
        go_wp2_with (first | ((with_reducible refine gate_callee (f := 171) rfl ?_); refine goesL_ (some 57) rfl rfl Try.func171 (by kernel_rfl) rfl #[.pointer (some ⟨g487, 0, none⟩), .int .i64 2] rfl arg_ ?_; (with_reducible refine (spec_l01Next.calls g487 t484 x488001_31 x488002_31 2 t524 t525 t526 w _ ?side1 ?side2 A37.out).mono ?_); (case side1 => exact IsS131.go_); (case side2 => exact IsS131.hb_); rintro e w42 ⟨rfl, hi, hb, hk⟩; refine ⟨_, rfl, ?_⟩; replace HO_6 := Aside0.mk (Kd.S_mono (Kd.S_keep (IsS131.apartS (show IsS131 w _ g487 t484 x488001_31 x488002_31 from IsS131.go_) (Kd.S_below HO_6.out bgo_) (by decide)) hk (fun _ h => h.2)) (fun _ h => h.1)); replace HB := Aside0.mk (hb); replace HI487 := Aside0.mk (hi); (try clear hb); (try clear hb2); (try clear hk); (try clear hi); obtain ⟨Ao43, co43, eo43⟩ := Kd.S_slice HO_6.out; subst eo43; have p527 : 0 ≤ (0 : Int) := (by omega); have q527 : 0 < (x6_1.length : Int) := od_; obtain ⟨ad527, A527_0, c527_0, e527, hx527_0, hl527_0, hi527_0⟩ := at_L2 (Kd.S_reads' HO_6.out).2.2 0 p527 q527; cases e527; obtain ⟨ce527, hce527, hMe527, hcc527⟩ := Kd.S_get HO_6.out [] 0 p527 (by first | exact q527 | exact od_ | (have e_ := (Kd.S_reads' HO_6.out).1; omega)); obtain ⟨ve527_0, rfl, ge527_0⟩ := hMe527; have hv527_0 := hcc527 0 _ rfl; rw [Nat.add_zero, show ((Kd.slice 2 (Kd.int .i64))).sz = 1 from rfl, Nat.mul_one] at hv527_0; replace hv527_0 := Option.some.inj (hv527_0.symm.trans hx527_0); rw [hv527_0] at ge527_0; have HL527_0 := Aside0.mk (show Kd.R (Kd.int .i64) 2 _ _ _ _ (rd_L2 x6_1 0) from ge527_0); clear hv527_0 ge527_0; have HX527_0 := Aside0.mk hx527_0; clear hcc527 hce527; have qi527 : (0 < x6_1.length) = True := eq_true (by omega); (try rw [show ((0 : Int)).toNat = 0 from rfl] at hx527_0); (try rw [Addr.add_zero'] at hx527_0); have HR527_0 := Aside0.mk hi527_0; have HC527_0 := Aside0.mk hl527_0; clear hi527_0 hl527_0; replace p527 := eq_true p527; replace q527 := eq_true q527; obtain ⟨go44, co44, eo44, gb44, gl44, cl44, HG44⟩ := Kd.S_form HO_6.out (by have h_ : (0 : Int) < ((x6_1.length : Int) : Int) := od_; have h2_ : 0 ≤ (0 : Int) := (by omega); omega); (first | cases eo44 | (injection eo44 with ea_ en_ ec_; (first | subst ea_ | (injection ea_ with ea_; subst ea_)); subst ec_; clear en_)); have GB44 := Aside0.mk gb44; have GG44 := Aside0.mk HG44; clear gb44 gl44 HG44; (first | simp only [add_plain] at hx527_0 | skip); obtain ⟨oki44, ce44, hcl44, hM44, hcc44, _, _, hH44⟩ := Kd.S_elem HO_6.out [] (0 : Int) (by omega) (by have h_ : (0 : Int) < ((x6_1.length : Int) : Int) := od_; first | exact h_ | (have e_ := (Kd.S_reads' HO_6.out).1; omega) | simpa using h_); obtain ⟨ve44_0, rfl, ge44_0⟩ := hM44; have hv44 := hcc44 0 _ rfl; have hX44 := HX527_0.out; (try simp only [add_plain] at hX44); (try simp only [Nat.add_zero] at hv44); (try rw [show ((Kd.slice 2 (Kd.int .i64))).sz = 1 from rfl, Nat.mul_one] at hv44); replace hv44 := Option.some.inj (hv44.symm.trans hX44); subst hv44; clear hX44 hcc44 hcl44; have UU44 := Aside0.mk (show Kd.R (Kd.int .i64) 2 _ w.heap.size oki44 (.slice A527_0 (rd_L2 x6_1 0).length c527_0) (rd_L2 x6_1 0) from ge44_0); have HH44 := Aside0.mk hH44; have HN44 := Aside0.mk (Kd.S_reads' HO_6.out).1; clear hH44 ge44_0) | ((with_reducible refine gate_builtin (b := .append) (xs := #[.tmp 62, .tmp 63]) rfl ?_); at_builtin; refine Kd.R_append (Kd.int .i64) (w0 := w) w.heap.size rfl (.tmp 62) (.tmp 63) 29 2 (.int .i64 0) 8 rfl Try.underlying29 info2 rfl (by decide) (by omega) (.slice A527_0 (rd_L2 x6_1 0).length c527_0) (rd_L2 x6_1 0) 0 [.int .i64 0] (fun k_ => oki44 k_ ∨ ((fun _ => True)) k_ ∧ w42.heap.size ≤ k_) (fun _ => False) rfl rfl ?aP (fun _ hk => hk.elim) ?aF ?aO ?aB ?aS ?aL ?_; (case aP => exact rfl); (case aB => exact IsS131.hb_); (case aF => exact (fun k_ hk => .inr ⟨trivial, hk⟩)); (case aO => exact (by (with_reducible repeat (first | apply Kd.R_alloc | apply Kd.R_drewN | apply Kd.R_drew)); exact Kd.R_mono UU44.out (fun _ hk => .inl hk))); (case aS => exact (below_size IsS131.hb_)); (case aL => have := LMc40.out; omega); intro v529 w45 ho hb hg hat; rw [← Ny528.out] at ho; replace HI487 := Aside0.mk (IsS131.grown IsS131.go_ hg (IsS131.own_ne HI487.out HL527_0.out (by decide))); replace HB := Aside0.mk (hb); replace HH44 := Aside0.mk (Kd.H_grown (Kd.H_widen (by repeat (first | exact HH44.out | refine Kd.H_alloc ?_ _ | refine Kd.H_drewN ?_ _ | refine Kd.H_drew ?_))) hg (fun k_ e_ => .inl (UU44.out.1 k_ e_))); have HO530 := Aside0.mk (ho); clear HO_6 UU44 HL527_0; clear ho hb hg hat; have p41 : 0 ≤ (0 : Int) := (by omega); have q41 : (0 : Int) < ((x6_1.length : Int) : Int) := od_; replace p41 := eq_true p41; replace q41 := eq_true q41; obtain ⟨Ao48, co48, eo48⟩ := Kd.R_slice HO530.out; subst eo48; obtain ⟨_, _, hraw46, _, _, hcc46, _⟩ := Kd.H_raw HH44.out (by omega) (by have h_ : (0 : Int) < ((x6_1.length : Int) : Int) := od_; first | exact h_ | (have e_ := (HN44.out); omega) | simpa using h_); obtain ⟨_, hfr46⟩ := Kd.H_at HH44.out (by omega) (by have h_ : (0 : Int) < ((x6_1.length : Int) : Int) := od_; first | exact h_ | (have e_ := (HN44.out); omega) | simpa using h_); have hx46_0 := hcc46 0 _ rfl; have hf46_0 := hfr46 0; (try simp only [Nat.add_zero] at hx46_0 hf46_0); (try rw [show ((Kd.slice 2 (Kd.int .i64))).sz = 1 from rfl, Nat.mul_one] at hx46_0); (try rw [show ((Kd.slice 2 (Kd.int .i64))).sz = 1 from rfl, Nat.mul_one] at hf46_0); (try rw [show ((0 : Int)).toNat = 0 from rfl] at hx46_0); (try simp only [Nat.reduceMul, Nat.zero_mul, Nat.zero_add, Nat.reduceAdd] at hx46_0); (try rw [show ((0 : Int)).toNat = 0 from rfl] at hf46_0); (try simp only [Nat.reduceMul, Nat.zero_mul, Nat.zero_add, Nat.reduceAdd] at hf46_0); have HP46 := Kd.S_seg0 HH44.out (by omega) (by have h_ : (0 : Int) < ((x6_1.length : Int) : Int) := od_; first | exact h_ | (have e_ := (HN44.out); omega) | simpa using h_) (seg := [.slice Ao48 y528.length co48]) (j := 0) (show 1 ≤ 1 from by decide) (x' := y528) (Kd.M_row HO530.out) (fun _ hk => hk); (try simp only [show ((Kd.slice 2 (Kd.int .i64))).sz = 1 from rfl, Nat.mul_one, Nat.add_zero] at HP46); clear hcc46 hfr46) | ((with_reducible refine gate_store (t := 29) (p := 65) rfl ?_); refine store_event (t := 29) (p := 65) (v := ?vo_w47) (w1 := (w45.setCell ⟨go44, (0 : Int).toNat, none⟩ (.slice Ao48 y528.length co48))) ?hg ?ho ?hn ?hr ?_; (case ho => rfl); (case hg => rfl); (case hn => rfl); (case hr => first | (go_simp; done) | (go_simp; rfl)); intro w47 hw; have hg : w45.grownBy w47 (some go44) := (by rw [hw]; exact HP46.2); have hp_ : Kd.S (Kd.slice 2 (Kd.int .i64)) 29 w47 w.heap.size (fun _ => True) (.slice (some ⟨go44, 0, none⟩) x6_1.length co43) y531 := (by rw [hw, Ny531.out]; exact HP46.1); clear HP46; replace HI487 := Aside0.mk (IsS131.grown IsS131.go_ hg (IsS131.own_ne HI487.out hraw46 (by decide))); replace HB := Aside0.mk ((by rw [hw]; exact below_set HB.out GB44.out : Below w.heap.size w w47)); have HO_6 := Aside0.mk (hp_); clear HO530 HH44; clear hg hw hp_ hraw46))
        go_ret
        exact ⟨_, er_, (Kd.S_below HO_6.out bgo_), IsS131.hb_⟩
       ·rw [if_neg c38] at H
        have c38b0 : (t524 == 0) = false := beq_eq_false_iff_ne.mpr c38
        have c38b1 : (t524 != 0) = true := bne_iff_ne.mpr c38
        obtain ⟨c49, H⟩ := itn_ H
        have c49b0 := decide_eq_true c49
        have c49b1 : decide (0 < x6_1.length) = true := decide_eq_true (by omega)
        clear c49
        obtain ⟨y533, Ny533, H⟩ : ∃ y533 : List Int, Aside0 (y533 = (([21, (-21)] : List Int))) ∧ ((spec_l01Pick.f t484 t525 t526 y533).bind fun bt536 => (if 0 < ((rd_L2 x6_1 0).length : Int) then (some (x6_1.set (0 : Int).toNat ((rd_L2 x6_1 0).set (0 : Int).toNat bt536.1))) else (none))) = some r := ⟨_, ⟨rfl⟩, H⟩
        obtain ⟨⟨t536, t537, t538⟩, A50, H⟩ := bnd_ H
        dsimp only at H
        obtain ⟨c51, H⟩ := itn_ H
        have c51b0 := decide_eq_true c51
        have c51b1 : decide (0 < (rd_L2 x6_1 0).length) = true := decide_eq_true (by omega)
        clear c51
        obtain ⟨y539, Ny539, H⟩ : ∃ y539 : List Int, Aside0 (y539 = ((rd_L2 x6_1 0).set (0 : Int).toNat t536)) ∧ (some (x6_1.set (0 : Int).toNat y539)) = some r := ⟨_, ⟨rfl⟩, H⟩
        obtain ⟨y541, Ny541, H⟩ : ∃ y541 : List (List Int), Aside0 (y541 = (x6_1.set (0 : Int).toNat y539)) ∧ (some y541) = some r := ⟨_, ⟨rfl⟩, H⟩
        obtain rfl := Option.some.inj H
        go_wp2_with (first | ((with_reducible refine gate_callee (f := 171) rfl ?_); refine goesL_ (some 57) rfl rfl Try.func171 (by kernel_rfl) rfl #[.pointer (some ⟨g487, 0, none⟩), .int .i64 2] rfl arg_ ?_; (with_reducible refine (spec_l01Next.calls g487 t484 x488001_31 x488002_31 2 t524 t525 t526 w _ ?side1 ?side2 A37.out).mono ?_); (case side1 => exact IsS131.go_); (case side2 => exact IsS131.hb_); rintro e w53 ⟨rfl, hi, hb, hk⟩; refine ⟨_, rfl, ?_⟩; replace HO_6 := Aside0.mk (Kd.S_mono (Kd.S_keep (IsS131.apartS (show IsS131 w _ g487 t484 x488001_31 x488002_31 from IsS131.go_) (Kd.S_below HO_6.out bgo_) (by decide)) hk (fun _ h => h.2)) (fun _ h => h.1)); replace HB := Aside0.mk (hb); replace HI487 := Aside0.mk (hi); (try clear hb); (try clear hb2); (try clear hk); (try clear hi); obtain ⟨Ao54, co54, eo54⟩ := Kd.S_slice HO_6.out; subst eo54; have p532 : 0 ≤ (0 : Int) := (by omega); have q532 : 0 < (x6_1.length : Int) := od_; obtain ⟨ad532, A532_0, c532_0, e532, hx532_0, hl532_0, hi532_0⟩ := at_L2 (Kd.S_reads' HO_6.out).2.2 0 p532 q532; cases e532; obtain ⟨ce532, hce532, hMe532, hcc532⟩ := Kd.S_get HO_6.out [] 0 p532 (by first | exact q532 | exact od_ | (have e_ := (Kd.S_reads' HO_6.out).1; omega)); obtain ⟨ve532_0, rfl, ge532_0⟩ := hMe532; have hv532_0 := hcc532 0 _ rfl; rw [Nat.add_zero, show ((Kd.slice 2 (Kd.int .i64))).sz = 1 from rfl, Nat.mul_one] at hv532_0; replace hv532_0 := Option.some.inj (hv532_0.symm.trans hx532_0); rw [hv532_0] at ge532_0; have HL532_0 := Aside0.mk (show Kd.R (Kd.int .i64) 2 _ _ _ _ (rd_L2 x6_1 0) from ge532_0); clear hv532_0 ge532_0; have HX532_0 := Aside0.mk hx532_0; clear hcc532 hce532; have qi532 : (0 < x6_1.length) = True := eq_true (by omega); (try rw [show ((0 : Int)).toNat = 0 from rfl] at hx532_0); (try rw [Addr.add_zero'] at hx532_0); have HR532_0 := Aside0.mk hi532_0; have HC532_0 := Aside0.mk hl532_0; clear hi532_0 hl532_0; replace p532 := eq_true p532; replace q532 := eq_true q532) | ((with_reducible refine gate_dst (N := 71) rfl ?_); refine Kd.R_lit (Kd.int .i64) _ 2 ?hg (N := 71) ?hd (xs := ([21, (-21)] : List Int)) (inner := [.int .i64 21, .int .i64 (-21)]) (ok := fun _ => True) (okp := fun _ => True) ?hr ?hp (fun _ hk => hk) trivial (Below.refl _ _) (Nat.le_refl _) (by simp) ?_; (case hd => rfl); (case hg => rfl); (case hr => first | (go_simp; done) | (go_simp; rfl)); (case hp => exact (Reps.one (show Kd.M (Kd.int .i64) _ _ _ 21 [.int .i64 21] from rfl) (Reps.one (show Kd.M (Kd.int .i64) _ _ _ (-21) [.int .i64 (-21)] from rfl) (Reps.none _ _)))); intro v534 w55 ho56 hb hg_ hnew_; clear hg_ hnew_; (first | rw [← Ny533.out] at ho56 | (simp only [Int.reduceToNat] at ho56; rw [← Ny533.out] at ho56)); replace HO_6 := Aside0.mk (Kd.S_elder' (Kd.S_below HO_6.out bgo_) (Kd.R_base ho56) hb); have HO535 := Aside0.mk (Kd.R_lower (Kd.R_new' ho56 (Kd.R_lt (by (with_reducible repeat (first | apply Kd.R_alloc | apply Kd.R_drewN | apply Kd.R_drew)); exact HL532_0.out))) (below_size IsS131.hb_)); replace HL532_0 := Aside0.mk (Kd.R_elder' (by (with_reducible repeat (first | apply Kd.R_alloc | apply Kd.R_drewN | apply Kd.R_drew)); exact HL532_0.out) (Kd.R_base ho56) hb); replace HR532_0 := Aside0.mk (Kd.C_below (by repeat (first | (with_reducible exact HR532_0.out) | (with_reducible refine Kd.C_alloc ?_ _) | (with_reducible refine Kd.C_drewN ?_ _) | (with_reducible refine Kd.C_drew ?_) | exact HR532_0.out)) hb); replace HX532_0 := Aside0.mk (pw_cell_below hb HX532_0.out); replace HB := Aside0.mk (below_step IsS131.hb_ hb); replace HI487 := Aside0.mk (IsS131.below IsS131.go_ hb); clear hb ho56; obtain ⟨Ao57, co57, eo57⟩ := Kd.R_slice HO535.out; subst eo57) | ((with_reducible refine gate_callee (f := 144) rfl ?_); refine goesL_ (some 72) rfl rfl Try.func144 (by kernel_rfl) rfl #[.pointer (some ⟨g487, 0, none⟩), .slice Ao57 y533.length co57] rfl arg_ ?_; (with_reducible refine (spec_l01Pick.calls g487 t484 t525 t526 _ _ y533 t536 t537 t538 w _ ?side1 ?side2 ?side3 ?side4 ?side5 A50.out).mono ?_); (case side1 => exact IsS131.go_); (case side2 => exact IsS131.hb_); (case side3 => exact Kd.C_below (Kd.R_reads' HO535.out).2.2 bgo_); (case side4 => exact (Kd.R_reads' HO535.out).2.1); (case side5 => exact far_slice (IsS131.own_ne HI487.out HO535.out (by decide))); rintro e w58 ⟨rfl, hi, hb, hk⟩; refine ⟨_, rfl, ?_⟩; replace HL532_0 := Aside0.mk (Kd.R_mono (Kd.R_keep (IsS131.apart (show IsS131 w _ g487 t484 t525 t526 from IsS131.go_) (by (with_reducible repeat (first | apply Kd.R_alloc | apply Kd.R_drewN | apply Kd.R_drew)); exact HL532_0.out) (by decide)) hk (fun _ h => h.2)) (fun _ h => h.1)); replace HX532_0 := Aside0.mk (keep_cell hk HX532_0.out (by first | (rw [add_block]; exact Kd.own_blk (IsS131.own_neS HI487.out HO_6.out (by decide))) | (show (Addr.add _ _).block ≠ _; rw [add_block]; exact Kd.own_blk (IsS131.own_neS HI487.out HO_6.out (by decide))) | exact Kd.own_blk (IsS131.own_neS HI487.out HO_6.out (by decide)) | (dsimp only; exact Kd.own_blk (IsS131.own_neS HI487.out HO_6.out (by decide))))); replace HO_6 := Aside0.mk (Kd.S_mono (Kd.S_keep (IsS131.apartS (show IsS131 w _ g487 t484 t525 t526 from IsS131.go_) (Kd.S_below HO_6.out bgo_) (by decide)) hk (fun _ h => h.2)) (fun _ h => h.1)); replace HO535 := Aside0.mk (Kd.R_mono (Kd.R_keep (IsS131.apart (show IsS131 w _ g487 t484 t525 t526 from IsS131.go_) (Kd.R_below HO535.out bgo_) (by decide)) hk (fun _ h => h.2)) (fun _ h => h.1)); replace HB := Aside0.mk (hb); replace HI487 := Aside0.mk (hi); (try clear hb); (try clear hb2); (try clear hk); (try clear hi); have p52 : 0 ≤ (0 : Int) := (by omega); have q52 : (0 : Int) < (((rd_L2 x6_1 0).length : Int) : Int) := od_; have qi52 : (0 < (rd_L2 x6_1 0).length) = True := eq_true (by omega); obtain ⟨go52, co52, eo52, gb52, gl52, cl52, HG52⟩ := Kd.R_form HL532_0.out (by omega); (first | cases eo52 | (injection eo52 with ea_ en_ ec_; (first | subst ea_ | (injection ea_ with ea_; subst ea_)); subst ec_; clear en_)); have GB52 := Aside0.mk gb52; have GG52 := Aside0.mk HG52; clear gb52 gl52 HG52; obtain ⟨hx52_0, hf52_0⟩ := Kd.R_celln 0 HL532_0.out (0 : Int) p52 q52; (try rw [show ((0 : Int)).toNat = 0 from rfl] at hx52_0); (try simp only [Nat.reduceMul, Nat.zero_mul, Nat.zero_add, Nat.reduceAdd] at hx52_0); (try rw [show ((0 : Int)).toNat = 0 from rfl] at hf52_0); (try simp only [Nat.reduceMul, Nat.zero_mul, Nat.zero_add, Nat.reduceAdd] at hf52_0); replace p52 := eq_true p52; replace q52 := eq_true q52; have n_ := Aside0.mk (Kd.S_mono (ok' := (fun k_ => some k_ ≠ (.slice Ao57 y533.length co57 : Value).ownBlock)) HO_6.out (fun k_ hk => hk.2)); clear HO_6; have HO_6 := n_; clear n_; have hq59 : (0 : Int) < (x6_1.length : Int) := (by have h_ : (0 : Int) < ((x6_1.length : Int) : Int) := od_; first | exact h_ | (have e_ := (Kd.S_reads' HO_6.out).1; omega) | simpa only [List.length_set, List.length_set] using h_); obtain ⟨oki59, ce59, hcl59, hM59, hcc59, hok59, hbk59⟩ := Kd.S_borrow HO_6.out [] (0 : Int) (by omega) (by first | exact hq59 | (have e_ := (Kd.S_reads' HO_6.out).1; have h_ := hq59; omega)); obtain ⟨ve59_0, rfl, ge59_0⟩ := hM59; have hv59 := hcc59 0 _ rfl; rw [Nat.add_zero, show ((Kd.slice 2 (Kd.int .i64))).sz = 1 from rfl, Nat.mul_one] at hv59; replace hv59 := Option.some.inj (hv59.symm.trans HX532_0.out); subst hv59; clear hcc59 hcl59; replace ge59_0 := (show Kd.R (Kd.int .i64) 2 _ _ _ _ (rd_L2 x6_1 0) from ge59_0); have HP59 := Kd.R_putg ge59_0 (0 : Int) t536) | ((with_reducible refine gate_store (t := 2) (p := 73) rfl ?_); refine store_event (t := 2) (p := 73) (v := ?vo_w60) (w1 := (w58.setCell ⟨go52, 0, none⟩ (.int .i64 t536))) ?hg ?ho ?hn ?hr ?_; (case ho => rfl); (case hg => rfl); (case hn => rfl); (case hr => first | (go_simp; done) | (go_simp; rfl)); intro w60 hw; have hg : w58.grownBy w60 (some go52) := (by rw [hw]; exact HP59.2); have hz_ : Kd.R (Kd.int .i64) 2 w60 w.heap.size oki59 (.slice (some ⟨go52, 0, none⟩) (rd_L2 x6_1 0).length c532_0) y539 := (by rw [hw, Ny539.out]; exact HP59.1); have hp_ : Kd.S (Kd.slice 2 (Kd.int .i64)) 29 w60 w.heap.size (fun k_ => some k_ ≠ (.slice Ao57 y533.length co57 : Value).ownBlock) (.slice (some ad532) x6_1.length co54) y541 := (by rw [Ny541.out]; exact hbk59 hg (fun k_ e_ => by injection e_ with e_; subst e_; exact ge59_0.1 _ rfl) (Kd.M_row hz_)); have hm_ := Kd.R_mono hz_ hok59; clear HP59 hbk59; replace HO_6 := Aside0.mk (hp_); replace HI487 := Aside0.mk (IsS131.grown IsS131.go_ hg (IsS131.own_ne HI487.out HL532_0.out (by decide))); replace HO535 := Aside0.mk (Kd.R_grown1 (Kd.R_below HO535.out bgo_) rfl hg ((HL532_0.out.1 _ rfl).2)); replace HB := Aside0.mk ((by rw [hw]; exact below_set (HB.out) GB52.out : Below w.heap.size w w60)); have HL542 := Aside0.mk (hm_); have HC540 := Aside0.mk ((Kd.R_reads' hm_).2.1); clear HL532_0; clear hg hw hp_ hz_ hm_ hok59))
        go_ret
        exact ⟨_, er_, by (with_reducible repeat (first | apply Kd.S_alloc | apply Kd.S_drewN | apply Kd.S_drew)); exact Kd.S_mono HO_6.out (fun _ hk => trivial), IsS131.hb_⟩
      ·replace c36 := Bool.eq_false_iff.mpr c36
       subst c36
       have H1 : (some x6_1) = some r := by rw [if_neg (show ¬ (false = true) by decide)] at H; exact H
       clear H
       have H := H1
       clear H1
       obtain rfl := Option.some.inj H
       go_wp2
       go_ret
       exact ⟨_, er_, (Kd.S_below HO_6.out bgo_), IsS131.hb_⟩

-- NOT PRINTED: function 231 (slices_IndexFunc_int64_int64_231)

-- NOT PRINTED: function 176 (slices_ContainsFunc_int64_int64_176)

/-! ### impl_DeterminantWhole_1: function 177 -/
def impl_DeterminantWhole_1.f (a0 : Int) : Option (Bool) := (impl_within.f a0 (-20) 20).bind fun t543 => (some (!t543))
set_option maxHeartbeats 8000000 in
set_option maxRecDepth 100000 in
theorem impl_DeterminantWhole_1.calls (a0 : Int) (r : Bool) (w : World) (h : impl_DeterminantWhole_1.f a0 = some r) :
  Calls Try.prog 177 #[.int .i64 a0] w fun e w' => e = .returned (.bool r) ∧ Drawn0 w w' := by
 have H : ((impl_within.f a0 (-20) 20).bind fun t543 => (some (!t543))) = some r := h
 clear h
 obtain ⟨t543, A2, H⟩ := bnd_ H
 obtain rfl := Option.some.inj H
 go_enter Try.func177, Try.ntmps177
 go_wp2_with (first | ((with_reducible refine gate_callee (f := 106) rfl ?_); refine goesL_ (some 4) rfl rfl Try.func106 (by kernel_rfl) rfl #[.int .i64 a0, .int .i64 (-20), .int .i64 20] rfl arg_ ?_; (with_reducible refine (impl_within.calls a0 (-20) 20 t543 _ A2.out).mono ?_); rintro e w' ⟨rfl, ⟨nd, rfl⟩⟩; refine ⟨_, rfl, ?_⟩))
 go_ret
 exact ⟨es_, by repeat (first | exact Drawn0.refl _ | apply Drawn0.step)⟩

/-! ### impl_trace: function 219 -/
def impl_trace.l0 : Nat → Int → List (List Int) → Int → Int → Option (Int)
 | 0, _, _, _, _ => none
 | k + 1, x3, x6, x7, x8 => if x8 < x7 then (if 0 ≤ x8 then (if x8 < (x6.length : Int) then (if x8 < ((rd_L2 x6 x8).length : Int) then (impl_trace.l0 k (wrap64 (x3 + (rd (rd_L2 x6 x8) x8))) x6 x7 (wrap64 (x8 + 1))) else (none)) else (none)) else (none)) else (some x3)
def impl_trace.f (k : Nat) (l0 : List (List Int)) : Option (Int) := impl_trace.l0 k 0 l0 (l0.length : Int) 0
set_option maxHeartbeats 8000000 in
set_option maxRecDepth 100000 in
theorem impl_trace.calls (k : Nat) (A0 : Option Addr) (c0 : Nat) (l0 : List (List Int)) (r : Int) (w : World) (hr0 : Kd.C (Kd.slice 2 (Kd.int .i64)) w A0 l0.length l0) (hc0 : l0.length ≤ c0) (h : impl_trace.f k l0 = some r) :
  Calls Try.prog 219 #[.slice A0 l0.length c0] w fun e w' => e = .returned (.int .i64 r) ∧ Drawn0 w w' := by
 have HR0 := Aside0.mk hr0
 have HC0 := Aside0.mk hc0
 clear hr0 hc0
 have H : (impl_trace.l0 k 0 l0 (l0.length : Int) 0) = some r := h
 clear h
 have H' := Aside0.mk H
 clear H
 go_enter Try.func219, Try.ntmps219
 go_wp2
 go_loopg [3, 8] k (fun kq v3 v8 w' => ∃ (x3_1 : Int) (x8_1 : Int), v3 = .int .i64 x3_1 ∧ v8 = .int .i64 x8_1 ∧ Aside0 (impl_trace.l0 kq x3_1 l0 (l0.length : Int) x8_1 = some r) ∧ Aside0 (kq ≤ k) ∧ Drawn0 w w')
 case atStart => exact ⟨(0), (0), es_, es_, H', ⟨Nat.le_refl _⟩, by repeat (first | exact Drawn0.refl _ | apply Drawn0.step)⟩
 case round =>
  clear H'
  obtain ⟨x3_1, x8_1, rfl, rfl, HA, HK1, ⟨m1, rfl⟩⟩ := hrel
  cases gk with
  | zero => exact absurd HA.out (by simp [impl_trace.l0])
  | succ k1 =>
   have H := HA.out
   clear HA
   simp only [impl_trace.l0] at H
   by_cases c2 : x8_1 < (l0.length : Int)
   ·rw [if_pos c2] at H
    have c2b0 := decide_eq_true c2
    clear c2
    obtain ⟨c3, H⟩ := itn_ H
    have c3b0 := decide_eq_true c3
    clear c3
    obtain ⟨c4, H⟩ := itn_ H
    have c4b0 := decide_eq_true c4
    clear c4
    obtain ⟨c5, H⟩ := itn_ H
    have c5b0 := decide_eq_true c5
    clear c5
    have H' := Aside0.mk H
    clear H
    have p544 : 0 ≤ (x8_1 : Int) := od_
    have q544 : x8_1 < (l0.length : Int) := od_
    obtain ⟨ad544, A544_0, c544_0, e544, hx544_0, hl544_0, hi544_0⟩ := at_L2 HR0.out x8_1 p544 q544
    cases e544
    have HR544_0 := Aside0.mk hi544_0
    have HC544_0 := Aside0.mk hl544_0
    clear hi544_0 hl544_0
    replace p544 := eq_true p544
    replace q544 := eq_true q544
    have p545 : 0 ≤ (x8_1 : Int) := od_
    have q545 : x8_1 < ((rd_L2 l0 x8_1).length : Int) := od_
    obtain ⟨ad545, e545, hx545_0⟩ := Kd.at_int HR544_0.out x8_1 p545 q545
    cases e545
    replace p545 := eq_true p545
    replace q545 := eq_true q545
    go_wp2
    go_roundg k1
    case measure => have := HK1.out; omega
    case rel => exact ⟨(wrap64 (x3_1 + (rd (rd_L2 l0 x8_1) x8_1))), (wrap64 (x8_1 + 1)), es_, es_, H', ⟨by have := HK1.out; omega⟩, by repeat (first | exact Drawn0.refl _ | apply Drawn0.step)⟩
   ·rw [if_neg c2] at H
    have c2b0 := decide_eq_false c2
    clear c2
    obtain rfl := Option.some.inj H
    go_wp2
    go_ret
    exact ⟨es_, by repeat (first | exact Drawn0.refl _ | apply Drawn0.step)⟩

/-! ### impl_square: function 221 -/
def impl_square.l0 : Nat → Int → List (List Int) → Int → Int → Option ((List (List Int)))
 | 0, _, _, _, _ => none
 | k + 1, x0, x3, x5, x6 => if x6 < x5 then (if 0 ≤ x0 then (if (x0 : Int).toNat ≤ 35184372088832 then (if x3.length < 5864062014805 then (impl_square.l0 k x0 (x3 ++ [(List.replicate (x0 : Int).toNat 0)]) x5 (wrap64 (x6 + 1))) else (none)) else (none)) else (none)) else (some x3)
def impl_square.f (k : Nat) (a0 : Int) : Option ((List (List Int))) := impl_square.l0 k a0 (([] : List (List Int))) a0 0
set_option maxHeartbeats 8000000 in
set_option maxRecDepth 100000 in
theorem impl_square.calls (k : Nat) (a0 : Int) (r : List (List Int)) (w : World) (h : impl_square.f k a0 = some r) :
  Calls Try.prog 221 #[.int .i64 a0] w fun e w' => ∃ v0_ : Value, e = .returned (v0_) ∧ Kd.S (Kd.slice 2 (Kd.int .i64)) 29 w' w.heap.size (fun _ => True) v0_ r ∧ Below w.heap.size w w' := by
 have HB := Aside0.mk (Below.refl w.heap.size w)
 have H : (impl_square.l0 k a0 (([] : List (List Int))) a0 0) = some r := h
 clear h
 obtain ⟨y546, Ny546, H⟩ : ∃ y546 : List (List Int), Aside0 (y546 = (([] : List (List Int)))) ∧ (impl_square.l0 k a0 y546 a0 0) = some r := ⟨_, ⟨rfl⟩, H⟩
 have H' := Aside0.mk H
 clear H
 go_enter Try.func221, Try.ntmps221
 go_wp2_with (first | ((with_reducible refine gate_dst (N := 4) rfl ?_); refine Kd.S_lit (Kd.slice 2 (Kd.int .i64)) _ 29 ?hg (N := 4) ?hd (xs := ([] : List (List Int))) (inner := []) (ok := fun _ => True) (okp := fun _ => True) ?hr ?hp (fun _ hk => hk) trivial (Below.refl _ _) (Nat.le_refl _) (by simp) ?_; (case hd => rfl); (case hg => rfl); (case hr => first | (go_simp; done) | (go_simp; rfl)); (case hp => exact (Reps.none _ _)); intro v547 w2 ho3 hb hg_ hnew_; clear hg_ hnew_; (first | rw [← Ny546.out] at ho3 | (simp only [Int.reduceToNat] at ho3; rw [← Ny546.out] at ho3)); have HO548 := Aside0.mk (Kd.S_lower ho3 (below_size hb_)); replace HB := Aside0.mk (below_step hb_ hb); clear hb ho3))
 go_loopg [3, 6] k (fun kq v3 v6 w' => ∃ (x3_1 : List (List Int)) (x6_1 : Int), v6 = .int .i64 x6_1 ∧ Aside0 (impl_square.l0 kq a0 x3_1 a0 x6_1 = some r) ∧ Aside0 (kq ≤ k) ∧ Aside0 (Kd.S (Kd.slice 2 (Kd.int .i64)) 29 w' w.heap.size (fun _ => True) v3 x3_1) ∧ Aside0 (Below w.heap.size w w'))
 case atStart => exact ⟨(y546), (0), es_, H', ⟨Nat.le_refl _⟩, ⟨Kd.S_below HO548.out bgo_⟩, ⟨hb_⟩⟩
 case round =>
  clear H'
  obtain ⟨x3_1, x6_1, rfl, HA, HK1, HO_3, HB⟩ := hrel
  cases gk with
  | zero => exact absurd HA.out (by simp [impl_square.l0])
  | succ k1 =>
   have H := HA.out
   clear HA
   simp only [impl_square.l0] at H
   by_cases c4 : x6_1 < a0
   ·rw [if_pos c4] at H
    have c4b0 := decide_eq_true c4
    clear c4
    obtain ⟨c5, H⟩ := itn_ H
    have c5b0 := eq_true c5
    have c5b1 := decide_eq_true c5
    clear c5
    obtain ⟨c6, H⟩ := itn_ H
    have c6b0 := eq_true c6
    have c6b1 := decide_eq_true c6
    clear c6
    obtain ⟨y549, Ny549, H⟩ : ∃ y549 : List Int, Aside0 (y549 = (List.replicate (a0 : Int).toNat 0)) ∧ (if x3_1.length < 5864062014805 then (impl_square.l0 k1 a0 (x3_1 ++ [y549]) a0 (wrap64 (x6_1 + 1))) else (none)) = some r := ⟨_, ⟨rfl⟩, H⟩
    obtain ⟨c7, H⟩ := itn_ H
    have LMc7 := Aside0.mk c7
    clear c7
    obtain ⟨y552, Ny552, H⟩ : ∃ y552 : List (List Int), Aside0 (y552 = (x3_1 ++ [y549])) ∧ (impl_square.l0 k1 a0 y552 a0 (wrap64 (x6_1 + 1))) = some r := ⟨_, ⟨rfl⟩, H⟩
    have H' := Aside0.mk H
    clear H
    go_wp2_with (first | ((with_reducible refine gate_dst (N := 10) rfl ?_); refine Kd.R_make (Kd.int .i64) _ 2 rfl (N := 10) rfl 29 _ _ rfl a0 rfl rfl Try.underlying29 (.int .i64 0) 8 info2 rfl (by decide) (by omega) 0 (ok := fun _ => True) (okp := fun _ => True) rfl (fun _ hk => hk) trivial (od_) (Nat.le_trans (Nat.mul_le_mul_right _ (od_ : a0.toNat ≤ 35184372088832)) (by omega)) (Below.refl _ _) (Nat.le_refl _) ?_; intro v550 w8 ho9 hb hg_ hnew_; clear hg_ hnew_; (first | rw [← Ny549.out] at ho9 | (simp only [Int.reduceToNat] at ho9; rw [← Ny549.out] at ho9)); replace HO_3 := Aside0.mk (Kd.S_elder' (Kd.S_below HO_3.out bgo_) (Kd.R_base ho9) hb); have HO551 := Aside0.mk (Kd.R_lower ho9 (below_size hb_)); replace HB := Aside0.mk (below_step hb_ hb); clear hb ho9; obtain ⟨Ao11, co11, eo11⟩ := Kd.R_slice HO551.out; subst eo11) | ((with_reducible refine gate_builtin (b := .append) (xs := #[.tmp 8, .tmp 11]) rfl ?_); at_builtin; refine Kd.S_append (Kd.slice 2 (Kd.int .i64)) (w0 := w) w.heap.size rfl (.tmp 8) (.tmp 11) 24 29 (.slice none 0 0) 24 rfl Try.underlying24 info29 rfl (by decide) (by omega) u3 x3_1 y549 [.slice Ao11 y549.length co11] (fun _ => True) (fun k_ => some k_ = (.slice Ao11 y549.length co11 : Value).ownBlock) rfl rfl ?aP (fun k_ hk_ => ((Kd.R_mono (ok' := fun k_ => ((fun _ => True)) k_ ∧ some k_ ≠ (u3 : Value).ownBlock) (Kd.R_apart' (HO551.out) (Kd.S_typed HO_3.out) (by decide)) (fun k_ hk => ⟨trivial, hk.2⟩))).1 k_ hk_.symm) ?aF ?aO ?aB ?aS ?aL ?_; (case aP => exact Kd.M_row (Kd.R_mono (Kd.R_tight rfl (Kd.R_mono (ok' := fun k_ => ((fun _ => True)) k_ ∧ some k_ ≠ (u3 : Value).ownBlock) (Kd.R_apart' (HO551.out) (Kd.S_typed HO_3.out) (by decide)) (fun k_ hk => ⟨trivial, hk.2⟩))) (fun _ h_ => h_))); (case aB => exact hb_); (case aF => exact (fun _ _ => trivial)); (case aO => exact (by (with_reducible repeat (first | apply Kd.S_alloc | apply Kd.S_drewN | apply Kd.S_drew)); exact Kd.S_mono HO_3.out (fun k_ hk => ⟨trivial, fun e_ => hk.2 e_⟩))); (case aS => exact (below_size hb_)); (case aL => have := LMc7.out; omega); intro v553 w10 ho hb hg hat; rw [← Ny552.out] at ho; replace HB := Aside0.mk (hb); have HO554 := Aside0.mk (ho); clear HO_3 HO551; clear ho hb hg hat))
    first | go_roundg k1 | (refine Handed.intro k1 ?measure ?_; rotate_left; go_step; (try simp only [add_plain]); (repeat apply Exists.intro); refine ⟨?rel, rfl⟩)
    case measure => have := HK1.out; omega
    case rel => exact ⟨(y552), (wrap64 (x6_1 + 1)), es_, H', ⟨by have := HK1.out; omega⟩, ⟨Kd.S_below HO554.out bgo_⟩, ⟨hb_⟩⟩
   ·rw [if_neg c4] at H
    have c4b0 := decide_eq_false c4
    clear c4
    obtain rfl := Option.some.inj H
    go_wp2
    go_ret
    exact ⟨_, er_, (Kd.S_below HO_3.out bgo_), hb_⟩

/-! ### impl_rowsTimes: function 220 -/
mutual
def impl_rowsTimes.l0 : Nat → List (List Int) → List (List Int) → List (List Int) → Int → Int → Option ((List (List Int)))
 | 0, _, _, _, _, _ => none
 | k + 1, x1, x5, x15, x16, x17 => if x17 < x16 then (if 0 ≤ x17 then (if x17 < (x15.length : Int) then (impl_rowsTimes.l1 k x1 x5 x17 x15 x16 x17 (rd_L2 x15 x17) ((rd_L2 x15 x17).length : Int) 0) else (none)) else (none)) else (some x5)
def impl_rowsTimes.l1 : Nat → List (List Int) → List (List Int) → Int → List (List Int) → Int → Int → List Int → Int → Int → Option ((List (List Int)))
 | 0, _, _, _, _, _, _, _, _, _ => none
 | k + 1, x1, x5, x6, x15, x16, x17, x22, x23, x24 => if x24 < x23 then (if 0 ≤ x24 then (if x24 < (x22.length : Int) then (if (rd x22 x24) = 0 then (impl_rowsTimes.l1 k x1 x5 x6 x15 x16 x17 x22 x23 (wrap64 (x24 + 1))) else (if x24 < (x1.length : Int) then (impl_rowsTimes.l2 k x1 x5 x6 (rd x22 x24) x15 x16 x17 x22 x23 x24 (rd_L2 x1 x24) ((rd_L2 x1 x24).length : Int) 0) else (none))) else (none)) else (none)) else (impl_rowsTimes.l0 k x1 x5 x15 x16 (wrap64 (x17 + 1)))
def impl_rowsTimes.l2 : Nat → List (List Int) → List (List Int) → Int → Int → List (List Int) → Int → Int → List Int → Int → Int → List Int → Int → Int → Option ((List (List Int)))
 | 0, _, _, _, _, _, _, _, _, _, _, _, _, _ => none
 | k + 1, x1, x5, x6, x9, x15, x16, x17, x22, x23, x24, x34, x35, x36 => if x36 < x35 then (if 0 ≤ x36 then (if x36 < (x34.length : Int) then (if 0 ≤ x6 then (if x6 < (x5.length : Int) then (if x36 < ((rd_L2 x5 x6).length : Int) then (impl_rowsTimes.l2 k x1 (x5.set (x6 : Int).toNat ((rd_L2 x5 x6).set (x36 : Int).toNat (wrap64 ((rd (rd_L2 x5 x6) x36) + (wrap64 (x9 * (rd x34 x36))))))) x6 x9 x15 x16 x17 x22 x23 x24 x34 x35 (wrap64 (x36 + 1))) else (none)) else (none)) else (none)) else (none)) else (none)) else (impl_rowsTimes.l1 k x1 x5 x6 x15 x16 x17 x22 x23 (wrap64 (x24 + 1)))
end
def impl_rowsTimes.f (k : Nat) (l0 : List (List Int)) (l1 : List (List Int)) : Option ((List (List Int))) := (impl_square.f k (l0.length : Int)).bind fun t555 => (impl_rowsTimes.l0 k l1 t555 l0 (l0.length : Int) 0)
set_option maxHeartbeats 8000000 in
set_option maxRecDepth 100000 in
theorem impl_rowsTimes.calls (k : Nat) (A0 : Option Addr) (c0 : Nat) (l0 : List (List Int)) (A1 : Option Addr) (c1 : Nat) (l1 : List (List Int)) (r : List (List Int)) (w : World) (hr0 : Kd.C (Kd.slice 2 (Kd.int .i64)) w A0 l0.length l0) (hc0 : l0.length ≤ c0) (hr1 : Kd.C (Kd.slice 2 (Kd.int .i64)) w A1 l1.length l1) (hc1 : l1.length ≤ c1) (h : impl_rowsTimes.f k l0 l1 = some r) :
  Calls Try.prog 220 #[.slice A0 l0.length c0, .slice A1 l1.length c1] w fun e w' => ∃ v0_ : Value, e = .returned (v0_) ∧ Kd.S (Kd.slice 2 (Kd.int .i64)) 29 w' w.heap.size (fun _ => True) v0_ r ∧ Below w.heap.size w w' := by
 have HR0 := Aside0.mk hr0
 have HC0 := Aside0.mk hc0
 clear hr0 hc0
 have HR1 := Aside0.mk hr1
 have HC1 := Aside0.mk hc1
 clear hr1 hc1
 have HB := Aside0.mk (Below.refl w.heap.size w)
 have H : ((impl_square.f k (l0.length : Int)).bind fun t555 => (impl_rowsTimes.l0 k l1 t555 l0 (l0.length : Int) 0)) = some r := h
 clear h
 obtain ⟨t555, A3, H⟩ := bnd_ H
 have H' := Aside0.mk H
 clear H
 go_enter Try.func220, Try.ntmps220
 go_wp2_with (first | ((with_reducible refine gate_callee (f := 221) rfl ?_); refine goesL_ (some 14) rfl rfl Try.func221 (by kernel_rfl) rfl #[.int .i64 (l0.length : Int)] rfl arg_ ?_; (with_reducible refine (impl_square.calls k (l0.length : Int) t555 _ A3.out).mono ?_); rintro e w4 ⟨v556, rfl, ho0, hb⟩; refine ⟨_, rfl, ?_⟩; have HO557 := Aside0.mk (Kd.S_lower ho0 (below_size hb_)); replace HB := Aside0.mk (below_step hb_ hb); (try clear hb); (try clear hb2); (try clear hk); (try clear hi); (try clear ho0)))
 go_loopg [17] k (fun kq v17 w' => ∃ (x5_1 : List (List Int)) (x17_1 : Int), v17 = .int .i64 x17_1 ∧ Aside0 (impl_rowsTimes.l0 kq l1 x5_1 l0 (l0.length : Int) x17_1 = some r) ∧ Aside0 (kq ≤ k) ∧ Aside0 (Kd.S (Kd.slice 2 (Kd.int .i64)) 29 w' w.heap.size (fun _ => True) v556 x5_1) ∧ Aside0 (Below w.heap.size w w'))
 case atStart => exact ⟨(t555), (0), es_, H', ⟨Nat.le_refl _⟩, ⟨Kd.S_below HO557.out bgo_⟩, ⟨hb_⟩⟩
 case round =>
  clear H'
  obtain ⟨x5_1, x17_1, rfl, HA, HK1, HO_5, HB⟩ := hrel
  cases gk with
  | zero => exact absurd HA.out (by simp [impl_rowsTimes.l0])
  | succ k1 =>
   have H := HA.out
   clear HA
   simp only [impl_rowsTimes.l0] at H
   by_cases c5 : x17_1 < (l0.length : Int)
   ·rw [if_pos c5] at H
    have c5b0 := decide_eq_true c5
    clear c5
    obtain ⟨c6, H⟩ := itn_ H
    have c6b0 := decide_eq_true c6
    clear c6
    obtain ⟨c7, H⟩ := itn_ H
    have c7b0 := decide_eq_true c7
    clear c7
    have H' := Aside0.mk H
    clear H
    have p558 : 0 ≤ (x17_1 : Int) := od_
    have q558 : x17_1 < (l0.length : Int) := od_
    obtain ⟨ad558, A558_0, c558_0, e558, hx558_0, hl558_0, hi558_0⟩ := at_L2 HR0.out x17_1 p558 q558
    cases e558
    (try replace hx558_0 := (HB.out.cell (World.block_lt_of_cell? w _ hx558_0)).trans hx558_0)
    have HR558_0 := Aside0.mk hi558_0
    have HC558_0 := Aside0.mk hl558_0
    clear hi558_0 hl558_0
    replace p558 := eq_true p558
    replace q558 := eq_true q558
    go_wp2
    go_loopg [24] k1 (fun kq v24 w' => ∃ (x5_2 : List (List Int)) (x24_2 : Int), v24 = .int .i64 x24_2 ∧ Aside0 (impl_rowsTimes.l1 kq l1 x5_2 x17_1 l0 (l0.length : Int) x17_1 (rd_L2 l0 x17_1) ((rd_L2 l0 x17_1).length : Int) x24_2 = some r) ∧ Aside0 (kq ≤ k1) ∧ Aside0 (Kd.S (Kd.slice 2 (Kd.int .i64)) 29 w' w.heap.size (fun _ => True) v556 x5_2) ∧ Aside0 (Below w.heap.size w w'))
    case atStart => exact ⟨(x5_1), (0), es_, H', ⟨Nat.le_refl _⟩, ⟨Kd.S_below HO_5.out bgo_⟩, ⟨hb_⟩⟩
    case round =>
     clear H'
     obtain ⟨x5_2, x24_2, rfl, HA, HK2, HO_5, HB⟩ := hrel
     cases gk with
     | zero => exact absurd HA.out (by simp [impl_rowsTimes.l1])
     | succ k2 =>
      have H := HA.out
      clear HA
      simp only [impl_rowsTimes.l1] at H
      by_cases c8 : x24_2 < ((rd_L2 l0 x17_1).length : Int)
      ·rw [if_pos c8] at H
       have c8b0 := decide_eq_true c8
       clear c8
       obtain ⟨c9, H⟩ := itn_ H
       have c9b0 := decide_eq_true c9
       clear c9
       obtain ⟨c10, H⟩ := itn_ H
       have c10b0 := decide_eq_true c10
       clear c10
       by_cases c11 : (rd (rd_L2 l0 x17_1) x24_2) = 0
       ·rw [if_pos c11] at H
        have c11b0 : ((rd (rd_L2 l0 x17_1) x24_2) == 0) = true := beq_iff_eq.mpr c11
        have c11b1 : ((rd (rd_L2 l0 x17_1) x24_2) != 0) = false := bne_eq_false_iff_eq.mpr c11
        clear c11
        have H' := Aside0.mk H
        clear H
        have p559 : 0 ≤ (x24_2 : Int) := od_
        have q559 : x24_2 < ((rd_L2 l0 x17_1).length : Int) := od_
        obtain ⟨ad559, e559, hx559_0⟩ := Kd.at_int HR558_0.out x24_2 p559 q559
        cases e559
        (try replace hx559_0 := (HB.out.cell (World.block_lt_of_cell? w _ hx559_0)).trans hx559_0)
        replace p559 := eq_true p559
        replace q559 := eq_true q559
        go_wp2
        first | go_roundg k2 | (refine Handed.intro k2 ?measure ?_; rotate_left; go_step; (try simp only [add_plain]); (repeat apply Exists.intro); refine ⟨?rel, rfl⟩)
        case measure => have := HK1.out; have := HK2.out; omega
        case rel => exact ⟨(x5_2), (wrap64 (x24_2 + 1)), es_, H', ⟨by have := HK1.out; have := HK2.out; omega⟩, ⟨Kd.S_below HO_5.out bgo_⟩, ⟨hb_⟩⟩
       ·rw [if_neg c11] at H
        have c11b0 : ((rd (rd_L2 l0 x17_1) x24_2) == 0) = false := beq_eq_false_iff_ne.mpr c11
        have c11b1 : ((rd (rd_L2 l0 x17_1) x24_2) != 0) = true := bne_iff_ne.mpr c11
        obtain ⟨c12, H⟩ := itn_ H
        have c12b0 := decide_eq_true c12
        clear c12
        have H' := Aside0.mk H
        clear H
        have p559 : 0 ≤ (x24_2 : Int) := od_
        have q559 : x24_2 < ((rd_L2 l0 x17_1).length : Int) := od_
        obtain ⟨ad559, e559, hx559_0⟩ := Kd.at_int HR558_0.out x24_2 p559 q559
        cases e559
        (try replace hx559_0 := (HB.out.cell (World.block_lt_of_cell? w _ hx559_0)).trans hx559_0)
        replace p559 := eq_true p559
        replace q559 := eq_true q559
        have p560 : 0 ≤ (x24_2 : Int) := od_
        have q560 : x24_2 < (l1.length : Int) := od_
        obtain ⟨ad560, A560_0, c560_0, e560, hx560_0, hl560_0, hi560_0⟩ := at_L2 HR1.out x24_2 p560 q560
        cases e560
        (try replace hx560_0 := (HB.out.cell (World.block_lt_of_cell? w _ hx560_0)).trans hx560_0)
        have HR560_0 := Aside0.mk hi560_0
        have HC560_0 := Aside0.mk hl560_0
        clear hi560_0 hl560_0
        replace p560 := eq_true p560
        replace q560 := eq_true q560
        go_wp2
        go_loopg [36] k2 (fun kq v36 w' => ∃ (x5_3 : List (List Int)) (x36_3 : Int), v36 = .int .i64 x36_3 ∧ Aside0 (impl_rowsTimes.l2 kq l1 x5_3 x17_1 (rd (rd_L2 l0 x17_1) x24_2) l0 (l0.length : Int) x17_1 (rd_L2 l0 x17_1) ((rd_L2 l0 x17_1).length : Int) x24_2 (rd_L2 l1 x24_2) ((rd_L2 l1 x24_2).length : Int) x36_3 = some r) ∧ Aside0 (kq ≤ k2) ∧ Aside0 (Kd.S (Kd.slice 2 (Kd.int .i64)) 29 w' w.heap.size (fun _ => True) v556 x5_3) ∧ Aside0 (Below w.heap.size w w'))
        case atStart => exact ⟨(x5_2), (0), es_, H', ⟨Nat.le_refl _⟩, ⟨Kd.S_below HO_5.out bgo_⟩, ⟨hb_⟩⟩
        case round =>
         clear H'
         obtain ⟨x5_3, x36_3, rfl, HA, HK3, HO_5, HB⟩ := hrel
         cases gk with
         | zero => exact absurd HA.out (by simp [impl_rowsTimes.l2])
         | succ k3 =>
          have H := HA.out
          clear HA
          simp only [impl_rowsTimes.l2] at H
          by_cases c13 : x36_3 < ((rd_L2 l1 x24_2).length : Int)
          ·rw [if_pos c13] at H
           have c13b0 := decide_eq_true c13
           clear c13
           obtain ⟨c14, H⟩ := itn_ H
           have c14b0 := decide_eq_true c14
           clear c14
           obtain ⟨c15, H⟩ := itn_ H
           have c15b0 := decide_eq_true c15
           clear c15
           obtain ⟨c16, H⟩ := itn_ H
           have c16b0 := decide_eq_true c16
           clear c16
           obtain ⟨c17, H⟩ := itn_ H
           have c17b0 := decide_eq_true c17
           clear c17
           obtain ⟨c18, H⟩ := itn_ H
           have c18b0 := decide_eq_true c18
           clear c18
           obtain ⟨y564, Ny564, H⟩ : ∃ y564 : List Int, Aside0 (y564 = ((rd_L2 x5_3 x17_1).set (x36_3 : Int).toNat (wrap64 ((rd (rd_L2 x5_3 x17_1) x36_3) + (wrap64 ((rd (rd_L2 l0 x17_1) x24_2) * (rd (rd_L2 l1 x24_2) x36_3))))))) ∧ (impl_rowsTimes.l2 k3 l1 (x5_3.set (x17_1 : Int).toNat y564) x17_1 (rd (rd_L2 l0 x17_1) x24_2) l0 (l0.length : Int) x17_1 (rd_L2 l0 x17_1) ((rd_L2 l0 x17_1).length : Int) x24_2 (rd_L2 l1 x24_2) ((rd_L2 l1 x24_2).length : Int) (wrap64 (x36_3 + 1))) = some r := ⟨_, ⟨rfl⟩, H⟩
           obtain ⟨y566, Ny566, H⟩ : ∃ y566 : List (List Int), Aside0 (y566 = (x5_3.set (x17_1 : Int).toNat y564)) ∧ (impl_rowsTimes.l2 k3 l1 y566 x17_1 (rd (rd_L2 l0 x17_1) x24_2) l0 (l0.length : Int) x17_1 (rd_L2 l0 x17_1) ((rd_L2 l0 x17_1).length : Int) x24_2 (rd_L2 l1 x24_2) ((rd_L2 l1 x24_2).length : Int) (wrap64 (x36_3 + 1))) = some r := ⟨_, ⟨rfl⟩, H⟩
           have H' := Aside0.mk H
           clear H
           have p561 : 0 ≤ (x36_3 : Int) := od_
           have q561 : x36_3 < ((rd_L2 l1 x24_2).length : Int) := od_
           obtain ⟨ad561, e561, hx561_0⟩ := Kd.at_int HR560_0.out x36_3 p561 q561
           cases e561
           (try replace hx561_0 := (HB.out.cell (World.block_lt_of_cell? w _ hx561_0)).trans hx561_0)
           replace p561 := eq_true p561
           replace q561 := eq_true q561
           obtain ⟨Ao20, co20, eo20⟩ := Kd.S_slice HO_5.out
           subst eo20
           have p562 : 0 ≤ (x17_1 : Int) := od_
           have q562 : x17_1 < (x5_3.length : Int) := od_
           obtain ⟨ad562, A562_0, c562_0, e562, hx562_0, hl562_0, hi562_0⟩ := at_L2 (Kd.S_reads' HO_5.out).2.2 x17_1 p562 q562
           cases e562
           obtain ⟨ce562, hce562, hMe562, hcc562⟩ := Kd.S_get HO_5.out [] x17_1 p562 (by first | exact q562 | exact od_ | (have e_ := (Kd.S_reads' HO_5.out).1; omega))
           obtain ⟨ve562_0, rfl, ge562_0⟩ := hMe562
           have hv562_0 := hcc562 0 _ rfl
           rw [Nat.add_zero, show ((Kd.slice 2 (Kd.int .i64))).sz = 1 from rfl, Nat.mul_one] at hv562_0
           replace hv562_0 := Option.some.inj (hv562_0.symm.trans hx562_0)
           rw [hv562_0] at ge562_0
           have HL562_0 := Aside0.mk (show Kd.R (Kd.int .i64) 2 _ _ _ _ (rd_L2 x5_3 x17_1) from ge562_0)
           clear hv562_0 ge562_0
           have HX562_0 := Aside0.mk hx562_0
           clear hcc562 hce562
           have HR562_0 := Aside0.mk hi562_0
           have HC562_0 := Aside0.mk hl562_0
           clear hi562_0 hl562_0
           replace p562 := eq_true p562
           replace q562 := eq_true q562
           have p563 : 0 ≤ (x36_3 : Int) := od_
           have q563 : x36_3 < ((rd_L2 x5_3 x17_1).length : Int) := od_
           obtain ⟨ad563, e563, hx563_0⟩ := Kd.at_int (by repeat (first | (with_reducible exact HR562_0.out) | (with_reducible refine Kd.C_alloc ?_ _) | (with_reducible refine Kd.C_drewN ?_ _) | (with_reducible refine Kd.C_drew ?_) | exact HR562_0.out)) x36_3 p563 q563
           cases e563
           replace p563 := eq_true p563
           replace q563 := eq_true q563
           have p19 : 0 ≤ (x36_3 : Int) := od_
           have q19 : (x36_3 : Int) < (((rd_L2 x5_3 x17_1).length : Int) : Int) := od_
           obtain ⟨go19, co19, eo19, gb19, gl19, cl19, HG19⟩ := Kd.R_form HL562_0.out (by omega)
           (first | cases eo19 | (injection eo19 with ea_ en_ ec_; (first | subst ea_ | (injection ea_ with ea_; subst ea_)); subst ec_; clear en_))
           have GB19 := Aside0.mk gb19
           have GG19 := Aside0.mk HG19
           clear gb19 gl19 HG19
           (first | simp only [add_plain] at hx563_0 | skip)
           obtain ⟨hx19_0, hf19_0⟩ := Kd.R_celln 0 HL562_0.out (x36_3 : Int) p19 q19
           replace p19 := eq_true p19
           replace q19 := eq_true q19
           have hq21 : (x17_1 : Int) < (x5_3.length : Int) := (by have h_ : (x17_1 : Int) < ((x5_3.length : Int) : Int) := od_; first | exact h_ | (have e_ := (Kd.S_reads' HO_5.out).1; omega) | simpa only [List.length_set, List.length_set] using h_)
           obtain ⟨oki21, ce21, hcl21, hM21, hcc21, hok21, hbk21⟩ := Kd.S_borrow HO_5.out [] (x17_1 : Int) (od_) (by first | exact hq21 | (have e_ := (Kd.S_reads' HO_5.out).1; have h_ := hq21; omega))
           obtain ⟨ve21_0, rfl, ge21_0⟩ := hM21
           have hv21 := hcc21 0 _ rfl
           rw [Nat.add_zero, show ((Kd.slice 2 (Kd.int .i64))).sz = 1 from rfl, Nat.mul_one] at hv21
           replace hv21 := Option.some.inj (hv21.symm.trans HX562_0.out)
           subst hv21
           clear hcc21 hcl21
           replace ge21_0 := (show Kd.R (Kd.int .i64) 2 _ _ _ _ (rd_L2 x5_3 x17_1) from ge21_0)
           have HP21 := Kd.R_putg ge21_0 (x36_3 : Int) (wrap64 ((rd (rd_L2 x5_3 x17_1) x36_3) + (wrap64 ((rd (rd_L2 l0 x17_1) x24_2) * (rd (rd_L2 l1 x24_2) x36_3)))))
           go_wp2_with (first | ((with_reducible refine gate_store (t := 2) (p := 52) rfl ?_); refine store_event (t := 2) (p := 52) (v := ?vo_w22) (w1 := (wr.setCell ⟨go19, (x36_3 : Int).toNat, none⟩ (.int .i64 (wrap64 ((rd (rd_L2 x5_3 x17_1) x36_3) + (wrap64 ((rd (rd_L2 l0 x17_1) x24_2) * (rd (rd_L2 l1 x24_2) x36_3)))))))) ?hg ?ho ?hn ?hr ?_; (case ho => rfl); (case hg => rfl); (case hn => rfl); (case hr => first | (go_simp; done) | (go_simp; rfl)); intro w22 hw; have hg : wr.grownBy w22 (some go19) := (by rw [hw]; exact HP21.2); have hz_ : Kd.R (Kd.int .i64) 2 w22 w.heap.size oki21 (.slice (some ⟨go19, 0, none⟩) (rd_L2 x5_3 x17_1).length c562_0) y564 := (by rw [hw, Ny564.out]; exact HP21.1); have hp_ : Kd.S (Kd.slice 2 (Kd.int .i64)) 29 w22 w.heap.size (fun _ => True) (.slice (some ad562) x5_3.length co20) y566 := (by rw [Ny566.out]; exact hbk21 hg (fun k_ e_ => by injection e_ with e_; subst e_; exact ge21_0.1 _ rfl) (Kd.M_row hz_)); have hm_ := Kd.R_mono hz_ hok21; clear HP21 hbk21; replace HO_5 := Aside0.mk (hp_); replace HB := Aside0.mk ((by rw [hw]; exact below_set (HB.out) GB19.out : Below w.heap.size w w22)); have HL567 := Aside0.mk (hm_); have HC565 := Aside0.mk ((Kd.R_reads' hm_).2.1); clear HL562_0; clear hg hw hp_ hz_ hm_ hok21))
           first | go_roundg k3 | (refine Handed.intro k3 ?measure ?_; rotate_left; go_step; (try simp only [add_plain]); (repeat apply Exists.intro); refine ⟨?rel, rfl⟩)
           case measure => have := HK1.out; have := HK2.out; have := HK3.out; omega
           case rel => exact ⟨(y566), (wrap64 (x36_3 + 1)), es_, H', ⟨by have := HK1.out; have := HK2.out; have := HK3.out; omega⟩, ⟨Kd.S_below HO_5.out bgo_⟩, ⟨hb_⟩⟩
          ·rw [if_neg c13] at H
           have c13b0 := decide_eq_false c13
           clear c13
           have H' := Aside0.mk H
           clear H
           go_wp2
           first | go_roundg k3 | (refine Handed.intro k3 ?measure ?_; rotate_left; go_step; (try simp only [add_plain]); (repeat apply Exists.intro); refine ⟨?rel, rfl⟩)
           case measure => have := HK1.out; have := HK2.out; have := HK3.out; omega
           case rel => exact ⟨(x5_3), (wrap64 (x24_2 + 1)), es_, H', ⟨by have := HK1.out; have := HK2.out; have := HK3.out; omega⟩, ⟨Kd.S_below HO_5.out bgo_⟩, ⟨hb_⟩⟩
      ·rw [if_neg c8] at H
       have c8b0 := decide_eq_false c8
       clear c8
       have H' := Aside0.mk H
       clear H
       go_wp2
       first | go_roundg k2 | (refine Handed.intro k2 ?measure ?_; rotate_left; go_step; (try simp only [add_plain]); (repeat apply Exists.intro); refine ⟨?rel, rfl⟩)
       case measure => have := HK1.out; have := HK2.out; omega
       case rel => exact ⟨(x5_2), (wrap64 (x17_1 + 1)), es_, H', ⟨by have := HK1.out; have := HK2.out; omega⟩, ⟨Kd.S_below HO_5.out bgo_⟩, ⟨hb_⟩⟩
   ·rw [if_neg c5] at H
    have c5b0 := decide_eq_false c5
    clear c5
    obtain rfl := Option.some.inj H
    go_wp2
    go_ret
    exact ⟨_, er_, (Kd.S_below HO_5.out bgo_), hb_⟩

/-! ### impl_determinant: function 178 -/
mutual
def impl_determinant.l0 : Nat → List (List Int) → List Int → List (List Int) → Int → Option (List Int)
 | 0, _, _, _, _ => none
 | k + 1, x0, x3, x4, x5 => if x5 ≤ (x0.length : Int) then ((impl_rowsTimes.f k x0 x4).bind fun t577 => (impl_determinant.l1 k x0 x3 t577 x5 (t577.length : Int) 0)) else ((impl_trimmed.f k x3).bind fun t574 => (some t574))
def impl_determinant.l1 : Nat → List (List Int) → List Int → List (List Int) → Int → Int → Int → Option (List Int)
 | 0, _, _, _, _, _, _ => none
 | k + 1, x0, x3, x4, x5, x21, x22 => if x22 < x21 then (if 0 ≤ x22 then (if x22 < (x4.length : Int) then (if x22 < ((rd_L2 x4 x22).length : Int) then (if 0 ≤ (wrap64 (x5 - 1)) then (if (wrap64 (x5 - 1)) < (x3.length : Int) then (impl_determinant.l1 k x0 x3 (x4.set (x22 : Int).toNat ((rd_L2 x4 x22).set (x22 : Int).toNat (wrap64 ((rd (rd_L2 x4 x22) x22) + (rd x3 (wrap64 (x5 - 1))))))) x5 x21 (wrap64 (x22 + 1))) else (none)) else (none)) else (none)) else (none)) else (none)) else ((impl_rowsTimes.f k x0 x4).bind fun t586 => ((impl_trace.f k t586).bind fun t589 => (if x5 = 0 then (none) else (if x3.length < 17592186044416 then (impl_determinant.l0 k x0 (x3 ++ [wrap64 (Int.tdiv (wrap64 (-t589)) x5)]) x4 (wrap64 (x5 + 1))) else (none)))))
end
def impl_determinant.f (k : Nat) (l0 : List (List Int)) : Option (List Int) := (impl_square.f k (l0.length : Int)).bind fun t571 => (impl_determinant.l0 k l0 (([1] : List Int)) t571 1)
def impl_determinant.T9 : Bool × List (List Nat × List Nat) := (true, [([], []), ([], []), ([0, 1], [0, 1]), ([2], [2]), ([], []), ([3, 4], [3, 4]), ([5], [5]), ([], []), ([], []), ([8], [8]), ([7, 9], [7, 9]), ([10], [10]), ([6, 11], [6, 11]), ([3, 4, 0, 1, 2, 3, 4, 5, 6, 7, 8, 9, 10, 11, 12], [3, 4]), ([13, 12, 0, 1, 2, 3, 4, 5, 6, 7, 8, 9, 10, 11, 12], [12, 13])])
def impl_determinant.B9 : List Nat := [0, 0, 3, 7, 0, 31, 63, 0, 0, 256, 896, 1920, 4095, 8191, 16383]
theorem impl_determinant.tab9 : rtab .any (opsOf Try.f178 9) = impl_determinant.T9 := by kernel_rfl
theorem impl_determinant.bits9 : waitsOk impl_determinant.T9.2 impl_determinant.B9 = true := by kernel_rfl
set_option maxHeartbeats 8000000 in
set_option maxRecDepth 100000 in
theorem impl_determinant.calls (k : Nat) (A0 : Option Addr) (c0 : Nat) (l0 : List (List Int)) (r : List Int) (w : World) (hr0 : Kd.C (Kd.slice 2 (Kd.int .i64)) w A0 l0.length l0) (hc0 : l0.length ≤ c0) (h : impl_determinant.f k l0 = some r) :
  Calls Try.prog 178 #[.slice A0 l0.length c0] w fun e w' => ∃ v0_ : Value, e = .returned (v0_) ∧ Kd.R (Kd.int .i64) 2 w' w.heap.size (fun _ => True) v0_ r ∧ Below w.heap.size w w' := by
 have HR0 := Aside0.mk hr0
 have HC0 := Aside0.mk hc0
 clear hr0 hc0
 have HB := Aside0.mk (Below.refl w.heap.size w)
 have H : ((impl_square.f k (l0.length : Int)).bind fun t571 => (impl_determinant.l0 k l0 (([1] : List Int)) t571 1)) = some r := h
 clear h
 obtain ⟨y568, Ny568, H⟩ : ∃ y568 : List Int, Aside0 (y568 = (([1] : List Int))) ∧ ((impl_square.f k (l0.length : Int)).bind fun t571 => (impl_determinant.l0 k l0 y568 t571 1)) = some r := ⟨_, ⟨rfl⟩, H⟩
 obtain ⟨t571, A2, H⟩ := bnd_ H
 have H' := Aside0.mk H
 clear H
 go_enter Try.func178, Try.ntmps178
 go_wp2_with (first | ((with_reducible refine gate_dst (N := 7) rfl ?_); refine Kd.R_lit (Kd.int .i64) _ 2 ?hg (N := 7) ?hd (xs := ([1] : List Int)) (inner := [.int .i64 1]) (ok := fun _ => True) (okp := fun _ => True) ?hr ?hp (fun _ hk => hk) trivial (Below.refl _ _) (Nat.le_refl _) (by simp) ?_; (case hd => rfl); (case hg => rfl); (case hr => first | (go_simp; done) | (go_simp; rfl)); (case hp => exact (Reps.one (show Kd.M (Kd.int .i64) _ _ _ 1 [.int .i64 1] from rfl) (Reps.none _ _))); intro v569 w3 ho4 hb hg_ hnew_; clear hg_ hnew_; (first | rw [← Ny568.out] at ho4 | (simp only [Int.reduceToNat] at ho4; rw [← Ny568.out] at ho4)); have HO570 := Aside0.mk (Kd.R_lower ho4 (below_size hb_)); replace HB := Aside0.mk (below_step hb_ hb); clear hb ho4) | ((with_reducible refine gate_callee (f := 221) rfl ?_); refine goesL_ (some 10) rfl rfl Try.func221 (by kernel_rfl) rfl #[.int .i64 (l0.length : Int)] rfl arg_ ?_; (with_reducible refine (impl_square.calls k (l0.length : Int) t571 _ A2.out).mono ?_); rintro e w5 ⟨v572, rfl, ho0, hb⟩; refine ⟨_, rfl, ?_⟩; have HO573 := Aside0.mk (Kd.S_lower (Kd.S_new' ho0 (Kd.R_lt (Kd.R_below HO570.out bgo_))) (below_size hb_)); replace HO570 := Aside0.mk (Kd.R_below (Kd.R_below HO570.out bgo_) hb); replace HB := Aside0.mk (below_step hb_ hb); (try clear hb); (try clear hb2); (try clear hk); (try clear hi); (try clear ho0)))
 go_loopg [3, 4, 5] k (fun kq v3 v4 v5 w' => ∃ (x3_1 : List Int) (x4_1 : List (List Int)) (x5_1 : Int), v5 = .int .i64 x5_1 ∧ Aside0 (impl_determinant.l0 kq l0 x3_1 x4_1 x5_1 = some r) ∧ Aside0 (kq ≤ k) ∧ Aside0 (Kd.R (Kd.int .i64) 2 w' w.heap.size (fun _ => True) v3 x3_1) ∧ Aside0 (Kd.S (Kd.slice 2 (Kd.int .i64)) 29 w' w.heap.size (fun k_ => some k_ ≠ (v3 : Value).ownBlock) v4 x4_1) ∧ Aside0 (Below w.heap.size w w'))
 case atStart => exact ⟨(y568), (t571), (1), es_, H', ⟨Nat.le_refl _⟩, ⟨Kd.R_below HO570.out bgo_⟩, ⟨by (with_reducible repeat (first | apply Kd.S_alloc | apply Kd.S_drewN | apply Kd.S_drew)); exact Kd.S_mono HO573.out (fun _ hk => hk.2)⟩, ⟨hb_⟩⟩
 case round =>
  clear H'
  obtain ⟨x3_1, x4_1, x5_1, rfl, HA, HK1, HO_3, HO_4, HB⟩ := hrel
  cases gk with
  | zero => exact absurd HA.out (by simp [impl_determinant.l0])
  | succ k1 =>
   have H := HA.out
   clear HA
   simp only [impl_determinant.l0] at H
   by_cases c6 : x5_1 ≤ (l0.length : Int)
   ·rw [if_pos c6] at H
    have c6b0 := decide_eq_true c6
    clear c6
    obtain ⟨t577, A7, H⟩ := bnd_ H
    have H' := Aside0.mk H
    clear H
    obtain ⟨Ao8, co8, eo8⟩ := Kd.S_slice HO_4.out
    subst eo8
    go_wp2_with (first | ((with_reducible refine gate_callee (f := 220) rfl ?_); refine goesL_ (some 19) rfl rfl Try.func220 (by kernel_rfl) rfl #[.slice A0 l0.length c0, .slice Ao8 x4_1.length co8] rfl arg_ ?_; (with_reducible refine (impl_rowsTimes.calls k1 _ _ l0 _ _ x4_1 t577 _ ?side1 ?side2 ?side3 ?side4 A7.out).mono ?_); (case side1 => exact Kd.C_below (Kd.C_below HR0.out HB.out) bgo_); (case side2 => exact HC0.out); (case side3 => exact Kd.C_below (Kd.S_reads' HO_4.out).2.2 bgo_); (case side4 => exact (Kd.S_reads' HO_4.out).2.1); rintro e w9 ⟨v578, rfl, ho0, hb⟩; refine ⟨_, rfl, ?_⟩; have HO579 := Aside0.mk (Kd.S_lower (Kd.S_new' (Kd.S_new' ho0 (Kd.R_lt (Kd.R_below HO_3.out bgo_))) (Kd.S_lt (Kd.S_below HO_4.out bgo_))) (below_size hb_)); replace HO_3 := Aside0.mk (Kd.R_below (Kd.R_below HO_3.out bgo_) hb); replace HO_4 := Aside0.mk (Kd.S_elder' (Kd.S_below HO_4.out bgo_) (Kd.S_base ho0) hb); replace HB := Aside0.mk (below_step hb_ hb); (try clear hb); (try clear hb2); (try clear hk); (try clear hi); (try clear ho0); obtain ⟨Ao10, co10, eo10⟩ := Kd.S_slice HO579.out; subst eo10))
    go_loopg [22] k1 (fun kq v22 w' => ∃ (x3_2 : List Int) (x4_2 : List (List Int)) (x22_2 : Int), v22 = .int .i64 x22_2 ∧ Aside0 (impl_determinant.l1 kq l0 x3_2 x4_2 x5_1 (t577.length : Int) x22_2 = some r) ∧ Aside0 (kq ≤ k1) ∧ Aside0 (Kd.R (Kd.int .i64) 2 w' w.heap.size (fun _ => True) u3 x3_2) ∧ Aside0 (Kd.S (Kd.slice 2 (Kd.int .i64)) 29 w' w.heap.size (fun k_ => some k_ ≠ (u3 : Value).ownBlock) (.slice Ao10 t577.length co10) x4_2) ∧ Aside0 (Below w.heap.size w w'))
    case atStart => exact ⟨(x3_1), (t577), (0), es_, H', ⟨Nat.le_refl _⟩, ⟨Kd.R_below HO_3.out bgo_⟩, ⟨by (with_reducible repeat (first | apply Kd.S_alloc | apply Kd.S_drewN | apply Kd.S_drew)); exact Kd.S_mono HO579.out (fun _ hk => hk.1.2)⟩, ⟨hb_⟩⟩
    case round =>
     clear H'
     obtain ⟨x3_2, x4_2, x22_2, rfl, HA, HK2, HO_3, HO_4, HB⟩ := hrel
     have hl4_2 := (Kd.S_reads' HO_4.out).1
     rw [hl4_2] at HO_4
     (try simp only [hl4_2])
     (try simp only [hl4_2] at HO_3)
     cases gk with
     | zero => exact absurd HA.out (by simp [impl_determinant.l1])
     | succ k2 =>
      have H := HA.out
      clear HA
      simp only [impl_determinant.l1] at H
      by_cases c11 : x22_2 < (t577.length : Int)
      ·rw [if_pos c11] at H
       have c11b0 := decide_eq_true c11
       (try (have c11z0 := c11b0; simp only [hl4_2] at c11z0))
       clear c11
       obtain ⟨c12, H⟩ := itn_ H
       have c12b0 := decide_eq_true c12
       clear c12
       obtain ⟨c13, H⟩ := itn_ H
       have c13b0 := decide_eq_true c13
       (try (have c13z0 := c13b0; simp only [hl4_2] at c13z0))
       clear c13
       obtain ⟨c14, H⟩ := itn_ H
       have c14b0 := decide_eq_true c14
       (try (have c14z0 := c14b0; simp only [hl4_2] at c14z0))
       clear c14
       obtain ⟨ji15, hji15⟩ : ∃ j_ : Int, (wrap64 (x5_1 - 1)) = j_ := ⟨_, rfl⟩
       (try rw [hji15])
       replace H : (if 0 ≤ (ji15) then (if (ji15) < (x3_2.length : Int) then (impl_determinant.l1 k2 l0 x3_2 (x4_2.set (x22_2 : Int).toNat ((rd_L2 x4_2 x22_2).set (x22_2 : Int).toNat (wrap64 ((rd (rd_L2 x4_2 x22_2) x22_2) + (rd x3_2 (ji15)))))) x5_1 (t577.length : Int) (wrap64 (x22_2 + 1))) else (none)) else (none)) = some r := by first | (rw [hji15] at H; exact H) | (simp only [hji15] at H ⊢; exact H)
       have hji15w : (IntKind.i64.wrap (x5_1 - 1)) = ji15 := (i64_w _).trans hji15
       obtain ⟨c16, H⟩ := itn_ H
       have c16b0 := decide_eq_true c16
       clear c16
       obtain ⟨c17, H⟩ := itn_ H
       have c17b0 := decide_eq_true c17
       (try (have c17z0 := c17b0; simp only [hl4_2] at c17z0))
       clear c17
       obtain ⟨y583, Ny583, H⟩ : ∃ y583 : List Int, Aside0 (y583 = ((rd_L2 x4_2 x22_2).set (x22_2 : Int).toNat (wrap64 ((rd (rd_L2 x4_2 x22_2) x22_2) + (rd x3_2 (ji15)))))) ∧ (impl_determinant.l1 k2 l0 x3_2 (x4_2.set (x22_2 : Int).toNat y583) x5_1 (t577.length : Int) (wrap64 (x22_2 + 1))) = some r := ⟨_, ⟨rfl⟩, H⟩
       obtain ⟨y585, Ny585, H⟩ : ∃ y585 : List (List Int), Aside0 (y585 = (x4_2.set (x22_2 : Int).toNat y583)) ∧ (impl_determinant.l1 k2 l0 x3_2 y585 x5_1 (t577.length : Int) (wrap64 (x22_2 + 1))) = some r := ⟨_, ⟨rfl⟩, H⟩
       have H' := Aside0.mk H
       clear H
       try go_wp2
       have n0_ := Aside0.mk (Kd.R_drew HO_3.out)
       have n1_ := Aside0.mk (Kd.S_drew HO_4.out)
       have n2_ := Aside0.mk (below_drew1 HB.out)
       clear HO_3
       clear HO_4
       clear HB
       have HO_3 := n0_
       have HO_4 := n1_
       have HB := n2_
       clear n0_ n1_ n2_
       have p580 : 0 ≤ (x22_2 : Int) := od_
       have q580 : x22_2 < (x4_2.length : Int) := od_
       obtain ⟨ad580, A580_0, c580_0, e580, hx580_0, hl580_0, hi580_0⟩ := at_L2 (Kd.S_reads' HO_4.out).2.2 x22_2 p580 q580
       cases e580
       obtain ⟨ce580, hce580, hMe580, hcc580⟩ := Kd.S_get HO_4.out [] x22_2 p580 (by first | exact q580 | exact od_ | (have e_ := (Kd.S_reads' HO_4.out).1; omega))
       obtain ⟨ve580_0, rfl, ge580_0⟩ := hMe580
       have hv580_0 := hcc580 0 _ rfl
       rw [Nat.add_zero, show ((Kd.slice 2 (Kd.int .i64))).sz = 1 from rfl, Nat.mul_one] at hv580_0
       replace hv580_0 := Option.some.inj (hv580_0.symm.trans hx580_0)
       rw [hv580_0] at ge580_0
       have HL580_0 := Aside0.mk (show Kd.R (Kd.int .i64) 2 _ _ _ _ (rd_L2 x4_2 x22_2) from ge580_0)
       clear hv580_0 ge580_0
       have HX580_0 := Aside0.mk hx580_0
       clear hcc580 hce580
       have HR580_0 := Aside0.mk hi580_0
       have HC580_0 := Aside0.mk hl580_0
       clear hi580_0 hl580_0
       replace p580 := eq_true p580
       replace q580 := eq_true q580
       have p581 : 0 ≤ (x22_2 : Int) := od_
       have q581 : x22_2 < ((rd_L2 x4_2 x22_2).length : Int) := od_
       obtain ⟨ad581, e581, hx581_0⟩ := Kd.at_int (by repeat (first | (with_reducible exact HR580_0.out) | (with_reducible refine Kd.C_alloc ?_ _) | (with_reducible refine Kd.C_drewN ?_ _) | (with_reducible refine Kd.C_drew ?_) | exact HR580_0.out)) x22_2 p581 q581
       cases e581
       replace p581 := eq_true p581
       replace q581 := eq_true q581
       obtain ⟨Ao20, co20, eo20⟩ := Kd.R_slice HO_3.out
       (first | subst eo20 | (injection eo20 with f1_ f2_ f3_; have f4_ := f1_.symm; have f5_ := f3_.symm; clear f1_ f2_ f3_; subst f4_; subst f5_))
       have p582 : 0 ≤ ((ji15) : Int) := od_
       have q582 : (ji15) < (x3_2.length : Int) := od_
       obtain ⟨ad582, e582, hx582_0⟩ := Kd.at_int (Kd.R_reads' HO_3.out).2.2 (ji15) p582 q582
       cases e582
       replace p582 := eq_true p582
       replace q582 := eq_true q582
       have p18 : 0 ≤ (x22_2 : Int) := od_
       have q18 : (x22_2 : Int) < (((rd_L2 x4_2 x22_2).length : Int) : Int) := od_
       obtain ⟨go18, co18, eo18, gb18, gl18, cl18, HG18⟩ := Kd.R_form HL580_0.out (by omega)
       (first | cases eo18 | (injection eo18 with ea_ en_ ec_; (first | subst ea_ | (injection ea_ with ea_; subst ea_)); subst ec_; clear en_))
       have GB18 := Aside0.mk gb18
       have GG18 := Aside0.mk HG18
       clear gb18 gl18 HG18
       (first | simp only [add_plain] at hx581_0 | skip)
       obtain ⟨hx18_0, hf18_0⟩ := Kd.R_celln 0 HL580_0.out (x22_2 : Int) p18 q18
       replace p18 := eq_true p18
       replace q18 := eq_true q18
       have hq21 : (x22_2 : Int) < (x4_2.length : Int) := (by have h_ : (x22_2 : Int) < ((x4_2.length : Int) : Int) := od_; first | exact h_ | (have e_ := (Kd.S_reads' HO_4.out).1; omega) | simpa only [List.length_set, List.length_set] using h_)
       obtain ⟨oki21, ce21, hcl21, hM21, hcc21, hok21, hbk21⟩ := Kd.S_borrow HO_4.out [] (x22_2 : Int) (od_) (by first | exact hq21 | (have e_ := (Kd.S_reads' HO_4.out).1; have h_ := hq21; omega))
       obtain ⟨ve21_0, rfl, ge21_0⟩ := hM21
       have hv21 := hcc21 0 _ rfl
       rw [Nat.add_zero, show ((Kd.slice 2 (Kd.int .i64))).sz = 1 from rfl, Nat.mul_one] at hv21
       replace hv21 := Option.some.inj (hv21.symm.trans HX580_0.out)
       subst hv21
       clear hcc21 hcl21
       replace ge21_0 := (show Kd.R (Kd.int .i64) 2 _ _ _ _ (rd_L2 x4_2 x22_2) from ge21_0)
       have HP21 := Kd.R_putg ge21_0 (x22_2 : Int) (wrap64 ((rd (rd_L2 x4_2 x22_2) x22_2) + (rd x3_2 (ji15))))
       rw [← Ny583.out] at HP21
       have HS21 := hbk21 HP21.2 (fun k_ e_ => by injection e_ with e_; subst e_; exact ge21_0.1 _ rfl) (x' := y583) (Kd.M_row HP21.1)
       rw [← Ny585.out] at HS21
       have HQ21 := Aside0.mk HS21
       clear HP21 HS21 hbk21 hok21
       refine start_ (n := 15) (S := fun w' => w'.cell? (ad580.add (x22_2).toNat) = some (.slice (some ⟨go18, 0, none⟩) (rd_L2 x4_2 x22_2).length c580_0) ∧ w'.cell? ⟨go18, (x22_2).toNat, none⟩ = some (.int .i64 (rd (rd_L2 x4_2 x22_2) x22_2)) ∧ w'.cell? (ad582.add ((ji15)).toNat) = some (.int .i64 (rd x3_2 (ji15)))) (ds := [14]) #[false, false, false, false, false, false, false, false, false, false, false, false, false, false, false] (by kernel_rfl) rfl rfl ⟨hx580_0, hx581_0, hx582_0⟩ (fun hHeld => ?_); refine with_tabW impl_determinant.tab9 impl_determinant.bits9 (fun HT_ HW_ => ?_)
       generalize wr.drew = w19 at HO_3 HO_4 HB GG18 HL580_0 HQ21 HR580_0 HX580_0 hf18_0 hx18_0 hx580_0 hx581_0 hx582_0 hHeld ⊢
       refine pk_ 0 15 25 1 ?_
       refine pk_ 1 15 26 3 ?_
       refine pk_ 2 15 27 7 ?_
       refine pk_ 4 15 29 23 ?_
       refine pk_ 7 15 32 151 ?_
       refine pk_ 8 15 33 407 ?_
       refine pk_ 9 15 34 919 ?_
       refine pk_ 10 15 35 1943 ?_
       refine tk_ 3 15 28 1951 hHeld ?_
       refine pk_ 5 15 30 1983 ?_
       refine tk_ 6 15 31 2047 hHeld ?_
       refine tk_ 11 15 36 4095 hHeld ?_
       refine pk_ 12 15 37 8191 ?_
       refine pk_ 13 15 38 16383 ?_
       refine last_ (i := 14) (N := none) #[true, true, true, true, true, true, true, true, true, true, true, true, true, true, true] rfl rfl (one_of HT_.out (by kernel_rfl)) (by decide) (fun K hK => ?_)
       refine skip_ (w1 := ?_) (by rfl) rfl ?_ ?_
       rotate_left
       ·go_simp
        rfl
       refine hK.out _ _ ?_
       clear hK K
       refine done_ (done_of HT_.out (by kernel_rfl)) ?_
       try go_wp2
       (try simp only [← hl4_2])
       first | (first | go_roundg k2 | (refine Handed.intro k2 ?measure ?_; rotate_left; go_step; (try simp only [add_plain]); (repeat apply Exists.intro); refine ⟨?rel, rfl⟩)) | ((try subst hji15); (first | go_roundg k2 | (refine Handed.intro k2 ?measure ?_; rotate_left; go_step; (try simp only [add_plain]); (repeat apply Exists.intro); refine ⟨?rel, rfl⟩)))
       case measure => have := HK1.out; have := HK2.out; omega
       case rel => exact ⟨(x3_2), (y585), (wrap64 (x22_2 + 1)), es_, H', ⟨by have := HK1.out; have := HK2.out; omega⟩, ⟨by (try simp only [hl4_2]); (with_reducible repeat (first | apply Kd.R_alloc | apply Kd.R_drewN | apply Kd.R_drew)); exact Kd.R_mono (Kd.R_far (p := ⟨go18, (x22_2 : Int).toNat, none⟩) (Kd.R_far1 HO_3.out rfl ((HL580_0.out.1 _ rfl).1)) (fun _ hk => hk.2) (.int .i64 (wrap64 ((rd (rd_L2 x4_2 x22_2) x22_2) + (rd x3_2 (ji15)))))) (fun _ hk => trivial)⟩, ⟨by (try simp only [hl4_2]); (with_reducible repeat (first | apply Kd.S_alloc | apply Kd.S_drewN | apply Kd.S_drew)); exact HQ21.out⟩, ⟨hbs_⟩⟩
      ·rw [if_neg c11] at H
       have c11b0 := decide_eq_false c11
       (try (have c11z0 := c11b0; simp only [hl4_2] at c11z0))
       clear c11
       obtain ⟨t586, A23, H⟩ := bnd_ H
       obtain ⟨t589, A24, H⟩ := bnd_ H
       by_cases c25 : x5_1 = 0
       ·rw [if_pos c25] at H
        exact absurd H (by simp)
       ·rw [if_neg c25] at H
        have c25b0 : (x5_1 == 0) = false := beq_eq_false_iff_ne.mpr c25
        have c25b1 : (x5_1 != 0) = true := bne_iff_ne.mpr c25
        obtain ⟨c26, H⟩ := itn_ H
        have LMc26 := Aside0.mk c26
        clear c26
        obtain ⟨y590, Ny590, H⟩ : ∃ y590 : List Int, Aside0 (y590 = (x3_2 ++ [wrap64 (Int.tdiv (wrap64 (-t589)) x5_1)])) ∧ (impl_determinant.l0 k2 l0 y590 x4_2 (wrap64 (x5_1 + 1))) = some r := ⟨_, ⟨rfl⟩, H⟩
        have H' := Aside0.mk H
        clear H
        go_wp2_with (first | ((with_reducible refine gate_callee (f := 220) rfl ?_); refine goesL_ (some 43) rfl rfl Try.func220 (by kernel_rfl) rfl #[.slice A0 l0.length c0, .slice Ao10 x4_2.length co10] rfl arg_ ?_; (with_reducible refine (impl_rowsTimes.calls k2 _ _ l0 _ _ x4_2 t586 _ ?side1 ?side2 ?side3 ?side4 A23.out).mono ?_); (case side1 => exact Kd.C_below (Kd.C_below HR0.out HB.out) bgo_); (case side2 => exact HC0.out); (case side3 => exact Kd.C_below (Kd.S_reads' HO_4.out).2.2 bgo_); (case side4 => exact (Kd.S_reads' HO_4.out).2.1); rintro e w27 ⟨v587, rfl, ho0, hb⟩; refine ⟨_, rfl, ?_⟩; have HO588 := Aside0.mk (Kd.S_lower (Kd.S_new' (Kd.S_new' ho0 (Kd.R_lt (Kd.R_below HO_3.out bgo_))) (Kd.S_lt (Kd.S_below HO_4.out bgo_))) (below_size hb_)); replace HO_3 := Aside0.mk (Kd.R_below (Kd.R_below HO_3.out bgo_) hb); replace HO_4 := Aside0.mk (Kd.S_elder' (Kd.S_below HO_4.out bgo_) (Kd.S_base ho0) hb); replace HB := Aside0.mk (below_step hb_ hb); (try clear hb); (try clear hb2); (try clear hk); (try clear hi); (try clear ho0); obtain ⟨Ao28, co28, eo28⟩ := Kd.S_slice HO588.out; subst eo28) | ((with_reducible refine gate_callee (f := 219) rfl ?_); refine goesL_ (some 44) rfl rfl Try.func219 (by kernel_rfl) rfl #[.slice Ao28 t586.length co28] rfl arg_ ?_; (with_reducible refine (impl_trace.calls k2 _ _ t586 t589 _ ?side1 ?side2 A24.out).mono ?_); (case side1 => exact Kd.C_below (Kd.S_reads' HO588.out).2.2 bgo_); (case side2 => exact (Kd.S_reads' HO588.out).2.1); rintro e w' ⟨rfl, ⟨nd, rfl⟩⟩; refine ⟨_, rfl, ?_⟩) | ((with_reducible refine gate_builtin (b := .append) (xs := #[.tmp 40, .tmp 48]) rfl ?_); at_builtin; refine Kd.R_append (Kd.int .i64) (w0 := w) w.heap.size rfl (.tmp 40) (.tmp 48) 29 2 (.int .i64 0) 8 rfl Try.underlying29 info2 rfl (by decide) (by omega) u3 x3_2 (wrap64 (Int.tdiv (wrap64 (-t589)) x5_1)) [.int .i64 (wrap64 (Int.tdiv (wrap64 (-t589)) x5_1))] (fun _ => True) (fun _ => False) rfl rfl ?aP (fun _ hk => hk.elim) ?aF ?aO ?aB ?aS ?aL ?_; (case aP => exact rfl); (case aB => exact hb_); (case aF => exact (fun _ _ => trivial)); (case aO => exact (Kd.R_below HO_3.out bgo_)); (case aS => exact (below_size hb_)); (case aL => have := LMc26.out; omega); intro v591 w29 ho hb hg hat; rw [← Ny590.out] at ho; replace HO_4 := Aside0.mk (Kd.S_after (ok := (fun k_ => some k_ ≠ (.slice Ao28 t586.length co28 : Value).ownBlock)) (by (with_reducible repeat (first | apply Kd.S_alloc | apply Kd.S_drewN | apply Kd.S_drew)); exact Kd.S_mono HO_4.out (fun _ hk => ⟨hk.2, hk.1⟩)) hg hat); replace HO588 := Aside0.mk (Kd.S_after (ok := (fun k_ => some k_ ≠ (.slice Ao10 x4_2.length co10 : Value).ownBlock)) (by (with_reducible repeat (first | apply Kd.S_alloc | apply Kd.S_drewN | apply Kd.S_drew)); exact Kd.S_mono HO588.out (fun _ hk => ⟨hk.2, hk.1.2⟩)) hg hat); replace HB := Aside0.mk (hb); have HO592 := Aside0.mk (ho); clear HO_3; clear ho hb hg hat))
        (try simp only [← hl4_2])
        first | go_roundg k2 | (refine Handed.intro k2 ?measure ?_; rotate_left; go_step; (try simp only [add_plain]); (repeat apply Exists.intro); refine ⟨?rel, rfl⟩)
        case measure => have := HK1.out; have := HK2.out; omega
        case rel => exact ⟨(y590), (x4_2), (wrap64 (x5_1 + 1)), es_, H', ⟨by have := HK1.out; have := HK2.out; omega⟩, ⟨by (try simp only [hl4_2]); (with_reducible repeat (first | apply Kd.R_alloc | apply Kd.R_drewN | apply Kd.R_drew)); exact HO592.out⟩, ⟨by (try simp only [hl4_2]); (with_reducible repeat (first | apply Kd.S_alloc | apply Kd.S_drewN | apply Kd.S_drew)); exact Kd.S_mono HO_4.out (fun _ hk => hk.2)⟩, ⟨hb_⟩⟩
   ·rw [if_neg c6] at H
    have c6b0 := decide_eq_false c6
    clear c6
    obtain ⟨t574, A30, H⟩ := bnd_ H
    obtain rfl := Option.some.inj H
    obtain ⟨Ao31, co31, eo31⟩ := Kd.R_slice HO_3.out
    subst eo31
    go_wp2_with (first | ((with_reducible refine gate_callee (f := 170) rfl ?_); refine goesL_ (some 51) rfl rfl Try.func170 (by kernel_rfl) rfl #[.slice Ao31 x3_1.length co31] rfl arg_ ?_; (with_reducible refine (impl_trimmed.calls k1 (fun k_ => some k_ = (.slice Ao31 x3_1.length co31 : Value).ownBlock) _ _ x3_1 t574 _ ?side1 A30.out).mono ?_); (case side1 => exact Kd.R_V (Kd.R_tight rfl (Kd.R_apart' (HO_3.out) (Kd.S_typed HO_4.out) (by decide)))); rintro e w32 ⟨v575, rfl, ho0, hb⟩; refine ⟨_, rfl, ?_⟩; replace HO_4 := Aside0.mk (Kd.S_elder' (Kd.S_below HO_4.out bgo_) (Kd.R_base ho0) hb); have HO576 := Aside0.mk (Kd.R_lower (Kd.R_new' (Kd.R_mono (ok' := fun k_ => True) ho0 (fun _ hk_ => trivial)) (Kd.R_lt (Kd.R_below HO_3.out bgo_))) (below_size hb_)); replace HO_3 := Aside0.mk (Kd.R_elder' (Kd.R_below HO_3.out bgo_) (Kd.R_base ho0) hb); replace HB := Aside0.mk (below_step hb_ hb); (try clear hb); (try clear hb2); (try clear hk); (try clear hi); (try clear ho0)))
    go_ret
    exact ⟨_, er_, by (with_reducible repeat (first | apply Kd.R_alloc | apply Kd.R_drewN | apply Kd.R_drew)); exact Kd.R_mono HO576.out (fun _ hk => trivial), hb_⟩

/-! ### slices_IndexFunc_int64_int64_231_at_DeterminantWhole_1: function 100003 -/
def slices_IndexFunc_int64_int64_231_at_DeterminantWhole_1.l0 : Nat → List Int → Int → Int → Option (Int)
 | 0, _, _, _ => none
 | k + 1, x0, x7, x8 => if x8 < x7 then (if 0 ≤ x8 then (if x8 < (x0.length : Int) then ((impl_DeterminantWhole_1.f (rd x0 x8)).bind fun t595 => (if t595 = true then (some x8) else (slices_IndexFunc_int64_int64_231_at_DeterminantWhole_1.l0 k x0 x7 (wrap64 (x8 + 1))))) else (none)) else (none)) else (some (-1))
def slices_IndexFunc_int64_int64_231_at_DeterminantWhole_1.f (k : Nat) (l0 : List Int)  : Option (Int) := slices_IndexFunc_int64_int64_231_at_DeterminantWhole_1.l0 k l0 (l0.length : Int) 0
set_option maxHeartbeats 8000000 in
set_option maxRecDepth 100000 in
theorem slices_IndexFunc_int64_int64_231_at_DeterminantWhole_1.calls (k : Nat) (A0 : Option Addr) (c0 : Nat) (l0 : List Int)  (r : Int) (w : World) (hr0 : Kd.C (Kd.int .i64) w A0 l0.length l0) (hc0 : l0.length ≤ c0) (h : slices_IndexFunc_int64_int64_231_at_DeterminantWhole_1.f k l0 = some r) :
  Calls Try.prog 231 #[.slice A0 l0.length c0, .func (.func 177) #[] #[]] w fun e w' => e = .returned (.int .i64 r) ∧ Below w.heap.size w w' := by
 have HR0 := Aside0.mk hr0
 have HC0 := Aside0.mk hc0
 clear hr0 hc0
 have HB := Aside0.mk (Below.refl w.heap.size w)
 have H : (slices_IndexFunc_int64_int64_231_at_DeterminantWhole_1.l0 k l0 (l0.length : Int) 0) = some r := h
 clear h
 have H' := Aside0.mk H
 clear H
 go_enter Try.func231, Try.ntmps231
 go_wp2
 go_loopg [8] k (fun kq v8 w' => ∃ (x8_1 : Int), v8 = .int .i64 x8_1 ∧ Aside0 (slices_IndexFunc_int64_int64_231_at_DeterminantWhole_1.l0 kq l0 (l0.length : Int) x8_1 = some r) ∧ Aside0 (kq ≤ k) ∧ Aside0 (Below w.heap.size w w'))
 case atStart => exact ⟨(0), es_, H', ⟨Nat.le_refl _⟩, ⟨hb_⟩⟩
 case round =>
  clear H'
  obtain ⟨x8_1, rfl, HA, HK1, HB⟩ := hrel
  cases gk with
  | zero => exact absurd HA.out (by simp [slices_IndexFunc_int64_int64_231_at_DeterminantWhole_1.l0])
  | succ k1 =>
   have H := HA.out
   clear HA
   simp only [slices_IndexFunc_int64_int64_231_at_DeterminantWhole_1.l0] at H
   by_cases c3 : x8_1 < (l0.length : Int)
   ·rw [if_pos c3] at H
    have c3b0 := decide_eq_true c3
    clear c3
    obtain ⟨c4, H⟩ := itn_ H
    have c4b0 := decide_eq_true c4
    clear c4
    obtain ⟨c5, H⟩ := itn_ H
    have c5b0 := decide_eq_true c5
    clear c5
    obtain ⟨t595, A6, H⟩ := bnd_ H
    by_cases c7 : t595 = true
    ·subst c7
     have H1 : (some x8_1) = some r := by rw [if_pos rfl] at H; exact H
     clear H
     have H := H1
     clear H1
     obtain rfl := Option.some.inj H
     have p594 : 0 ≤ (x8_1 : Int) := od_
     have q594 : x8_1 < (l0.length : Int) := od_
     obtain ⟨ad594, e594, hx594_0⟩ := Kd.at_int HR0.out x8_1 p594 q594
     cases e594
     (try replace hx594_0 := (HB.out.cell (World.block_lt_of_cell? w _ hx594_0)).trans hx594_0)
     replace p594 := eq_true p594
     replace q594 := eq_true q594
     go_wp2_with (first | ((with_reducible refine gate_fn (t := 11) rfl ?_); refine goesF_ (some 16) rfl rfl Try.func177 (by kernel_rfl) rfl (lb := #[]) #[.int .i64 (rd l0 x8_1)] rfl (by first | rfl | (simp; done)) (by (try simp only [List.map_toArray, List.map_cons, List.map_nil, List.append_toArray, List.cons_append, List.nil_append]); first | done | rfl | (simp only [List.length_drop, List.length_take]; rfl)) ?_; (with_reducible refine (impl_DeterminantWhole_1.calls (rd l0 x8_1) true _ A6.out).mono ?_); rintro e w' ⟨rfl, ⟨nd, rfl⟩⟩; refine ⟨_, rfl, ?_⟩))
     go_ret
     exact ⟨er_, hb_⟩
    ·replace c7 := Bool.eq_false_iff.mpr c7
     subst c7
     have H1 : (slices_IndexFunc_int64_int64_231_at_DeterminantWhole_1.l0 k1 l0 (l0.length : Int) (wrap64 (x8_1 + 1))) = some r := by rw [if_neg (show ¬ (false = true) by decide)] at H; exact H
     clear H
     have H := H1
     clear H1
     have H' := Aside0.mk H
     clear H
     have p594 : 0 ≤ (x8_1 : Int) := od_
     have q594 : x8_1 < (l0.length : Int) := od_
     obtain ⟨ad594, e594, hx594_0⟩ := Kd.at_int HR0.out x8_1 p594 q594
     cases e594
     (try replace hx594_0 := (HB.out.cell (World.block_lt_of_cell? w _ hx594_0)).trans hx594_0)
     replace p594 := eq_true p594
     replace q594 := eq_true q594
     go_wp2_with (first | ((with_reducible refine gate_fn (t := 11) rfl ?_); refine goesF_ (some 16) rfl rfl Try.func177 (by kernel_rfl) rfl (lb := #[]) #[.int .i64 (rd l0 x8_1)] rfl (by first | rfl | (simp; done)) (by (try simp only [List.map_toArray, List.map_cons, List.map_nil, List.append_toArray, List.cons_append, List.nil_append]); first | done | rfl | (simp only [List.length_drop, List.length_take]; rfl)) ?_; (with_reducible refine (impl_DeterminantWhole_1.calls (rd l0 x8_1) false _ A6.out).mono ?_); rintro e w' ⟨rfl, ⟨nd, rfl⟩⟩; refine ⟨_, rfl, ?_⟩))
     go_roundg k1
     case measure => have := HK1.out; omega
     case rel => exact ⟨(wrap64 (x8_1 + 1)), es_, H', ⟨by have := HK1.out; omega⟩, ⟨hb_⟩⟩
   ·rw [if_neg c3] at H
    have c3b0 := decide_eq_false c3
    clear c3
    obtain rfl := Option.some.inj H
    go_wp2
    go_ret
    exact ⟨er_, hb_⟩

/-! ### slices_ContainsFunc_int64_int64_176_at_DeterminantWhole_1: function 100002 -/
def slices_ContainsFunc_int64_int64_176_at_DeterminantWhole_1.f (k : Nat) (l0 : List Int)  : Option (Bool) := (slices_IndexFunc_int64_int64_231_at_DeterminantWhole_1.f k l0).bind fun t596 => (some (decide (t596 ≥ 0)))
set_option maxHeartbeats 8000000 in
set_option maxRecDepth 100000 in
theorem slices_ContainsFunc_int64_int64_176_at_DeterminantWhole_1.calls (k : Nat) (A0 : Option Addr) (c0 : Nat) (l0 : List Int)  (r : Bool) (w : World) (hr0 : Kd.C (Kd.int .i64) w A0 l0.length l0) (hc0 : l0.length ≤ c0) (h : slices_ContainsFunc_int64_int64_176_at_DeterminantWhole_1.f k l0 = some r) :
  Calls Try.prog 176 #[.slice A0 l0.length c0, .func (.func 177) #[] #[]] w fun e w' => e = .returned (.bool r) ∧ Below w.heap.size w w' := by
 have HR0 := Aside0.mk hr0
 have HC0 := Aside0.mk hc0
 clear hr0 hc0
 have HB := Aside0.mk (Below.refl w.heap.size w)
 have H : ((slices_IndexFunc_int64_int64_231_at_DeterminantWhole_1.f k l0).bind fun t596 => (some (decide (t596 ≥ 0)))) = some r := h
 clear h
 obtain ⟨t596, A3, H⟩ := bnd_ H
 obtain rfl := Option.some.inj H
 go_enter Try.func176, Try.ntmps176
 go_wp2_with (first | ((with_reducible refine gate_callee (f := 231) rfl ?_); refine goesL_ (some 7) rfl rfl Try.func231 (by kernel_rfl) rfl #[.slice A0 l0.length c0, .func (.func 177) #[] #[]] rfl arg_ ?_; (with_reducible refine (slices_IndexFunc_int64_int64_231_at_DeterminantWhole_1.calls k _ _ l0  t596 _ ?side1 ?side2 A3.out).mono ?_); (case side1 => exact Kd.C_below HR0.out bgo_); (case side2 => exact HC0.out); rintro e w4 ⟨rfl, hb⟩; refine ⟨_, rfl, ?_⟩; replace HB := Aside0.mk (below_step hb_ hb); (try clear hb); (try clear hb2); (try clear hk); (try clear hi)))
 go_ret
 exact ⟨er_, hb_⟩

/-! ### impl_DeterminantWhole: function 67 -/
def impl_DeterminantWhole.l0 : Nat → List (List Int) → List (List Int) → Int → Int → Option (List Int × Int)
 | 0, _, _, _, _ => none
 | k + 1, x0, x9, x10, x11 => if x11 < x10 then (if 0 ≤ x11 then (if x11 < (x9.length : Int) then (if ((rd_L2 x9 x11).length : Int) = (x0.length : Int) then ((slices_ContainsFunc_int64_int64_176_at_DeterminantWhole_1.f k (rd_L2 x9 x11)).bind fun t598 => (if t598 = true then (some (([] : List Int), 2)) else (impl_DeterminantWhole.l0 k x0 x9 x10 (wrap64 (x11 + 1))))) else (some (([] : List Int), 2))) else (none)) else (none)) else ((impl_determinant.f k x0).bind fun t599 => (some (t599, 0)))
def impl_DeterminantWhole.f (k : Nat) (l0 : List (List Int)) : Option (List Int × Int) := if (l0.length : Int) > 8 then (some (([] : List Int), 2)) else (impl_DeterminantWhole.l0 k l0 l0 (l0.length : Int) 0)
set_option maxHeartbeats 8000000 in
set_option maxRecDepth 100000 in
theorem impl_DeterminantWhole.calls (k : Nat) (A0 : Option Addr) (c0 : Nat) (l0 : List (List Int)) (r1 : List Int) (r2 : Int) (w : World) (hr0 : Kd.C (Kd.slice 2 (Kd.int .i64)) w A0 l0.length l0) (hc0 : l0.length ≤ c0) (h : impl_DeterminantWhole.f k l0 = some (r1, r2)) :
  Calls Try.prog 67 #[.slice A0 l0.length c0] w fun e w' => ∃ v0_ : Value, e = .returned (.tuple #[v0_, .int .i64 r2]) ∧ Kd.R (Kd.int .i64) 2 w' w.heap.size (fun _ => True) v0_ r1 ∧ Below w.heap.size w w' := by
 have HR0 := Aside0.mk hr0
 have HC0 := Aside0.mk hc0
 clear hr0 hc0
 have HB := Aside0.mk (Below.refl w.heap.size w)
 have H : (if (l0.length : Int) > 8 then (some (([] : List Int), 2)) else (impl_DeterminantWhole.l0 k l0 l0 (l0.length : Int) 0)) = some (r1, r2) := h
 clear h
 by_cases c2 : (l0.length : Int) > 8
 ·rw [if_pos c2] at H
  have c2b0 := decide_eq_true c2
  have c2b1 : decide (8 < l0.length) = true := decide_eq_true (by omega)
  clear c2
  simp only [Option.some.injEq, Prod.mk.injEq] at H
  obtain ⟨rfl, rfl⟩ := H
  go_enter Try.func67, Try.ntmps67
  go_wp2
  go_ret2
  exact ⟨_, er_, by first | exact Kd.R_nil _ _ _ _ _ | exact Kd.N_nil _ _ _ _ _ | exact Kd.V_nil _ _ _ _ _ | exact Kd.Q_nil _ _ _ _ _ | exact Kd.S_nil _ _ _ _ _, hb_⟩
 ·rw [if_neg c2] at H
  have c2b0 := decide_eq_false c2
  have c2b1 : decide (8 < l0.length) = false := decide_eq_false (by omega)
  clear c2
  have H' := Aside0.mk H
  clear H
  go_enter Try.func67, Try.ntmps67
  go_wp2
  go_loopg [11] k (fun kq v11 w' => ∃ (x11_1 : Int), v11 = .int .i64 x11_1 ∧ Aside0 (impl_DeterminantWhole.l0 kq l0 l0 (l0.length : Int) x11_1 = some (r1, r2)) ∧ Aside0 (kq ≤ k) ∧ Aside0 (Below w.heap.size w w'))
  case atStart => exact ⟨(0), es_, H', ⟨Nat.le_refl _⟩, ⟨hb_⟩⟩
  case round =>
   clear H'
   obtain ⟨x11_1, rfl, HA, HK1, HB⟩ := hrel
   cases gk with
   | zero => exact absurd HA.out (by simp [impl_DeterminantWhole.l0])
   | succ k1 =>
    have H := HA.out
    clear HA
    simp only [impl_DeterminantWhole.l0] at H
    by_cases c3 : x11_1 < (l0.length : Int)
    ·rw [if_pos c3] at H
     have c3b0 := decide_eq_true c3
     clear c3
     obtain ⟨c4, H⟩ := itn_ H
     have c4b0 := decide_eq_true c4
     clear c4
     obtain ⟨c5, H⟩ := itn_ H
     have c5b0 := decide_eq_true c5
     clear c5
     by_cases c6 : ((rd_L2 l0 x11_1).length : Int) = (l0.length : Int)
     ·rw [if_pos c6] at H
      have c6b0 : (((rd_L2 l0 x11_1).length : Int) == (l0.length : Int)) = true := beq_iff_eq.mpr c6
      have c6b1 : (((rd_L2 l0 x11_1).length : Int) != (l0.length : Int)) = false := bne_eq_false_iff_eq.mpr c6
      have c6b2 : ((rd_L2 l0 x11_1).length == l0.length) = true := by first | simpa using c6 | (simp at c6 ⊢; omega)
      clear c6
      obtain ⟨t598, A7, H⟩ := bnd_ H
      by_cases c8 : t598 = true
      ·subst c8
       have H1 : (some (([] : List Int), 2)) = some (r1, r2) := by rw [if_pos rfl] at H; exact H
       clear H
       have H := H1
       clear H1
       simp only [Option.some.injEq, Prod.mk.injEq] at H
       obtain ⟨rfl, rfl⟩ := H
       have p597 : 0 ≤ (x11_1 : Int) := od_
       have q597 : x11_1 < (l0.length : Int) := od_
       obtain ⟨ad597, A597_0, c597_0, e597, hx597_0, hl597_0, hi597_0⟩ := at_L2 HR0.out x11_1 p597 q597
       cases e597
       (try replace hx597_0 := (HB.out.cell (World.block_lt_of_cell? w _ hx597_0)).trans hx597_0)
       have HR597_0 := Aside0.mk hi597_0
       have HC597_0 := Aside0.mk hl597_0
       clear hi597_0 hl597_0
       replace p597 := eq_true p597
       replace q597 := eq_true q597
       go_wp2_with (first | (go_at_call 176; (with_reducible refine (slices_ContainsFunc_int64_int64_176_at_DeterminantWhole_1.calls k1 _ _ (rd_L2 l0 x11_1)  true _ ?side1 ?side2 A7.out).mono ?_); (case side1 => exact Kd.C_below (Kd.C_below HR597_0.out HB.out) bgo_); (case side2 => exact HC597_0.out); rintro e w9 ⟨rfl, hb⟩; replace HB := Aside0.mk (below_step hb_ hb); (try clear hb); (try clear hb2); (try clear hk); (try clear hi)))
       go_ret2
       exact ⟨_, er_, by first | exact Kd.R_nil _ _ _ _ _ | exact Kd.N_nil _ _ _ _ _ | exact Kd.V_nil _ _ _ _ _ | exact Kd.Q_nil _ _ _ _ _ | exact Kd.S_nil _ _ _ _ _, hb_⟩
      ·replace c8 := Bool.eq_false_iff.mpr c8
       subst c8
       have H1 : (impl_DeterminantWhole.l0 k1 l0 l0 (l0.length : Int) (wrap64 (x11_1 + 1))) = some (r1, r2) := by rw [if_neg (show ¬ (false = true) by decide)] at H; exact H
       clear H
       have H := H1
       clear H1
       have H' := Aside0.mk H
       clear H
       have p597 : 0 ≤ (x11_1 : Int) := od_
       have q597 : x11_1 < (l0.length : Int) := od_
       obtain ⟨ad597, A597_0, c597_0, e597, hx597_0, hl597_0, hi597_0⟩ := at_L2 HR0.out x11_1 p597 q597
       cases e597
       (try replace hx597_0 := (HB.out.cell (World.block_lt_of_cell? w _ hx597_0)).trans hx597_0)
       have HR597_0 := Aside0.mk hi597_0
       have HC597_0 := Aside0.mk hl597_0
       clear hi597_0 hl597_0
       replace p597 := eq_true p597
       replace q597 := eq_true q597
       go_wp2_with (first | (go_at_call 176; (with_reducible refine (slices_ContainsFunc_int64_int64_176_at_DeterminantWhole_1.calls k1 _ _ (rd_L2 l0 x11_1)  false _ ?side1 ?side2 A7.out).mono ?_); (case side1 => exact Kd.C_below (Kd.C_below HR597_0.out HB.out) bgo_); (case side2 => exact HC597_0.out); rintro e w10 ⟨rfl, hb⟩; replace HB := Aside0.mk (below_step hb_ hb); (try clear hb); (try clear hb2); (try clear hk); (try clear hi)))
       go_roundg k1
       case measure => have := HK1.out; omega
       case rel => exact ⟨(wrap64 (x11_1 + 1)), es_, H', ⟨by have := HK1.out; omega⟩, ⟨hb_⟩⟩
     ·rw [if_neg c6] at H
      have c6b0 : (((rd_L2 l0 x11_1).length : Int) == (l0.length : Int)) = false := beq_eq_false_iff_ne.mpr c6
      have c6b1 : (((rd_L2 l0 x11_1).length : Int) != (l0.length : Int)) = true := bne_iff_ne.mpr c6
      have c6b2 : ((rd_L2 l0 x11_1).length == l0.length) = false := by first | simpa using c6 | (simp at c6 ⊢; omega)
      simp only [Option.some.injEq, Prod.mk.injEq] at H
      obtain ⟨rfl, rfl⟩ := H
      have p597 : 0 ≤ (x11_1 : Int) := od_
      have q597 : x11_1 < (l0.length : Int) := od_
      obtain ⟨ad597, A597_0, c597_0, e597, hx597_0, hl597_0, hi597_0⟩ := at_L2 HR0.out x11_1 p597 q597
      cases e597
      (try replace hx597_0 := (HB.out.cell (World.block_lt_of_cell? w _ hx597_0)).trans hx597_0)
      have HR597_0 := Aside0.mk hi597_0
      have HC597_0 := Aside0.mk hl597_0
      clear hi597_0 hl597_0
      replace p597 := eq_true p597
      replace q597 := eq_true q597
      go_wp2
      go_ret2
      exact ⟨_, er_, by first | exact Kd.R_nil _ _ _ _ _ | exact Kd.N_nil _ _ _ _ _ | exact Kd.V_nil _ _ _ _ _ | exact Kd.Q_nil _ _ _ _ _ | exact Kd.S_nil _ _ _ _ _, hb_⟩
    ·rw [if_neg c3] at H
     have c3b0 := decide_eq_false c3
     clear c3
     obtain ⟨t599, A11, H⟩ := bnd_ H
     simp only [Option.some.injEq, Prod.mk.injEq] at H
     obtain ⟨rfl, rfl⟩ := H
     go_wp2_with (first | ((with_reducible refine gate_callee (f := 178) rfl ?_); refine goesL_ (some 26) rfl rfl Try.func178 (by kernel_rfl) rfl #[.slice A0 l0.length c0] rfl arg_ ?_; (with_reducible refine (impl_determinant.calls k1 _ _ l0 t599 _ ?side1 ?side2 A11.out).mono ?_); (case side1 => exact Kd.C_below (Kd.C_below HR0.out HB.out) bgo_); (case side2 => exact HC0.out); rintro e w12 ⟨v600, rfl, ho0, hb⟩; refine ⟨_, rfl, ?_⟩; have HO601 := Aside0.mk (Kd.R_lower ho0 (below_size hb_)); replace HB := Aside0.mk (below_step hb_ hb); (try clear hb); (try clear hb2); (try clear hk); (try clear hi); (try clear ho0)))
     go_ret2
     exact ⟨_, er_, (Kd.R_below HO601.out bgo_), hb_⟩

end Go.Proofs.Ytkadhadceongiaa.G
