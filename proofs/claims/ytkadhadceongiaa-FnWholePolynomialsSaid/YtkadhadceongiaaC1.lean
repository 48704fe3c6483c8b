/- The printed functions that this law reaches, and their contracts: part 1. -/
-- printed by this repo's wip/printer out of the kit's print with its own changes
import Derived.Test.YtkadhadceongiaaC0
namespace Go.Proofs.Ytkadhadceongiaa.G
open Go.RowKit Go.Proofs.YtkadhadceongiaaW.PrintWords Go.Proofs.YtkadhadceongiaaW.PrintLast Go.Proofs.YtkadhadceongiaaW.PrintMore
attribute [local go_sem] max2_int min2_int max_two min_two max_three min_three max_four min_four   -- for this text's walks alone
set_option linter.unusedVariables false
set_option linter.unusedSimpArgs false

/-! ### impl_ValueOfWhole: function 62 -/
def impl_ValueOfWhole.l0 : Nat → List Int → Int → Int → Int → Option (Int × Int)
 | 0, _, _, _, _ => none
 | k + 1, x0, x1, x6, x7 => if x7 ≥ 0 then ((impl_plusTimes.f k 0 x6 x1).bind fun bt287 => (if 0 ≤ x7 then (if x7 < (x0.length : Int) then (if bt287.2 = true then ((impl_isSmall.f (wrap64 (bt287.1 + (rd x0 x7)))).bind fun t290 => (if t290 = true then (impl_ValueOfWhole.l0 k x0 x1 (wrap64 (bt287.1 + (rd x0 x7))) (wrap64 (x7 - 1))) else (some (0, 3)))) else (some (0, 3))) else (none)) else (none))) else (some (x6, 0))
def impl_ValueOfWhole.f (k : Nat) (l0 : List Int) (a1 : Int) : Option (Int × Int) := (impl_areWhole.f k (([l0] : List (List Int)))).bind fun t285 => (if t285 = true then ((impl_within.f a1 (-1000) 1000).bind fun t286 => (if t286 = true then (impl_ValueOfWhole.l0 k l0 a1 0 (wrap64 ((l0.length : Int) - 1))) else (some (0, 2)))) else (some (0, 1)))
set_option maxHeartbeats 8000000 in
set_option maxRecDepth 100000 in
theorem impl_ValueOfWhole.calls (k : Nat) (P0_ : Nat → Prop) (A0 : Option Addr) (c0 : Nat) (l0 : List Int) (a1 : Int) (r1 : Int) (r2 : Int) (w : World) (hs0 : Kd.V (Kd.int .i64) 2 w w.heap.size (fun k_ => P0_ k_) (.slice A0 l0.length c0) l0) (h : impl_ValueOfWhole.f k l0 a1 = some (r1, r2)) :
  Calls Try.prog 62 #[.slice A0 l0.length c0, .int .i64 a1] w fun e w' => e = .returned (.tuple #[.int .i64 r1, .int .i64 r2]) ∧ Below w.heap.size w w' := by
 have HO0 := Aside0.mk (show Kd.V (Kd.int .i64) 2 w w.heap.size (fun k_ => (P0_ k_ ∨ w.heap.size ≤ k_)) (.slice A0 l0.length c0) l0 from Kd.V_mono hs0 (fun k_ hk => .inl hk))
 have HB := Aside0.mk (Below.refl w.heap.size w)
 have H : ((impl_areWhole.f k (([l0] : List (List Int)))).bind fun t285 => (if t285 = true then ((impl_within.f a1 (-1000) 1000).bind fun t286 => (if t286 = true then (impl_ValueOfWhole.l0 k l0 a1 0 (wrap64 ((l0.length : Int) - 1))) else (some (0, 2)))) else (some (0, 1)))) = some (r1, r2) := h
 clear h
 obtain ⟨y282, Ny282, H⟩ : ∃ y282 : List (List Int), Aside0 (y282 = (([l0] : List (List Int)))) ∧ ((impl_areWhole.f k y282).bind fun t285 => (if t285 = true then ((impl_within.f a1 (-1000) 1000).bind fun t286 => (if t286 = true then (impl_ValueOfWhole.l0 k l0 a1 0 (wrap64 ((l0.length : Int) - 1))) else (some (0, 2)))) else (some (0, 1)))) = some (r1, r2) := ⟨_, ⟨rfl⟩, H⟩
 obtain ⟨t285, A3, H⟩ := bnd_ H
 by_cases c4 : t285 = true
 ·subst c4
  have H1 : ((impl_within.f a1 (-1000) 1000).bind fun t286 => (if t286 = true then (impl_ValueOfWhole.l0 k l0 a1 0 (wrap64 ((l0.length : Int) - 1))) else (some (0, 2)))) = some (r1, r2) := by rw [if_pos rfl] at H; exact H
  clear H
  have H := H1
  clear H1
  obtain ⟨t286, A5, H⟩ := bnd_ H
  by_cases c6 : t286 = true
  ·subst c6
   have H1 : (impl_ValueOfWhole.l0 k l0 a1 0 (wrap64 ((l0.length : Int) - 1))) = some (r1, r2) := by rw [if_pos rfl] at H; exact H
   clear H
   have H := H1
   clear H1
   have H' := Aside0.mk H
   clear H
   go_enter Try.func62, Try.ntmps62
   go_wp2_with (first | ((with_reducible refine gate_dst (N := 12) rfl ?_); refine Kd.N_lit (Kd.slice 2 (Kd.int .i64)) _ 29 ?hg (N' := 12) ?hd (xs := ([l0] : List (List Int))) (inner := [.slice A0 l0.length c0]) (ok := (fun k_ => (P0_ k_ ∨ w.heap.size ≤ k_))) (okp := (fun k_ => (P0_ k_ ∨ w.heap.size ≤ k_))) ?hr ?hp (fun _ hk => hk) ((show ∀ k_, w.heap.size ≤ k_ → (fun k_ => (P0_ k_ ∨ w.heap.size ≤ k_)) k_ from fun k_ hk => (.inr (Nat.le_trans (below_size hb_) hk))) _ (Nat.le_refl _)) (Below.refl _ _) (Nat.le_refl _) (by simp) ?_; (case hd => rfl); (case hg => rfl); (case hr => first | (go_simp; done) | (go_simp; rfl)); (case hp => exact (Reps.one (show Kd.FK (Kd.slice 2 (Kd.int .i64)) _ _ l0 [.slice A0 l0.length c0] from (Kd.FK_slice_mk (Kd.V_reads' (Kd.V_mono (ok' := (fun k_ => (P0_ k_ ∨ w.heap.size ≤ k_))) (HO0.out) (fun k_ hk => hk))).2.1 (Kd.V_F (Kd.V_mono (ok' := (fun k_ => (P0_ k_ ∨ w.heap.size ≤ k_))) (HO0.out) (fun k_ hk => hk))))) (Reps.none _ _))); intro v283 w7 ho8 hb hg_ hnew_; clear hg_ hnew_; (first | rw [← Ny282.out] at ho8 | (simp only [Int.reduceToNat] at ho8; rw [← Ny282.out] at ho8)); replace HO0 := Aside0.mk (Kd.V_elder' (Kd.V_below HO0.out bgo_) (Kd.N_base ho8) hb); have HO284 := Aside0.mk (Kd.N_lower ho8 (below_size hb_)); replace HB := Aside0.mk (below_step hb_ hb); clear hb ho8; obtain ⟨Ao9, co9, eo9⟩ := Kd.N_slice HO284.out; subst eo9) | ((with_reducible refine gate_callee (f := 163) rfl ?_); refine goesL_ (some 13) rfl rfl Try.func163 (by kernel_rfl) rfl #[.slice Ao9 y282.length co9] rfl arg_ ?_; (with_reducible refine (impl_areWhole.calls k _ _ y282 true _ ?side1 ?side2 A3.out).mono ?_); (case side1 => exact Kd.C_below (Kd.N_reads' HO284.out).2.2 bgo_); (case side2 => exact (Kd.N_reads' HO284.out).2.1); rintro e w10 ⟨rfl, hb⟩; refine ⟨_, rfl, ?_⟩; replace HO0 := Aside0.mk (Kd.V_below (Kd.V_below HO0.out bgo_) hb); replace HO284 := Aside0.mk (Kd.N_below (Kd.N_below HO284.out bgo_) hb); replace HB := Aside0.mk (below_step hb_ hb); (try clear hb); (try clear hb2); (try clear hk); (try clear hi)) | ((with_reducible refine gate_callee (f := 106) rfl ?_); refine goesL_ (some 17) rfl rfl Try.func106 (by kernel_rfl) rfl #[.int .i64 a1, .int .i64 (-1000), .int .i64 1000] rfl arg_ ?_; (with_reducible refine (impl_within.calls a1 (-1000) 1000 true _ A5.out).mono ?_); rintro e w' ⟨rfl, ⟨nd, rfl⟩⟩; refine ⟨_, rfl, ?_⟩))
   go_loopg [6, 7] k (fun kq v6 v7 w' => ∃ (x6_1 : Int) (x7_1 : Int), v6 = .int .i64 x6_1 ∧ v7 = .int .i64 x7_1 ∧ Aside0 (impl_ValueOfWhole.l0 kq l0 a1 x6_1 x7_1 = some (r1, r2)) ∧ Aside0 (kq ≤ k) ∧ Aside0 (Kd.V (Kd.int .i64) 2 w' w.heap.size (fun k_ => (P0_ k_ ∨ w.heap.size ≤ k_)) (.slice A0 l0.length c0) l0) ∧ Aside0 (Below w.heap.size w w'))
   case atStart => exact ⟨(0), (wrap64 ((l0.length : Int) - 1)), es_, es_, H', ⟨Nat.le_refl _⟩, ⟨by (with_reducible repeat (first | apply Kd.V_alloc | apply Kd.V_drewN | apply Kd.V_drew)); exact Kd.V_mono HO0.out (fun _ hk => hk.1)⟩, ⟨hb_⟩⟩
   case round =>
    clear H'
    obtain ⟨x6_1, x7_1, rfl, rfl, HA, HK1, HO_0, HB⟩ := hrel
    cases gk with
    | zero => exact absurd HA.out (by simp [impl_ValueOfWhole.l0])
    | succ k1 =>
     have H := HA.out
     clear HA
     simp only [impl_ValueOfWhole.l0] at H
     by_cases c11 : x7_1 ≥ 0
     ·rw [if_pos c11] at H
      have c11b0 := decide_eq_true c11
      clear c11
      obtain ⟨⟨t287, t288⟩, A12, H⟩ := bnd_ H
      dsimp only at H
      obtain ⟨c13, H⟩ := itn_ H
      have c13b0 := decide_eq_true c13
      clear c13
      obtain ⟨c14, H⟩ := itn_ H
      have c14b0 := decide_eq_true c14
      clear c14
      by_cases c15 : t288 = true
      ·subst c15
       have H1 : ((impl_isSmall.f (wrap64 (t287 + (rd l0 x7_1)))).bind fun t290 => (if t290 = true then (impl_ValueOfWhole.l0 k1 l0 a1 (wrap64 (t287 + (rd l0 x7_1))) (wrap64 (x7_1 - 1))) else (some (0, 3)))) = some (r1, r2) := by rw [if_pos rfl] at H; exact H
       clear H
       have H := H1
       clear H1
       obtain ⟨t290, A16, H⟩ := bnd_ H
       by_cases c17 : t290 = true
       ·subst c17
        have H1 : (impl_ValueOfWhole.l0 k1 l0 a1 (wrap64 (t287 + (rd l0 x7_1))) (wrap64 (x7_1 - 1))) = some (r1, r2) := by rw [if_pos rfl] at H; exact H
        clear H
        have H := H1
        clear H1
        have H' := Aside0.mk H
        clear H
        go_wp2_with (first | ((with_reducible refine gate_callee (f := 168) rfl ?_); refine goesL_ (some 29) rfl rfl Try.func168 (by kernel_rfl) rfl #[.int .i64 0, .int .i64 x6_1, .int .i64 a1] rfl arg_ ?_; (with_reducible refine (impl_plusTimes.calls k1 0 x6_1 a1 t287 true _ A12.out).mono ?_); rintro e w18 ⟨rfl, hb⟩; refine ⟨_, rfl, ?_⟩; replace HO_0 := Aside0.mk (Kd.V_below (Kd.V_below HO_0.out bgo_) hb); replace HB := Aside0.mk (below_step hb_ hb); (try clear hb); (try clear hb2); (try clear hk); (try clear hi); have p289 : 0 ≤ (x7_1 : Int) := od_; have q289 : x7_1 < (l0.length : Int) := od_; obtain ⟨ad289, e289, hx289_0⟩ := Kd.at_int (Kd.V_reads' HO_0.out).2.2 x7_1 p289 q289; cases e289; replace p289 := eq_true p289; replace q289 := eq_true q289) | (go_at_call 167; (with_reducible refine (impl_isSmall.calls (wrap64 (t287 + (rd l0 x7_1))) true _ A16.out).mono ?_); rintro e w' ⟨rfl, ⟨nd, rfl⟩⟩))
        first | go_roundg k1 | (refine Handed.intro k1 ?measure ?_; rotate_left; go_step; (try simp only [add_plain]); (repeat apply Exists.intro); refine ⟨?rel, rfl⟩)
        case measure => have := HK1.out; omega
        case rel => exact ⟨(wrap64 (t287 + (rd l0 x7_1))), (wrap64 (x7_1 - 1)), es_, es_, H', ⟨by have := HK1.out; omega⟩, ⟨Kd.V_below HO_0.out bgo_⟩, ⟨hb_⟩⟩
       ·replace c17 := Bool.eq_false_iff.mpr c17
        subst c17
        have H1 : (some (0, 3)) = some (r1, r2) := by rw [if_neg (show ¬ (false = true) by decide)] at H; exact H
        clear H
        have H := H1
        clear H1
        simp only [Option.some.injEq, Prod.mk.injEq] at H
        obtain ⟨rfl, rfl⟩ := H
        go_wp2_with (first | ((with_reducible refine gate_callee (f := 168) rfl ?_); refine goesL_ (some 29) rfl rfl Try.func168 (by kernel_rfl) rfl #[.int .i64 0, .int .i64 x6_1, .int .i64 a1] rfl arg_ ?_; (with_reducible refine (impl_plusTimes.calls k1 0 x6_1 a1 t287 true _ A12.out).mono ?_); rintro e w19 ⟨rfl, hb⟩; refine ⟨_, rfl, ?_⟩; replace HO_0 := Aside0.mk (Kd.V_below (Kd.V_below HO_0.out bgo_) hb); replace HB := Aside0.mk (below_step hb_ hb); (try clear hb); (try clear hb2); (try clear hk); (try clear hi); have p289 : 0 ≤ (x7_1 : Int) := od_; have q289 : x7_1 < (l0.length : Int) := od_; obtain ⟨ad289, e289, hx289_0⟩ := Kd.at_int (Kd.V_reads' HO_0.out).2.2 x7_1 p289 q289; cases e289; replace p289 := eq_true p289; replace q289 := eq_true q289) | (go_at_call 167; (with_reducible refine (impl_isSmall.calls (wrap64 (t287 + (rd l0 x7_1))) false _ A16.out).mono ?_); rintro e w' ⟨rfl, ⟨nd, rfl⟩⟩))
        go_ret2
        exact ⟨er_, hb_⟩
      ·replace c15 := Bool.eq_false_iff.mpr c15
       subst c15
       have H1 : (some (0, 3)) = some (r1, r2) := by rw [if_neg (show ¬ (false = true) by decide)] at H; exact H
       clear H
       have H := H1
       clear H1
       simp only [Option.some.injEq, Prod.mk.injEq] at H
       obtain ⟨rfl, rfl⟩ := H
       go_wp2_with (first | ((with_reducible refine gate_callee (f := 168) rfl ?_); refine goesL_ (some 29) rfl rfl Try.func168 (by kernel_rfl) rfl #[.int .i64 0, .int .i64 x6_1, .int .i64 a1] rfl arg_ ?_; (with_reducible refine (impl_plusTimes.calls k1 0 x6_1 a1 t287 false _ A12.out).mono ?_); rintro e w20 ⟨rfl, hb⟩; refine ⟨_, rfl, ?_⟩; replace HO_0 := Aside0.mk (Kd.V_below (Kd.V_below HO_0.out bgo_) hb); replace HB := Aside0.mk (below_step hb_ hb); (try clear hb); (try clear hb2); (try clear hk); (try clear hi); have p289 : 0 ≤ (x7_1 : Int) := od_; have q289 : x7_1 < (l0.length : Int) := od_; obtain ⟨ad289, e289, hx289_0⟩ := Kd.at_int (Kd.V_reads' HO_0.out).2.2 x7_1 p289 q289; cases e289; replace p289 := eq_true p289; replace q289 := eq_true q289))
       go_ret2
       exact ⟨er_, hb_⟩
     ·rw [if_neg c11] at H
      have c11b0 := decide_eq_false c11
      clear c11
      simp only [Option.some.injEq, Prod.mk.injEq] at H
      obtain ⟨rfl, rfl⟩ := H
      go_wp2
      go_ret2
      exact ⟨er_, hb_⟩
  ·replace c6 := Bool.eq_false_iff.mpr c6
   subst c6
   have H1 : (some (0, 2)) = some (r1, r2) := by rw [if_neg (show ¬ (false = true) by decide)] at H; exact H
   clear H
   have H := H1
   clear H1
   simp only [Option.some.injEq, Prod.mk.injEq] at H
   obtain ⟨rfl, rfl⟩ := H
   go_enter Try.func62, Try.ntmps62
   go_wp2_with (first | ((with_reducible refine gate_dst (N := 12) rfl ?_); refine Kd.N_lit (Kd.slice 2 (Kd.int .i64)) _ 29 ?hg (N' := 12) ?hd (xs := ([l0] : List (List Int))) (inner := [.slice A0 l0.length c0]) (ok := (fun k_ => (P0_ k_ ∨ w.heap.size ≤ k_))) (okp := (fun k_ => (P0_ k_ ∨ w.heap.size ≤ k_))) ?hr ?hp (fun _ hk => hk) ((show ∀ k_, w.heap.size ≤ k_ → (fun k_ => (P0_ k_ ∨ w.heap.size ≤ k_)) k_ from fun k_ hk => (.inr (Nat.le_trans (below_size hb_) hk))) _ (Nat.le_refl _)) (Below.refl _ _) (Nat.le_refl _) (by simp) ?_; (case hd => rfl); (case hg => rfl); (case hr => first | (go_simp; done) | (go_simp; rfl)); (case hp => exact (Reps.one (show Kd.FK (Kd.slice 2 (Kd.int .i64)) _ _ l0 [.slice A0 l0.length c0] from (Kd.FK_slice_mk (Kd.V_reads' (Kd.V_mono (ok' := (fun k_ => (P0_ k_ ∨ w.heap.size ≤ k_))) (HO0.out) (fun k_ hk => hk))).2.1 (Kd.V_F (Kd.V_mono (ok' := (fun k_ => (P0_ k_ ∨ w.heap.size ≤ k_))) (HO0.out) (fun k_ hk => hk))))) (Reps.none _ _))); intro v283 w21 ho22 hb hg_ hnew_; clear hg_ hnew_; (first | rw [← Ny282.out] at ho22 | (simp only [Int.reduceToNat] at ho22; rw [← Ny282.out] at ho22)); replace HO0 := Aside0.mk (Kd.V_elder' (Kd.V_below HO0.out bgo_) (Kd.N_base ho22) hb); have HO284 := Aside0.mk (Kd.N_lower ho22 (below_size hb_)); replace HB := Aside0.mk (below_step hb_ hb); clear hb ho22; obtain ⟨Ao23, co23, eo23⟩ := Kd.N_slice HO284.out; subst eo23) | ((with_reducible refine gate_callee (f := 163) rfl ?_); refine goesL_ (some 13) rfl rfl Try.func163 (by kernel_rfl) rfl #[.slice Ao23 y282.length co23] rfl arg_ ?_; (with_reducible refine (impl_areWhole.calls k _ _ y282 true _ ?side1 ?side2 A3.out).mono ?_); (case side1 => exact Kd.C_below (Kd.N_reads' HO284.out).2.2 bgo_); (case side2 => exact (Kd.N_reads' HO284.out).2.1); rintro e w24 ⟨rfl, hb⟩; refine ⟨_, rfl, ?_⟩; replace HO0 := Aside0.mk (Kd.V_below (Kd.V_below HO0.out bgo_) hb); replace HO284 := Aside0.mk (Kd.N_below (Kd.N_below HO284.out bgo_) hb); replace HB := Aside0.mk (below_step hb_ hb); (try clear hb); (try clear hb2); (try clear hk); (try clear hi)) | ((with_reducible refine gate_callee (f := 106) rfl ?_); refine goesL_ (some 17) rfl rfl Try.func106 (by kernel_rfl) rfl #[.int .i64 a1, .int .i64 (-1000), .int .i64 1000] rfl arg_ ?_; (with_reducible refine (impl_within.calls a1 (-1000) 1000 false _ A5.out).mono ?_); rintro e w' ⟨rfl, ⟨nd, rfl⟩⟩; refine ⟨_, rfl, ?_⟩))
   go_ret2
   exact ⟨er_, hb_⟩
 ·replace c4 := Bool.eq_false_iff.mpr c4
  subst c4
  have H1 : (some (0, 1)) = some (r1, r2) := by rw [if_neg (show ¬ (false = true) by decide)] at H; exact H
  clear H
  have H := H1
  clear H1
  simp only [Option.some.injEq, Prod.mk.injEq] at H
  obtain ⟨rfl, rfl⟩ := H
  go_enter Try.func62, Try.ntmps62
  go_wp2_with (first | ((with_reducible refine gate_dst (N := 12) rfl ?_); refine Kd.N_lit (Kd.slice 2 (Kd.int .i64)) _ 29 ?hg (N' := 12) ?hd (xs := ([l0] : List (List Int))) (inner := [.slice A0 l0.length c0]) (ok := (fun k_ => (P0_ k_ ∨ w.heap.size ≤ k_))) (okp := (fun k_ => (P0_ k_ ∨ w.heap.size ≤ k_))) ?hr ?hp (fun _ hk => hk) ((show ∀ k_, w.heap.size ≤ k_ → (fun k_ => (P0_ k_ ∨ w.heap.size ≤ k_)) k_ from fun k_ hk => (.inr (Nat.le_trans (below_size hb_) hk))) _ (Nat.le_refl _)) (Below.refl _ _) (Nat.le_refl _) (by simp) ?_; (case hd => rfl); (case hg => rfl); (case hr => first | (go_simp; done) | (go_simp; rfl)); (case hp => exact (Reps.one (show Kd.FK (Kd.slice 2 (Kd.int .i64)) _ _ l0 [.slice A0 l0.length c0] from (Kd.FK_slice_mk (Kd.V_reads' (Kd.V_mono (ok' := (fun k_ => (P0_ k_ ∨ w.heap.size ≤ k_))) (HO0.out) (fun k_ hk => hk))).2.1 (Kd.V_F (Kd.V_mono (ok' := (fun k_ => (P0_ k_ ∨ w.heap.size ≤ k_))) (HO0.out) (fun k_ hk => hk))))) (Reps.none _ _))); intro v283 w25 ho26 hb hg_ hnew_; clear hg_ hnew_; (first | rw [← Ny282.out] at ho26 | (simp only [Int.reduceToNat] at ho26; rw [← Ny282.out] at ho26)); replace HO0 := Aside0.mk (Kd.V_elder' (Kd.V_below HO0.out bgo_) (Kd.N_base ho26) hb); have HO284 := Aside0.mk (Kd.N_lower ho26 (below_size hb_)); replace HB := Aside0.mk (below_step hb_ hb); clear hb ho26; obtain ⟨Ao27, co27, eo27⟩ := Kd.N_slice HO284.out; subst eo27) | ((with_reducible refine gate_callee (f := 163) rfl ?_); refine goesL_ (some 13) rfl rfl Try.func163 (by kernel_rfl) rfl #[.slice Ao27 y282.length co27] rfl arg_ ?_; (with_reducible refine (impl_areWhole.calls k _ _ y282 false _ ?side1 ?side2 A3.out).mono ?_); (case side1 => exact Kd.C_below (Kd.N_reads' HO284.out).2.2 bgo_); (case side2 => exact (Kd.N_reads' HO284.out).2.1); rintro e w28 ⟨rfl, hb⟩; refine ⟨_, rfl, ?_⟩; replace HO0 := Aside0.mk (Kd.V_below (Kd.V_below HO0.out bgo_) hb); replace HO284 := Aside0.mk (Kd.N_below (Kd.N_below HO284.out bgo_) hb); replace HB := Aside0.mk (below_step hb_ hb); (try clear hb); (try clear hb2); (try clear hk); (try clear hi)))
  go_ret2
  exact ⟨er_, hb_⟩

/-! ### slices_Equal_int64_int64: function 116 -/
def slices_Equal_int64_int64.l0 : Nat → List Int → List Int → Int → Int → Option (Bool)
 | 0, _, _, _, _ => none
 | k + 1, x0, x1, x12, x13 => if x13 < x12 then (if 0 ≤ x13 then (if x13 < (x0.length : Int) then (if x13 < (x1.length : Int) then (if (rd x0 x13) = (rd x1 x13) then (slices_Equal_int64_int64.l0 k x0 x1 x12 (wrap64 (x13 + 1))) else (some false)) else (none)) else (none)) else (none)) else (some true)
def slices_Equal_int64_int64.f (k : Nat) (l0 : List Int) (l1 : List Int) : Option (Bool) := if (l0.length : Int) = (l1.length : Int) then (slices_Equal_int64_int64.l0 k l0 l1 (l0.length : Int) 0) else (some false)
set_option maxHeartbeats 8000000 in
set_option maxRecDepth 100000 in
theorem slices_Equal_int64_int64.calls (k : Nat) (A0 : Option Addr) (c0 : Nat) (l0 : List Int) (A1 : Option Addr) (c1 : Nat) (l1 : List Int) (r : Bool) (w : World) (hr0 : Kd.C (Kd.int .i64) w A0 l0.length l0) (hc0 : l0.length ≤ c0) (hr1 : Kd.C (Kd.int .i64) w A1 l1.length l1) (hc1 : l1.length ≤ c1) (h : slices_Equal_int64_int64.f k l0 l1 = some r) :
  Calls Try.prog 116 #[.slice A0 l0.length c0, .slice A1 l1.length c1] w fun e w' => e = .returned (.bool r) ∧ Drawn0 w w' := by
 have HR0 := Aside0.mk hr0
 have HC0 := Aside0.mk hc0
 clear hr0 hc0
 have HR1 := Aside0.mk hr1
 have HC1 := Aside0.mk hc1
 clear hr1 hc1
 have H : (if (l0.length : Int) = (l1.length : Int) then (slices_Equal_int64_int64.l0 k l0 l1 (l0.length : Int) 0) else (some false)) = some r := h
 clear h
 by_cases c3 : (l0.length : Int) = (l1.length : Int)
 ·rw [if_pos c3] at H
  have c3b0 : ((l0.length : Int) == (l1.length : Int)) = true := beq_iff_eq.mpr c3
  have c3b1 : ((l0.length : Int) != (l1.length : Int)) = false := bne_eq_false_iff_eq.mpr c3
  have c3b2 : (l0.length == l1.length) = true := by first | simpa using c3 | (simp at c3 ⊢; omega)
  clear c3
  have H' := Aside0.mk H
  clear H
  go_enter Try.func116, Try.ntmps116
  go_wp2
  go_loopg [13] k (fun kq v13 w' => ∃ (x13_1 : Int), v13 = .int .i64 x13_1 ∧ Aside0 (slices_Equal_int64_int64.l0 kq l0 l1 (l0.length : Int) x13_1 = some r) ∧ Aside0 (kq ≤ k) ∧ Drawn0 w w')
  case atStart => exact ⟨(0), es_, H', ⟨Nat.le_refl _⟩, by repeat (first | exact Drawn0.refl _ | apply Drawn0.step)⟩
  case round =>
   clear H'
   obtain ⟨x13_1, rfl, HA, HK1, ⟨m1, rfl⟩⟩ := hrel
   cases gk with
   | zero => exact absurd HA.out (by simp [slices_Equal_int64_int64.l0])
   | succ k1 =>
    have H := HA.out
    clear HA
    simp only [slices_Equal_int64_int64.l0] at H
    by_cases c4 : x13_1 < (l0.length : Int)
    ·rw [if_pos c4] at H
     have c4b0 := decide_eq_true c4
     clear c4
     obtain ⟨c5, H⟩ := itn_ H
     have c5b0 := decide_eq_true c5
     clear c5
     obtain ⟨c6, H⟩ := itn_ H
     have c6b0 := decide_eq_true c6
     clear c6
     obtain ⟨c7, H⟩ := itn_ H
     have c7b0 := decide_eq_true c7
     clear c7
     by_cases c8 : (rd l0 x13_1) = (rd l1 x13_1)
     ·rw [if_pos c8] at H
      have c8b0 : ((rd l0 x13_1) == (rd l1 x13_1)) = true := beq_iff_eq.mpr c8
      have c8b1 : ((rd l0 x13_1) != (rd l1 x13_1)) = false := bne_eq_false_iff_eq.mpr c8
      clear c8
      have H' := Aside0.mk H
      clear H
      have p291 : 0 ≤ (x13_1 : Int) := od_
      have q291 : x13_1 < (l0.length : Int) := od_
      obtain ⟨ad291, e291, hx291_0⟩ := Kd.at_int HR0.out x13_1 p291 q291
      cases e291
      replace p291 := eq_true p291
      replace q291 := eq_true q291
      have p292 : 0 ≤ (x13_1 : Int) := od_
      have q292 : x13_1 < (l1.length : Int) := od_
      obtain ⟨ad292, e292, hx292_0⟩ := Kd.at_int HR1.out x13_1 p292 q292
      cases e292
      replace p292 := eq_true p292
      replace q292 := eq_true q292
      go_wp2
      repeat (go_quiet (fail); try go_wp2)
      go_roundg k1
      case measure => have := HK1.out; omega
      case rel => exact ⟨(wrap64 (x13_1 + 1)), es_, H', ⟨by have := HK1.out; omega⟩, by repeat (first | exact Drawn0.refl _ | apply Drawn0.step)⟩
     ·rw [if_neg c8] at H
      have c8b0 : ((rd l0 x13_1) == (rd l1 x13_1)) = false := beq_eq_false_iff_ne.mpr c8
      have c8b1 : ((rd l0 x13_1) != (rd l1 x13_1)) = true := bne_iff_ne.mpr c8
      obtain rfl := Option.some.inj H
      have p291 : 0 ≤ (x13_1 : Int) := od_
      have q291 : x13_1 < (l0.length : Int) := od_
      obtain ⟨ad291, e291, hx291_0⟩ := Kd.at_int HR0.out x13_1 p291 q291
      cases e291
      replace p291 := eq_true p291
      replace q291 := eq_true q291
      have p292 : 0 ≤ (x13_1 : Int) := od_
      have q292 : x13_1 < (l1.length : Int) := od_
      obtain ⟨ad292, e292, hx292_0⟩ := Kd.at_int HR1.out x13_1 p292 q292
      cases e292
      replace p292 := eq_true p292
      replace q292 := eq_true q292
      go_wp2
      repeat (go_quiet (fail); try go_wp2)
      go_ret
      exact ⟨es_, by repeat (first | exact Drawn0.refl _ | apply Drawn0.step)⟩
    ·rw [if_neg c4] at H
     have c4b0 := decide_eq_false c4
     clear c4
     obtain rfl := Option.some.inj H
     go_wp2
     go_ret
     exact ⟨es_, by repeat (first | exact Drawn0.refl _ | apply Drawn0.step)⟩
 ·rw [if_neg c3] at H
  have c3b0 : ((l0.length : Int) == (l1.length : Int)) = false := beq_eq_false_iff_ne.mpr c3
  have c3b1 : ((l0.length : Int) != (l1.length : Int)) = true := bne_iff_ne.mpr c3
  have c3b2 : (l0.length == l1.length) = false := by first | simpa using c3 | (simp at c3 ⊢; omega)
  obtain rfl := Option.some.inj H
  go_enter Try.func116, Try.ntmps116
  go_wp2
  go_ret
  exact ⟨es_, by repeat (first | exact Drawn0.refl _ | apply Drawn0.step)⟩

/-! ### impl_at: function 140 -/
def impl_at.f (l0 : List Int) (a1 : Int) : Option (Int) := if a1 < (l0.length : Int) then (if 0 ≤ a1 then (some (rd l0 a1)) else (none)) else (some 0)
set_option maxHeartbeats 8000000 in
set_option maxRecDepth 100000 in
theorem impl_at.calls (A0 : Option Addr) (c0 : Nat) (l0 : List Int) (a1 : Int) (r : Int) (w : World) (hr0 : Kd.C (Kd.int .i64) w A0 l0.length l0) (hc0 : l0.length ≤ c0) (h : impl_at.f l0 a1 = some r) :
  Calls Try.prog 140 #[.slice A0 l0.length c0, .int .i64 a1] w fun e w' => e = .returned (.int .i64 r) ∧ Drawn0 w w' := by
 have HR0 := Aside0.mk hr0
 have HC0 := Aside0.mk hc0
 clear hr0 hc0
 have H : (if a1 < (l0.length : Int) then (if 0 ≤ a1 then (some (rd l0 a1)) else (none)) else (some 0)) = some r := h
 clear h
 by_cases c3 : a1 < (l0.length : Int)
 ·rw [if_pos c3] at H
  have c3b0 := decide_eq_true c3
  clear c3
  obtain ⟨c4, H⟩ := itn_ H
  have c4b0 := decide_eq_true c4
  clear c4
  obtain rfl := Option.some.inj H
  have p293 : 0 ≤ (a1 : Int) := od_
  have q293 : a1 < (l0.length : Int) := od_
  obtain ⟨ad293, e293, hx293_0⟩ := Kd.at_int HR0.out a1 p293 q293
  cases e293
  replace p293 := eq_true p293
  replace q293 := eq_true q293
  go_enter Try.func140, Try.ntmps140
  go_wp2
  go_ret
  exact ⟨es_, by repeat (first | exact Drawn0.refl _ | apply Drawn0.step)⟩
 ·rw [if_neg c3] at H
  have c3b0 := decide_eq_false c3
  clear c3
  obtain rfl := Option.some.inj H
  go_enter Try.func140, Try.ntmps140
  go_wp2
  go_ret
  exact ⟨es_, by repeat (first | exact Drawn0.refl _ | apply Drawn0.step)⟩

/-! ### slices_Clone_int64_int64: function 213 -/
def slices_Clone_int64_int64.f (l0 : List Int) : Option (List Int) := if l0.length < 17592186044416 then some l0 else none
set_option maxHeartbeats 8000000 in
set_option maxRecDepth 100000 in
theorem slices_Clone_int64_int64.calls (A0 : Option Addr) (c0 : Nat) (l0 : List Int) (r : List Int) (w : World) (hr0 : Kd.C (Kd.int .i64) w A0 l0.length l0) (hc0 : l0.length ≤ c0) (h : slices_Clone_int64_int64.f l0 = some r) :
  Calls Try.prog 213 #[.slice A0 l0.length c0] w fun e w' => ∃ v0_ : Value, e = .returned (v0_) ∧ Kd.R (Kd.int .i64) 2 w' w.heap.size (fun _ => True) v0_ r ∧ Below w.heap.size w w' := by
 have HR0 := Aside0.mk hr0
 have HC0 := Aside0.mk hc0
 have hlen : l0.length < 17592186044416 := by
  by_cases hh : l0.length < 17592186044416
  ·exact hh
  ·rw [slices_Clone_int64_int64.f, if_neg hh] at h; cases h
 have hrr : r = l0 := by rw [slices_Clone_int64_int64.f, if_pos hlen] at h; exact (Option.some.inj h).symm
 clear h
 have HB := Aside0.mk (Below.refl w.heap.size w)
 cases A0 with
 | none =>
  have hnil : l0 = [] := by
   cases l0 with
   | nil => rfl
   | cons x xs =>
    obtain ⟨_, _, hh⟩ := hr0
    obtain ⟨_, e, _⟩ := hh (by simp)
    cases e
  subst hnil
  subst hrr
  have qe : ∀ W : World, (binOp .eql 29 (.slice none 0 c0) (.slice none 0 0)).run Try.prog W = .ok (.bool true) W := fun W => Lib.run_eql_slice_nil W 29 2 none 0 c0 0 0 Try.underlying29
  clear hr0 hc0
  go_enter Try.func213, Try.ntmps213
  go_wp2
  go_ret
  exact ⟨_, rfl, Kd.R_nil _ _ _ _ _, hb_⟩
 | some a =>
  have qe : ∀ W : World, (binOp .eql 29 (.slice (some a) l0.length c0) (.slice none 0 0)).run Try.prog W = .ok (.bool false) W := fun W => Lib.run_eql_slice_nil W 29 2 (some a) l0.length c0 0 0 Try.underlying29
  clear hr0 hc0
  have LM := Aside0.mk hlen
  clear hlen
  obtain ⟨y1, hy1⟩ : ∃ y_ : List Int, y_ = (([] : List Int)) := ⟨_, rfl⟩
  have hr2 : r = y1 ++ l0 := by rw [hy1, hrr]; rfl
  have hz1 : y1.length = 0 := by rw [hy1]; rfl
  have Ny1 := Aside0.mk hy1
  have Nr := Aside0.mk hr2
  have Nz := Aside0.mk hz1
  clear hy1 hr2 hz1 hrr
  go_enter Try.func213, Try.ntmps213
  go_wp2_with (first | ((with_reducible refine gate_dst (N := 5) rfl ?_); refine Kd.R_lit (Kd.int .i64) _ 2 ?hg (N := 5) ?hd (xs := ([] : List Int)) (inner := []) (ok := fun _ => True) (okp := fun _ => True) ?hr ?hp (fun _ hk => hk) trivial (Below.refl _ _) (Nat.le_refl _) (by simp) ?_; (case hd => rfl); (case hg => rfl); (case hr => first | (go_simp; done) | (go_simp; rfl)); (case hp => exact (Reps.none _ _)); intro v248 w3 ho4 hb hg_ hnew_; clear hg_ hnew_; rw [← Ny1.out] at ho4; have HO249 := Aside0.mk (Kd.R_lower ho4 (below_size hb_)); replace HB := Aside0.mk (below_step hb_ hb); clear hb ho4) | ((with_reducible refine gate_builtin (b := .append) (xs := #[.tmp 5, .tmp 6]) rfl ?_); at_builtin; refine Kd.R_append_rows (Kd.int .i64) (w0 := w) w.heap.size rfl (.tmp 5) (.tmp 6) 29 2 (.int .i64 0) 8 rfl Try.underlying29 info2 rfl (by decide) (by omega) v248 y1 l0 _ _ _ (fun _ => True) (fun _ => False) rfl rfl ?aO ?aR (fun _ _ h => h) (fun _ h => h.elim) ?aF ?aB ?aS ?aL ?_; (case aR => repeat (first | exact (Kd.C_below HR0.out HB.out) | (with_reducible refine Kd.C_alloc ?_ _) | (with_reducible refine Kd.C_drewN ?_ _) | (with_reducible refine Kd.C_drew ?_))); (case aB => exact hb_); (case aF => exact (fun _ _ => trivial)); (case aO => exact (Kd.R_below HO249.out bgo_)); (case aS => exact (below_size hb_)); (case aL => have := LM.out; have := Nz.out; omega); intro v251 w5 ho hb hg hat; rw [← Nr.out] at ho; replace HB := Aside0.mk (hb); have HO252 := Aside0.mk (ho); clear HO249; clear ho hb hg hat))
  go_ret
  exact ⟨_, rfl, (Kd.R_below HO252.out bgo_), hb_⟩

/-! ### impl_trimmed: function 170 -/
def impl_trimmed.l0 : Nat → List Int → Option (List Int)
 | 0, _ => none
 | k + 1, x0 => if (x0.length : Int) > 0 then (if 0 ≤ (wrap64 ((x0.length : Int) - 1)) then (if (wrap64 ((x0.length : Int) - 1)) < (x0.length : Int) then (if (rd x0 (wrap64 ((x0.length : Int) - 1))) = 0 then (if (wrap64 ((x0.length : Int) - 1)) ≤ (x0.length : Int) then (impl_trimmed.l0 k (x0.take ((wrap64 ((x0.length : Int) - 1)) : Int).toNat)) else (none)) else ((slices_Clone_int64_int64.f x0).bind fun t300 => (some t300))) else (none)) else (none)) else ((slices_Clone_int64_int64.f x0).bind fun t303 => (some t303))
def impl_trimmed.f (k : Nat) (l0 : List Int) : Option (List Int) := impl_trimmed.l0 k l0
set_option maxHeartbeats 8000000 in
set_option maxRecDepth 100000 in
theorem impl_trimmed.calls (k : Nat) (P0_ : Nat → Prop) (A0 : Option Addr) (c0 : Nat) (l0 : List Int) (r : List Int) (w : World) (hs0 : Kd.V (Kd.int .i64) 2 w w.heap.size (fun k_ => P0_ k_) (.slice A0 l0.length c0) l0) (h : impl_trimmed.f k l0 = some r) :
  Calls Try.prog 170 #[.slice A0 l0.length c0] w fun e w' => ∃ v0_ : Value, e = .returned (v0_) ∧ Kd.R (Kd.int .i64) 2 w' w.heap.size (fun k_ => (w.heap.size ≤ k_)) v0_ r ∧ Below w.heap.size w w' := by
 have HO0 := Aside0.mk (show Kd.V (Kd.int .i64) 2 w w.heap.size (fun k_ => (P0_ k_ ∨ w.heap.size ≤ k_)) (.slice A0 l0.length c0) l0 from Kd.V_mono hs0 (fun k_ hk => .inl hk))
 have HB := Aside0.mk (Below.refl w.heap.size w)
 have H : (impl_trimmed.l0 k l0) = some r := h
 clear h
 have H' := Aside0.mk H
 clear H
 go_enter Try.func170, Try.ntmps170
 go_wp2
 go_loopg [0] k (fun kq v0 w' => ∃ (x0_1 : List Int), Aside0 (impl_trimmed.l0 kq x0_1 = some r) ∧ Aside0 (kq ≤ k) ∧ Aside0 (Kd.V (Kd.int .i64) 2 w' w.heap.size (fun k_ => (P0_ k_ ∨ w.heap.size ≤ k_)) v0 x0_1) ∧ Aside0 (Below w.heap.size w w'))
 case atStart => exact ⟨(l0), H', ⟨Nat.le_refl _⟩, ⟨Kd.V_below HO0.out bgo_⟩, ⟨hb_⟩⟩
 case round =>
  clear H'
  obtain ⟨x0_1, HA, HK1, HO_0, HB⟩ := hrel
  cases gk with
  | zero => exact absurd HA.out (by simp [impl_trimmed.l0])
  | succ k1 =>
   have H := HA.out
   clear HA
   simp only [impl_trimmed.l0] at H
   by_cases c2 : (x0_1.length : Int) > 0
   ·rw [if_pos c2] at H
    have c2b0 := decide_eq_true c2
    have c2b1 : decide (0 < x0_1.length) = true := decide_eq_true (by omega)
    clear c2
    obtain ⟨ji3, hji3⟩ : ∃ j_ : Int, (wrap64 ((x0_1.length : Int) - 1)) = j_ := ⟨_, rfl⟩
    (try rw [hji3])
    replace H : (if 0 ≤ (ji3) then (if (ji3) < (x0_1.length : Int) then (if (rd x0_1 (ji3)) = 0 then (if (ji3) ≤ (x0_1.length : Int) then (impl_trimmed.l0 k1 (x0_1.take ((ji3) : Int).toNat)) else (none)) else ((slices_Clone_int64_int64.f x0_1).bind fun t300 => (some t300))) else (none)) else (none)) = some r := by first | (rw [hji3] at H; exact H) | (simp only [hji3] at H ⊢; exact H)
    have hji3w : (IntKind.i64.wrap ((x0_1.length : Int) - 1)) = ji3 := (i64_w _).trans hji3
    obtain ⟨c4, H⟩ := itn_ H
    have c4b0 := decide_eq_true c4
    clear c4
    obtain ⟨c5, H⟩ := itn_ H
    have c5b0 := decide_eq_true c5
    clear c5
    by_cases c6 : (rd x0_1 (ji3)) = 0
    ·rw [if_pos c6] at H
     have c6b0 : ((rd x0_1 (ji3)) == 0) = true := beq_iff_eq.mpr c6
     have c6b1 : ((rd x0_1 (ji3)) != 0) = false := bne_eq_false_iff_eq.mpr c6
     clear c6
     have c7b0 := eq_true (od_ : 0 ≤ (ji3))
     obtain ⟨c8, H⟩ := itn_ H
     have c8b0 := eq_true c8
     have c8b1 := decide_eq_true c8
     clear c8
     obtain ⟨y295, Ny295, H⟩ : ∃ y295 : List Int, Aside0 (y295 = (x0_1.take ((ji3) : Int).toNat)) ∧ (impl_trimmed.l0 k1 y295) = some r := ⟨_, ⟨rfl⟩, H⟩
     have H' := Aside0.mk H
     clear H
     obtain ⟨Ao9, co9, eo9⟩ := Kd.V_slice HO_0.out
     subst eo9
     have p294 : 0 ≤ ((ji3) : Int) := od_
     have q294 : (ji3) < (x0_1.length : Int) := od_
     obtain ⟨ad294, e294, hx294_0⟩ := Kd.at_int (Kd.V_reads' HO_0.out).2.2 (ji3) p294 q294
     cases e294
     replace p294 := eq_true p294
     replace q294 := eq_true q294
     have q10 : ((ji3) : Int) ≤ ((x0_1.length : Int) : Int) := od_
     obtain ⟨i010, hi010, _, hsz10, _⟩ := info_parts info2
     have hroom10 : x0_1.length ≤ co9 := (Kd.V_reads' HO_0.out).2.1
     have hC10 : Kd.F (Kd.int .i64) _ _ (some ad294) x0_1.length x0_1 := (Kd.V_at (base := w.heap.size) HO_0.out).2.2
     have hcut10 := cut_to (P := Try.prog) 29 2 .i64 Try.underlying29 hi010 (some ad294) x0_1.length co9 (ji3) (od_) q10 hroom10
     have hr10 := Kd.F_take (m := ((ji3) : Int).toNat) hC10 (by omega)
     have hy10 : y295.length = ((ji3) : Int).toNat := (by rw [Ny295.out, List.length_take]; omega)
     rw [← Ny295.out] at hr10
     rw [← hy10] at hcut10
     have HO299 := Aside0.mk (show Kd.V (Kd.int .i64) 2 _ w.heap.size _ (.slice (some ad294) y295.length co9) y295 from Kd.V_mk (by omega) hr10)
     have HC299 := Aside0.mk (show y295.length ≤ co9 from by omega)
     clear hr10 hC10 hroom10 hi010 hsz10
     have KY10 := Aside0.mk hy10
     clear hy10
     replace q10 := eq_true q10
     go_wp2
     first | (first | go_roundg k1 | (refine Handed.intro k1 ?measure ?_; rotate_left; go_step; (try simp only [add_plain]); (repeat apply Exists.intro); refine ⟨?rel, rfl⟩)) | ((try subst hji3); (first | go_roundg k1 | (refine Handed.intro k1 ?measure ?_; rotate_left; go_step; (try simp only [add_plain]); (repeat apply Exists.intro); refine ⟨?rel, rfl⟩)))
     case measure => have := HK1.out; omega
     case rel => exact ⟨(y295), H', ⟨by have := HK1.out; omega⟩, ⟨Kd.V_below HO299.out bgo_⟩, ⟨hb_⟩⟩
    ·rw [if_neg c6] at H
     have c6b0 : ((rd x0_1 (ji3)) == 0) = false := beq_eq_false_iff_ne.mpr c6
     have c6b1 : ((rd x0_1 (ji3)) != 0) = true := bne_iff_ne.mpr c6
     obtain ⟨t300, A11, H⟩ := bnd_ H
     obtain rfl := Option.some.inj H
     obtain ⟨Ao12, co12, eo12⟩ := Kd.V_slice HO_0.out
     subst eo12
     have p294 : 0 ≤ ((ji3) : Int) := od_
     have q294 : (ji3) < (x0_1.length : Int) := od_
     obtain ⟨ad294, e294, hx294_0⟩ := Kd.at_int (Kd.V_reads' HO_0.out).2.2 (ji3) p294 q294
     cases e294
     replace p294 := eq_true p294
     replace q294 := eq_true q294
     go_wp2_with (first | ((with_reducible refine gate_callee (f := 213) rfl ?_); refine goesL_ (some 21) rfl rfl Try.func213 (by kernel_rfl) rfl #[.slice (some ad294) x0_1.length co12] rfl arg_ ?_; (with_reducible refine (slices_Clone_int64_int64.calls _ _ x0_1 t300 _ ?side1 ?side2 A11.out).mono ?_); (case side1 => exact Kd.C_below (Kd.V_reads' HO_0.out).2.2 bgo_); (case side2 => exact (Kd.V_reads' HO_0.out).2.1); rintro e w13 ⟨v301, rfl, ho0, hb⟩; refine ⟨_, rfl, ?_⟩; replace HO_0 := Aside0.mk (Kd.V_elder' (Kd.V_below HO_0.out bgo_) (Kd.R_base ho0) hb); have HO302 := Aside0.mk (Kd.R_lower (Kd.R_newM (M := fun k_ => (w.heap.size ≤ k_)) ho0 (below_size hb_) (fun k_ h_ => h_)) (below_size hb_)); replace HB := Aside0.mk (below_step hb_ hb); (try clear hb); (try clear hb2); (try clear hk); (try clear hi); (try clear ho0)))
     go_ret
     exact ⟨_, by first | rfl | (simp [errW_none, errW_some] <;> rfl) | (simp only [← hji3]; first | rfl | (simp [errW_none, errW_some] <;> rfl)) | (simp [*, errW_none, errW_some] <;> rfl), by (with_reducible repeat (first | apply Kd.R_alloc | apply Kd.R_drewN | apply Kd.R_drew)); exact Kd.R_mono HO302.out (fun _ hk => hk.1), hb_⟩
   ·rw [if_neg c2] at H
    have c2b0 := decide_eq_false c2
    have c2b1 : decide (0 < x0_1.length) = false := decide_eq_false (by omega)
    clear c2
    obtain ⟨t303, A14, H⟩ := bnd_ H
    obtain rfl := Option.some.inj H
    obtain ⟨Ao15, co15, eo15⟩ := Kd.V_slice HO_0.out
    subst eo15
    go_wp2_with (first | ((with_reducible refine gate_callee (f := 213) rfl ?_); refine goesL_ (some 21) rfl rfl Try.func213 (by kernel_rfl) rfl #[.slice Ao15 x0_1.length co15] rfl arg_ ?_; (with_reducible refine (slices_Clone_int64_int64.calls _ _ x0_1 t303 _ ?side1 ?side2 A14.out).mono ?_); (case side1 => exact Kd.C_below (Kd.V_reads' HO_0.out).2.2 bgo_); (case side2 => exact (Kd.V_reads' HO_0.out).2.1); rintro e w16 ⟨v304, rfl, ho0, hb⟩; refine ⟨_, rfl, ?_⟩; replace HO_0 := Aside0.mk (Kd.V_elder' (Kd.V_below HO_0.out bgo_) (Kd.R_base ho0) hb); have HO305 := Aside0.mk (Kd.R_lower (Kd.R_newM (M := fun k_ => (w.heap.size ≤ k_)) ho0 (below_size hb_) (fun k_ h_ => h_)) (below_size hb_)); replace HB := Aside0.mk (below_step hb_ hb); (try clear hb); (try clear hb2); (try clear hk); (try clear hi); (try clear ho0)))
    go_ret
    exact ⟨_, er_, by (with_reducible repeat (first | apply Kd.R_alloc | apply Kd.R_drewN | apply Kd.R_drew)); exact Kd.R_mono HO305.out (fun _ hk => hk.1), hb_⟩

/-! ### impl_DivideWhole: function 63 -/
mutual
def impl_DivideWhole.j0 : Nat → List Int → List Int → Option (List Int × Int)
 | 0, _, _ => none
 | k + 1, x0, x1 => impl_DivideWhole.l0 k x0 x1 (([] : List Int)) (mx 0 (wrap64 ((wrap64 ((x0.length : Int) - (x1.length : Int))) + 1))) 0
def impl_DivideWhole.l0 : Nat → List Int → List Int → List Int → Int → Int → Option (List Int × Int)
 | 0, _, _, _, _, _ => none
 | k + 1, x0, x1, x6, x42, x43 => if x43 < x42 then ((impl_at.f x0 x43).bind fun t315 => (impl_DivideWhole.l1 k x0 x1 x6 x43 t315 1 x42 x43)) else (if (x0.length : Int) = 0 then (impl_DivideWhole.j3 k x0 x1 ([] : List Int)) else (impl_DivideWhole.j3 k x0 x1 x6))
def impl_DivideWhole.l1 : Nat → List Int → List Int → List Int → Int → Int → Int → Int → Int → Option (List Int × Int)
 | 0, _, _, _, _, _, _, _, _ => none
 | k + 1, x0, x1, x6, x7, x8, x10, x42, x43 => if x10 ≤ (mn x7 (wrap64 ((x1.length : Int) - 1))) then (if 0 ≤ x10 then (if x10 < (x1.length : Int) then (if 0 ≤ (wrap64 (x7 - x10)) then (if (wrap64 (x7 - x10)) < (x6.length : Int) then ((impl_plusTimes.f k x8 (wrap64 (-(rd x1 x10))) (rd x6 (wrap64 (x7 - x10)))).bind fun bt318 => (if bt318.2 = true then (impl_DivideWhole.l1 k x0 x1 x6 x7 bt318.1 (wrap64 (x10 + 1)) x42 x43) else (some (([] : List Int), 3)))) else (none)) else (none)) else (none)) else (none)) else (if 0 < (x1.length : Int) then (if x6.length < 17592186044416 then (impl_DivideWhole.l0 k x0 x1 (x6 ++ [wrap64 (x8 * (rd x1 0))]) x42 (wrap64 (x43 + 1))) else (none)) else (none))
def impl_DivideWhole.j3 : Nat → List Int → List Int → List Int → Option (List Int × Int)
 | 0, _, _, _ => none
 | k + 1, x0, x1, x6 => (impl_trimmed.f k x6).bind fun t324 => ((impl_multiply.f k t324 x1).bind fun bt327 => (if bt327.2 = true then ((slices_Equal_int64_int64.f k bt327.1 x0).bind fun t331 => (if t331 = true then (some (t324, 0)) else (some (([] : List Int), 4)))) else (some (([] : List Int), 3))))
end
def impl_DivideWhole.f (k : Nat) (l0 : List Int) (l1 : List Int) : Option (List Int × Int) := (impl_areWhole.f k (([l0, l1] : List (List Int)))).bind fun t309 => (if t309 = true then ((impl_at.f l1 0).bind fun t310 => ((impl_absolute.f t310).bind fun t311 => (if t311 = 1 then (if (l0.length : Int) > 0 then (if (l0.length : Int) < (l1.length : Int) then (some (([] : List Int), 4)) else (impl_DivideWhole.j0 k l0 l1)) else (impl_DivideWhole.j0 k l0 l1)) else (some (([] : List Int), 5))))) else (some (([] : List Int), 1)))
def impl_DivideWhole.T15 : Bool × List (List Nat × List Nat) := (true, [([], []), ([], []), ([], []), ([1, 2], [1, 2]), ([3], [3]), ([4], [4]), ([], []), ([], []), ([], []), ([7, 8], [7, 8]), ([6, 9], [6, 9]), ([10], [10]), ([0, 5, 11], [0, 5, 11]), ([12], [12]), ([13], [13]), ([13], [13]), ([14, 12, 0, 1, 2, 3, 4, 5, 6, 7, 8, 9, 10, 11, 12, 13, 14], [0, 14]), ([15, 16, 0, 1, 2, 3, 4, 5, 6, 7, 8, 9, 10, 11, 12, 13, 14, 15, 16], [15])])
def impl_DivideWhole.B15 : List Nat := [0, 0, 0, 6, 14, 30, 0, 0, 0, 384, 960, 1984, 4095, 8191, 16383, 16383, 32767, 131071]
theorem impl_DivideWhole.tab15 : rtab .any (opsOf Try.f63 15) = impl_DivideWhole.T15 := by kernel_rfl
theorem impl_DivideWhole.bits15 : waitsOk impl_DivideWhole.T15.2 impl_DivideWhole.B15 = true := by kernel_rfl
set_option maxHeartbeats 8000000 in
set_option maxRecDepth 100000 in
theorem impl_DivideWhole.calls (k : Nat) (P0_ : Nat → Prop) (A0 : Option Addr) (c0 : Nat) (l0 : List Int) (P1_ : Nat → Prop) (A1 : Option Addr) (c1 : Nat) (l1 : List Int) (r1 : List Int) (r2 : Int) (w : World) (hs0 : Kd.V (Kd.int .i64) 2 w w.heap.size (fun k_ => P0_ k_) (.slice A0 l0.length c0) l0) (hs1 : Kd.V (Kd.int .i64) 2 w w.heap.size (fun k_ => P1_ k_) (.slice A1 l1.length c1) l1) (h : impl_DivideWhole.f k l0 l1 = some (r1, r2)) :
  Calls Try.prog 63 #[.slice A0 l0.length c0, .slice A1 l1.length c1] w fun e w' => ∃ v0_ : Value, e = .returned (.tuple #[v0_, .int .i64 r2]) ∧ Kd.R (Kd.int .i64) 2 w' w.heap.size (fun k_ => (w.heap.size ≤ k_)) v0_ r1 ∧ Below w.heap.size w w' := by
 have HO0 := Aside0.mk (show Kd.V (Kd.int .i64) 2 w w.heap.size (fun k_ => ((P0_ k_ ∨ P1_ k_) ∨ w.heap.size ≤ k_)) (.slice A0 l0.length c0) l0 from Kd.V_mono hs0 (fun k_ hk => .inl (.inl hk)))
 have HO1 := Aside0.mk (show Kd.V (Kd.int .i64) 2 w w.heap.size (fun k_ => ((P0_ k_ ∨ P1_ k_) ∨ w.heap.size ≤ k_)) (.slice A1 l1.length c1) l1 from Kd.V_mono hs1 (fun k_ hk => .inl (.inr hk)))
 have HB := Aside0.mk (Below.refl w.heap.size w)
 have H : ((impl_areWhole.f k (([l0, l1] : List (List Int)))).bind fun t309 => (if t309 = true then ((impl_at.f l1 0).bind fun t310 => ((impl_absolute.f t310).bind fun t311 => (if t311 = 1 then (if (l0.length : Int) > 0 then (if (l0.length : Int) < (l1.length : Int) then (some (([] : List Int), 4)) else (impl_DivideWhole.j0 k l0 l1)) else (impl_DivideWhole.j0 k l0 l1)) else (some (([] : List Int), 5))))) else (some (([] : List Int), 1)))) = some (r1, r2) := h
 clear h
 have HC3 := Aside0.mk H
 clear H
 go_enter Try.func63, Try.ntmps63
 go_upto_block 0 with (fail)
 go_cut [] (fun wc => ∃ (kq : Nat), Aside0 (impl_DivideWhole.j0 kq l0 l1 = some (r1, r2)) ∧ Aside0 (kq ≤ k) ∧ Aside0 (Kd.V (Kd.int .i64) 2 wc w.heap.size (fun k_ => ((P0_ k_ ∨ P1_ k_) ∨ w.heap.size ≤ k_)) (.slice A0 l0.length c0) l0) ∧ Aside0 (Kd.V (Kd.int .i64) 2 wc w.heap.size (fun k_ => ((P0_ k_ ∨ P1_ k_) ∨ w.heap.size ≤ k_)) (.slice A1 l1.length c1) l1) ∧ Aside0 (Below w.heap.size w wc))
 case first =>
  have H := HC3.out
  clear HC3
  obtain ⟨y306, Ny306, H⟩ : ∃ y306 : List (List Int), Aside0 (y306 = (([l0, l1] : List (List Int)))) ∧ ((impl_areWhole.f k y306).bind fun t309 => (if t309 = true then ((impl_at.f l1 0).bind fun t310 => ((impl_absolute.f t310).bind fun t311 => (if t311 = 1 then (if (l0.length : Int) > 0 then (if (l0.length : Int) < (l1.length : Int) then (some (([] : List Int), 4)) else (impl_DivideWhole.j0 k l0 l1)) else (impl_DivideWhole.j0 k l0 l1)) else (some (([] : List Int), 5))))) else (some (([] : List Int), 1)))) = some (r1, r2) := ⟨_, ⟨rfl⟩, H⟩
  obtain ⟨t309, A4, H⟩ := bnd_ H
  by_cases c5 : t309 = true
  ·subst c5
   have H1 : ((impl_at.f l1 0).bind fun t310 => ((impl_absolute.f t310).bind fun t311 => (if t311 = 1 then (if (l0.length : Int) > 0 then (if (l0.length : Int) < (l1.length : Int) then (some (([] : List Int), 4)) else (impl_DivideWhole.j0 k l0 l1)) else (impl_DivideWhole.j0 k l0 l1)) else (some (([] : List Int), 5))))) = some (r1, r2) := by rw [if_pos rfl] at H; exact H
   clear H
   have H := H1
   clear H1
   obtain ⟨t310, A6, H⟩ := bnd_ H
   obtain ⟨t311, A7, H⟩ := bnd_ H
   by_cases c8 : t311 = 1
   ·rw [if_pos c8] at H
    have c8b0 : (t311 == 1) = true := beq_iff_eq.mpr c8
    have c8b1 : (t311 != 1) = false := bne_eq_false_iff_eq.mpr c8
    clear c8
    (first | rw [c8b0] | (simp only [i64_w, i32_w]; rw [c8b0]) | skip)
    by_cases c9 : (l0.length : Int) > 0
    ·rw [if_pos c9] at H
     have c9b0 := decide_eq_true c9
     have c9b1 : decide (0 < l0.length) = true := decide_eq_true (by omega)
     clear c9
     by_cases c10 : (l0.length : Int) < (l1.length : Int)
     ·rw [if_pos c10] at H
      have c10b0 := decide_eq_true c10
      have c10b1 : decide (l0.length < l1.length) = true := decide_eq_true (Int.ofNat_lt.mp c10)
      clear c10
      simp only [Option.some.injEq, Prod.mk.injEq] at H
      obtain ⟨rfl, rfl⟩ := H
      go_wp2_with (first | ((with_reducible refine gate_dst (N := 16) rfl ?_); (try (refine gate_guard (by rfl) ?_; dsimp only)); refine Kd.N_lit (Kd.slice 2 (Kd.int .i64)) _ 29 ?hg (N' := 16) ?hd (xs := ([l0, l1] : List (List Int))) (inner := [.slice A0 l0.length c0, .slice A1 l1.length c1]) (ok := (fun k_ => ((P0_ k_ ∨ P1_ k_) ∨ w.heap.size ≤ k_))) (okp := (fun k_ => ((P0_ k_ ∨ P1_ k_) ∨ w.heap.size ≤ k_))) ?hr ?hp (fun _ hk => hk) ((show ∀ k_, w.heap.size ≤ k_ → (fun k_ => ((P0_ k_ ∨ P1_ k_) ∨ w.heap.size ≤ k_)) k_ from fun k_ hk => (.inr (Nat.le_trans (below_size hb_) hk))) _ (Nat.le_refl _)) (Below.refl _ _) (Nat.le_refl _) (by simp) ?_; (case hd => rfl); (case hg => rfl); (case hr => first | (go_simp; done) | (go_simp; rfl)); (case hp => exact (Reps.one (show Kd.FK (Kd.slice 2 (Kd.int .i64)) _ _ l0 [.slice A0 l0.length c0] from (Kd.FK_slice_mk (Kd.V_reads' (Kd.V_mono (ok' := (fun k_ => ((P0_ k_ ∨ P1_ k_) ∨ w.heap.size ≤ k_))) (HO0.out) (fun k_ hk => hk))).2.1 (Kd.V_F (Kd.V_mono (ok' := (fun k_ => ((P0_ k_ ∨ P1_ k_) ∨ w.heap.size ≤ k_))) (HO0.out) (fun k_ hk => hk))))) (Reps.one (show Kd.FK (Kd.slice 2 (Kd.int .i64)) _ _ l1 [.slice A1 l1.length c1] from (Kd.FK_slice_mk (Kd.V_reads' (Kd.V_mono (ok' := (fun k_ => ((P0_ k_ ∨ P1_ k_) ∨ w.heap.size ≤ k_))) (HO1.out) (fun k_ hk => hk))).2.1 (Kd.V_F (Kd.V_mono (ok' := (fun k_ => ((P0_ k_ ∨ P1_ k_) ∨ w.heap.size ≤ k_))) (HO1.out) (fun k_ hk => hk))))) (Reps.none _ _)))); intro v307 w11 ho12 hb hg_ hnew_; clear hg_ hnew_; (first | rw [← Ny306.out] at ho12 | (simp only [Int.reduceToNat] at ho12; rw [← Ny306.out] at ho12)); replace HO0 := Aside0.mk (Kd.V_elder' (Kd.V_below HO0.out bgo_) (Kd.N_base ho12) hb); replace HO1 := Aside0.mk (Kd.V_elder' (Kd.V_below HO1.out bgo_) (Kd.N_base ho12) hb); have HO308 := Aside0.mk (Kd.N_lower ho12 (below_size hb_)); replace HB := Aside0.mk (below_step hb_ hb); clear hb ho12; obtain ⟨Ao13, co13, eo13⟩ := Kd.N_slice HO308.out; subst eo13) | ((with_reducible refine gate_callee (f := 163) rfl ?_); refine goesL_ (some 17) rfl rfl Try.func163 (by kernel_rfl) rfl #[.slice Ao13 y306.length co13] rfl arg_ ?_; (with_reducible refine (impl_areWhole.calls k _ _ y306 true _ ?side1 ?side2 A4.out).mono ?_); (case side1 => exact Kd.C_below (Kd.N_reads' HO308.out).2.2 bgo_); (case side2 => exact (Kd.N_reads' HO308.out).2.1); rintro e w14 ⟨rfl, hb⟩; refine ⟨_, rfl, ?_⟩; replace HO0 := Aside0.mk (Kd.V_below (Kd.V_below HO0.out bgo_) hb); replace HO1 := Aside0.mk (Kd.V_below (Kd.V_below HO1.out bgo_) hb); replace HO308 := Aside0.mk (Kd.N_below (Kd.N_below HO308.out bgo_) hb); replace HB := Aside0.mk (below_step hb_ hb); (try clear hb); (try clear hb2); (try clear hk); (try clear hi)) | ((with_reducible refine gate_callee (f := 140) rfl ?_); refine goesL_ (some 21) rfl rfl Try.func140 (by kernel_rfl) rfl #[.slice A1 l1.length c1, .int .i64 0] rfl arg_ ?_; (with_reducible refine (impl_at.calls _ _ l1 0 t310 _ ?side1 ?side2 A6.out).mono ?_); (case side1 => exact Kd.C_below (Kd.V_reads' HO1.out).2.2 bgo_); (case side2 => exact (Kd.V_reads' HO1.out).2.1); rintro e w' ⟨rfl, ⟨nd, rfl⟩⟩; refine ⟨_, rfl, ?_⟩) | ((with_reducible refine gate_callee (f := 169) rfl ?_); refine goesL_ (some 22) rfl rfl Try.func169 (by kernel_rfl) rfl #[.int .i64 t310] rfl arg_ ?_; (with_reducible refine (impl_absolute.calls t310 t311 _ A7.out).mono ?_); rintro e w15 ⟨rfl, hb⟩; refine ⟨_, rfl, ?_⟩; replace HO0 := Aside0.mk (Kd.V_below (Kd.V_below HO0.out bgo_) hb); replace HO1 := Aside0.mk (Kd.V_below (Kd.V_below HO1.out bgo_) hb); replace HO308 := Aside0.mk (Kd.N_below (Kd.N_below HO308.out bgo_) hb); replace HB := Aside0.mk (below_step hb_ hb); (try clear hb); (try clear hb2); (try clear hk); (try clear hi)))
      go_ret2
      exact ⟨_, er_, by first | exact Kd.R_nil _ _ _ _ _ | exact Kd.N_nil _ _ _ _ _ | exact Kd.V_nil _ _ _ _ _ | exact Kd.Q_nil _ _ _ _ _ | exact Kd.S_nil _ _ _ _ _, hb_⟩
     ·rw [if_neg c10] at H
      have c10b0 := decide_eq_false c10
      have c10b1 : decide (l0.length < l1.length) = false := decide_eq_false (fun h => c10 (Int.ofNat_lt.mpr h))
      clear c10
      have H' := Aside0.mk H
      clear H
      go_wp2_with (first | ((with_reducible refine gate_dst (N := 16) rfl ?_); (try (refine gate_guard (by rfl) ?_; dsimp only)); refine Kd.N_lit (Kd.slice 2 (Kd.int .i64)) _ 29 ?hg (N' := 16) ?hd (xs := ([l0, l1] : List (List Int))) (inner := [.slice A0 l0.length c0, .slice A1 l1.length c1]) (ok := (fun k_ => ((P0_ k_ ∨ P1_ k_) ∨ w.heap.size ≤ k_))) (okp := (fun k_ => ((P0_ k_ ∨ P1_ k_) ∨ w.heap.size ≤ k_))) ?hr ?hp (fun _ hk => hk) ((show ∀ k_, w.heap.size ≤ k_ → (fun k_ => ((P0_ k_ ∨ P1_ k_) ∨ w.heap.size ≤ k_)) k_ from fun k_ hk => (.inr (Nat.le_trans (below_size hb_) hk))) _ (Nat.le_refl _)) (Below.refl _ _) (Nat.le_refl _) (by simp) ?_; (case hd => rfl); (case hg => rfl); (case hr => first | (go_simp; done) | (go_simp; rfl)); (case hp => exact (Reps.one (show Kd.FK (Kd.slice 2 (Kd.int .i64)) _ _ l0 [.slice A0 l0.length c0] from (Kd.FK_slice_mk (Kd.V_reads' (Kd.V_mono (ok' := (fun k_ => ((P0_ k_ ∨ P1_ k_) ∨ w.heap.size ≤ k_))) (HO0.out) (fun k_ hk => hk))).2.1 (Kd.V_F (Kd.V_mono (ok' := (fun k_ => ((P0_ k_ ∨ P1_ k_) ∨ w.heap.size ≤ k_))) (HO0.out) (fun k_ hk => hk))))) (Reps.one (show Kd.FK (Kd.slice 2 (Kd.int .i64)) _ _ l1 [.slice A1 l1.length c1] from (Kd.FK_slice_mk (Kd.V_reads' (Kd.V_mono (ok' := (fun k_ => ((P0_ k_ ∨ P1_ k_) ∨ w.heap.size ≤ k_))) (HO1.out) (fun k_ hk => hk))).2.1 (Kd.V_F (Kd.V_mono (ok' := (fun k_ => ((P0_ k_ ∨ P1_ k_) ∨ w.heap.size ≤ k_))) (HO1.out) (fun k_ hk => hk))))) (Reps.none _ _)))); intro v307 w16 ho17 hb hg_ hnew_; clear hg_ hnew_; (first | rw [← Ny306.out] at ho17 | (simp only [Int.reduceToNat] at ho17; rw [← Ny306.out] at ho17)); replace HO0 := Aside0.mk (Kd.V_elder' (Kd.V_below HO0.out bgo_) (Kd.N_base ho17) hb); replace HO1 := Aside0.mk (Kd.V_elder' (Kd.V_below HO1.out bgo_) (Kd.N_base ho17) hb); have HO308 := Aside0.mk (Kd.N_lower ho17 (below_size hb_)); replace HB := Aside0.mk (below_step hb_ hb); clear hb ho17; obtain ⟨Ao18, co18, eo18⟩ := Kd.N_slice HO308.out; subst eo18) | ((with_reducible refine gate_callee (f := 163) rfl ?_); refine goesL_ (some 17) rfl rfl Try.func163 (by kernel_rfl) rfl #[.slice Ao18 y306.length co18] rfl arg_ ?_; (with_reducible refine (impl_areWhole.calls k _ _ y306 true _ ?side1 ?side2 A4.out).mono ?_); (case side1 => exact Kd.C_below (Kd.N_reads' HO308.out).2.2 bgo_); (case side2 => exact (Kd.N_reads' HO308.out).2.1); rintro e w19 ⟨rfl, hb⟩; refine ⟨_, rfl, ?_⟩; replace HO0 := Aside0.mk (Kd.V_below (Kd.V_below HO0.out bgo_) hb); replace HO1 := Aside0.mk (Kd.V_below (Kd.V_below HO1.out bgo_) hb); replace HO308 := Aside0.mk (Kd.N_below (Kd.N_below HO308.out bgo_) hb); replace HB := Aside0.mk (below_step hb_ hb); (try clear hb); (try clear hb2); (try clear hk); (try clear hi)) | ((with_reducible refine gate_callee (f := 140) rfl ?_); refine goesL_ (some 21) rfl rfl Try.func140 (by kernel_rfl) rfl #[.slice A1 l1.length c1, .int .i64 0] rfl arg_ ?_; (with_reducible refine (impl_at.calls _ _ l1 0 t310 _ ?side1 ?side2 A6.out).mono ?_); (case side1 => exact Kd.C_below (Kd.V_reads' HO1.out).2.2 bgo_); (case side2 => exact (Kd.V_reads' HO1.out).2.1); rintro e w' ⟨rfl, ⟨nd, rfl⟩⟩; refine ⟨_, rfl, ?_⟩) | ((with_reducible refine gate_callee (f := 169) rfl ?_); refine goesL_ (some 22) rfl rfl Try.func169 (by kernel_rfl) rfl #[.int .i64 t310] rfl arg_ ?_; (with_reducible refine (impl_absolute.calls t310 t311 _ A7.out).mono ?_); rintro e w20 ⟨rfl, hb⟩; refine ⟨_, rfl, ?_⟩; replace HO0 := Aside0.mk (Kd.V_below (Kd.V_below HO0.out bgo_) hb); replace HO1 := Aside0.mk (Kd.V_below (Kd.V_below HO1.out bgo_) hb); replace HO308 := Aside0.mk (Kd.N_below (Kd.N_below HO308.out bgo_) hb); replace HB := Aside0.mk (below_step hb_ hb); (try clear hb); (try clear hb2); (try clear hk); (try clear hi)))
      go_meet
      case rel => exact ⟨_, H', ⟨by first | omega | exact Nat.le_refl _⟩, ⟨by (with_reducible repeat (first | apply Kd.V_alloc | apply Kd.V_drewN | apply Kd.V_drew)); exact Kd.V_mono HO0.out (fun _ hk => hk.1)⟩, ⟨by (with_reducible repeat (first | apply Kd.V_alloc | apply Kd.V_drewN | apply Kd.V_drew)); exact Kd.V_mono HO1.out (fun _ hk => hk.1)⟩, ⟨hb_⟩⟩
    ·rw [if_neg c9] at H
     have c9b0 := decide_eq_false c9
     have c9b1 : decide (0 < l0.length) = false := decide_eq_false (by omega)
     clear c9
     have H' := Aside0.mk H
     clear H
     go_wp2_with (first | ((with_reducible refine gate_dst (N := 16) rfl ?_); (try (refine gate_guard (by rfl) ?_; dsimp only)); refine Kd.N_lit (Kd.slice 2 (Kd.int .i64)) _ 29 ?hg (N' := 16) ?hd (xs := ([l0, l1] : List (List Int))) (inner := [.slice A0 l0.length c0, .slice A1 l1.length c1]) (ok := (fun k_ => ((P0_ k_ ∨ P1_ k_) ∨ w.heap.size ≤ k_))) (okp := (fun k_ => ((P0_ k_ ∨ P1_ k_) ∨ w.heap.size ≤ k_))) ?hr ?hp (fun _ hk => hk) ((show ∀ k_, w.heap.size ≤ k_ → (fun k_ => ((P0_ k_ ∨ P1_ k_) ∨ w.heap.size ≤ k_)) k_ from fun k_ hk => (.inr (Nat.le_trans (below_size hb_) hk))) _ (Nat.le_refl _)) (Below.refl _ _) (Nat.le_refl _) (by simp) ?_; (case hd => rfl); (case hg => rfl); (case hr => first | (go_simp; done) | (go_simp; rfl)); (case hp => exact (Reps.one (show Kd.FK (Kd.slice 2 (Kd.int .i64)) _ _ l0 [.slice A0 l0.length c0] from (Kd.FK_slice_mk (Kd.V_reads' (Kd.V_mono (ok' := (fun k_ => ((P0_ k_ ∨ P1_ k_) ∨ w.heap.size ≤ k_))) (HO0.out) (fun k_ hk => hk))).2.1 (Kd.V_F (Kd.V_mono (ok' := (fun k_ => ((P0_ k_ ∨ P1_ k_) ∨ w.heap.size ≤ k_))) (HO0.out) (fun k_ hk => hk))))) (Reps.one (show Kd.FK (Kd.slice 2 (Kd.int .i64)) _ _ l1 [.slice A1 l1.length c1] from (Kd.FK_slice_mk (Kd.V_reads' (Kd.V_mono (ok' := (fun k_ => ((P0_ k_ ∨ P1_ k_) ∨ w.heap.size ≤ k_))) (HO1.out) (fun k_ hk => hk))).2.1 (Kd.V_F (Kd.V_mono (ok' := (fun k_ => ((P0_ k_ ∨ P1_ k_) ∨ w.heap.size ≤ k_))) (HO1.out) (fun k_ hk => hk))))) (Reps.none _ _)))); intro v307 w21 ho22 hb hg_ hnew_; clear hg_ hnew_; (first | rw [← Ny306.out] at ho22 | (simp only [Int.reduceToNat] at ho22; rw [← Ny306.out] at ho22)); replace HO0 := Aside0.mk (Kd.V_elder' (Kd.V_below HO0.out bgo_) (Kd.N_base ho22) hb); replace HO1 := Aside0.mk (Kd.V_elder' (Kd.V_below HO1.out bgo_) (Kd.N_base ho22) hb); have HO308 := Aside0.mk (Kd.N_lower ho22 (below_size hb_)); replace HB := Aside0.mk (below_step hb_ hb); clear hb ho22; obtain ⟨Ao23, co23, eo23⟩ := Kd.N_slice HO308.out; subst eo23) | ((with_reducible refine gate_callee (f := 163) rfl ?_); refine goesL_ (some 17) rfl rfl Try.func163 (by kernel_rfl) rfl #[.slice Ao23 y306.length co23] rfl arg_ ?_; (with_reducible refine (impl_areWhole.calls k _ _ y306 true _ ?side1 ?side2 A4.out).mono ?_); (case side1 => exact Kd.C_below (Kd.N_reads' HO308.out).2.2 bgo_); (case side2 => exact (Kd.N_reads' HO308.out).2.1); rintro e w24 ⟨rfl, hb⟩; refine ⟨_, rfl, ?_⟩; replace HO0 := Aside0.mk (Kd.V_below (Kd.V_below HO0.out bgo_) hb); replace HO1 := Aside0.mk (Kd.V_below (Kd.V_below HO1.out bgo_) hb); replace HO308 := Aside0.mk (Kd.N_below (Kd.N_below HO308.out bgo_) hb); replace HB := Aside0.mk (below_step hb_ hb); (try clear hb); (try clear hb2); (try clear hk); (try clear hi)) | ((with_reducible refine gate_callee (f := 140) rfl ?_); refine goesL_ (some 21) rfl rfl Try.func140 (by kernel_rfl) rfl #[.slice A1 l1.length c1, .int .i64 0] rfl arg_ ?_; (with_reducible refine (impl_at.calls _ _ l1 0 t310 _ ?side1 ?side2 A6.out).mono ?_); (case side1 => exact Kd.C_below (Kd.V_reads' HO1.out).2.2 bgo_); (case side2 => exact (Kd.V_reads' HO1.out).2.1); rintro e w' ⟨rfl, ⟨nd, rfl⟩⟩; refine ⟨_, rfl, ?_⟩) | ((with_reducible refine gate_callee (f := 169) rfl ?_); refine goesL_ (some 22) rfl rfl Try.func169 (by kernel_rfl) rfl #[.int .i64 t310] rfl arg_ ?_; (with_reducible refine (impl_absolute.calls t310 t311 _ A7.out).mono ?_); rintro e w25 ⟨rfl, hb⟩; refine ⟨_, rfl, ?_⟩; replace HO0 := Aside0.mk (Kd.V_below (Kd.V_below HO0.out bgo_) hb); replace HO1 := Aside0.mk (Kd.V_below (Kd.V_below HO1.out bgo_) hb); replace HO308 := Aside0.mk (Kd.N_below (Kd.N_below HO308.out bgo_) hb); replace HB := Aside0.mk (below_step hb_ hb); (try clear hb); (try clear hb2); (try clear hk); (try clear hi)))
     go_meet
     case rel => exact ⟨_, H', ⟨by first | omega | exact Nat.le_refl _⟩, ⟨by (with_reducible repeat (first | apply Kd.V_alloc | apply Kd.V_drewN | apply Kd.V_drew)); exact Kd.V_mono HO0.out (fun _ hk => hk.1)⟩, ⟨by (with_reducible repeat (first | apply Kd.V_alloc | apply Kd.V_drewN | apply Kd.V_drew)); exact Kd.V_mono HO1.out (fun _ hk => hk.1)⟩, ⟨hb_⟩⟩
   ·rw [if_neg c8] at H
    have c8b0 : (t311 == 1) = false := beq_eq_false_iff_ne.mpr c8
    have c8b1 : (t311 != 1) = true := bne_iff_ne.mpr c8
    (first | rw [c8b0] | (simp only [i64_w, i32_w]; rw [c8b0]) | skip)
    simp only [Option.some.injEq, Prod.mk.injEq] at H
    obtain ⟨rfl, rfl⟩ := H
    go_wp2_with (first | ((with_reducible refine gate_dst (N := 16) rfl ?_); (try (refine gate_guard (by rfl) ?_; dsimp only)); refine Kd.N_lit (Kd.slice 2 (Kd.int .i64)) _ 29 ?hg (N' := 16) ?hd (xs := ([l0, l1] : List (List Int))) (inner := [.slice A0 l0.length c0, .slice A1 l1.length c1]) (ok := (fun k_ => ((P0_ k_ ∨ P1_ k_) ∨ w.heap.size ≤ k_))) (okp := (fun k_ => ((P0_ k_ ∨ P1_ k_) ∨ w.heap.size ≤ k_))) ?hr ?hp (fun _ hk => hk) ((show ∀ k_, w.heap.size ≤ k_ → (fun k_ => ((P0_ k_ ∨ P1_ k_) ∨ w.heap.size ≤ k_)) k_ from fun k_ hk => (.inr (Nat.le_trans (below_size hb_) hk))) _ (Nat.le_refl _)) (Below.refl _ _) (Nat.le_refl _) (by simp) ?_; (case hd => rfl); (case hg => rfl); (case hr => first | (go_simp; done) | (go_simp; rfl)); (case hp => exact (Reps.one (show Kd.FK (Kd.slice 2 (Kd.int .i64)) _ _ l0 [.slice A0 l0.length c0] from (Kd.FK_slice_mk (Kd.V_reads' (Kd.V_mono (ok' := (fun k_ => ((P0_ k_ ∨ P1_ k_) ∨ w.heap.size ≤ k_))) (HO0.out) (fun k_ hk => hk))).2.1 (Kd.V_F (Kd.V_mono (ok' := (fun k_ => ((P0_ k_ ∨ P1_ k_) ∨ w.heap.size ≤ k_))) (HO0.out) (fun k_ hk => hk))))) (Reps.one (show Kd.FK (Kd.slice 2 (Kd.int .i64)) _ _ l1 [.slice A1 l1.length c1] from (Kd.FK_slice_mk (Kd.V_reads' (Kd.V_mono (ok' := (fun k_ => ((P0_ k_ ∨ P1_ k_) ∨ w.heap.size ≤ k_))) (HO1.out) (fun k_ hk => hk))).2.1 (Kd.V_F (Kd.V_mono (ok' := (fun k_ => ((P0_ k_ ∨ P1_ k_) ∨ w.heap.size ≤ k_))) (HO1.out) (fun k_ hk => hk))))) (Reps.none _ _)))); intro v307 w26 ho27 hb hg_ hnew_; clear hg_ hnew_; (first | rw [← Ny306.out] at ho27 | (simp only [Int.reduceToNat] at ho27; rw [← Ny306.out] at ho27)); replace HO0 := Aside0.mk (Kd.V_elder' (Kd.V_below HO0.out bgo_) (Kd.N_base ho27) hb); replace HO1 := Aside0.mk (Kd.V_elder' (Kd.V_below HO1.out bgo_) (Kd.N_base ho27) hb); have HO308 := Aside0.mk (Kd.N_lower ho27 (below_size hb_)); replace HB := Aside0.mk (below_step hb_ hb); clear hb ho27; obtain ⟨Ao28, co28, eo28⟩ := Kd.N_slice HO308.out; subst eo28) | ((with_reducible refine gate_callee (f := 163) rfl ?_); refine goesL_ (some 17) rfl rfl Try.func163 (by kernel_rfl) rfl #[.slice Ao28 y306.length co28] rfl arg_ ?_; (with_reducible refine (impl_areWhole.calls k _ _ y306 true _ ?side1 ?side2 A4.out).mono ?_); (case side1 => exact Kd.C_below (Kd.N_reads' HO308.out).2.2 bgo_); (case side2 => exact (Kd.N_reads' HO308.out).2.1); rintro e w29 ⟨rfl, hb⟩; refine ⟨_, rfl, ?_⟩; replace HO0 := Aside0.mk (Kd.V_below (Kd.V_below HO0.out bgo_) hb); replace HO1 := Aside0.mk (Kd.V_below (Kd.V_below HO1.out bgo_) hb); replace HO308 := Aside0.mk (Kd.N_below (Kd.N_below HO308.out bgo_) hb); replace HB := Aside0.mk (below_step hb_ hb); (try clear hb); (try clear hb2); (try clear hk); (try clear hi)) | ((with_reducible refine gate_callee (f := 140) rfl ?_); refine goesL_ (some 21) rfl rfl Try.func140 (by kernel_rfl) rfl #[.slice A1 l1.length c1, .int .i64 0] rfl arg_ ?_; (with_reducible refine (impl_at.calls _ _ l1 0 t310 _ ?side1 ?side2 A6.out).mono ?_); (case side1 => exact Kd.C_below (Kd.V_reads' HO1.out).2.2 bgo_); (case side2 => exact (Kd.V_reads' HO1.out).2.1); rintro e w' ⟨rfl, ⟨nd, rfl⟩⟩; refine ⟨_, rfl, ?_⟩) | ((with_reducible refine gate_callee (f := 169) rfl ?_); refine goesL_ (some 22) rfl rfl Try.func169 (by kernel_rfl) rfl #[.int .i64 t310] rfl arg_ ?_; (with_reducible refine (impl_absolute.calls t310 t311 _ A7.out).mono ?_); rintro e w30 ⟨rfl, hb⟩; refine ⟨_, rfl, ?_⟩; replace HO0 := Aside0.mk (Kd.V_below (Kd.V_below HO0.out bgo_) hb); replace HO1 := Aside0.mk (Kd.V_below (Kd.V_below HO1.out bgo_) hb); replace HO308 := Aside0.mk (Kd.N_below (Kd.N_below HO308.out bgo_) hb); replace HB := Aside0.mk (below_step hb_ hb); (try clear hb); (try clear hb2); (try clear hk); (try clear hi)))
    go_ret2
    exact ⟨_, er_, by first | exact Kd.R_nil _ _ _ _ _ | exact Kd.N_nil _ _ _ _ _ | exact Kd.V_nil _ _ _ _ _ | exact Kd.Q_nil _ _ _ _ _ | exact Kd.S_nil _ _ _ _ _, hb_⟩
  ·replace c5 := Bool.eq_false_iff.mpr c5
   subst c5
   have H1 : (some (([] : List Int), 1)) = some (r1, r2) := by rw [if_neg (show ¬ (false = true) by decide)] at H; exact H
   clear H
   have H := H1
   clear H1
   simp only [Option.some.injEq, Prod.mk.injEq] at H
   obtain ⟨rfl, rfl⟩ := H
   go_wp2_with (first | ((with_reducible refine gate_dst (N := 16) rfl ?_); (try (refine gate_guard (by rfl) ?_; dsimp only)); refine Kd.N_lit (Kd.slice 2 (Kd.int .i64)) _ 29 ?hg (N' := 16) ?hd (xs := ([l0, l1] : List (List Int))) (inner := [.slice A0 l0.length c0, .slice A1 l1.length c1]) (ok := (fun k_ => ((P0_ k_ ∨ P1_ k_) ∨ w.heap.size ≤ k_))) (okp := (fun k_ => ((P0_ k_ ∨ P1_ k_) ∨ w.heap.size ≤ k_))) ?hr ?hp (fun _ hk => hk) ((show ∀ k_, w.heap.size ≤ k_ → (fun k_ => ((P0_ k_ ∨ P1_ k_) ∨ w.heap.size ≤ k_)) k_ from fun k_ hk => (.inr (Nat.le_trans (below_size hb_) hk))) _ (Nat.le_refl _)) (Below.refl _ _) (Nat.le_refl _) (by simp) ?_; (case hd => rfl); (case hg => rfl); (case hr => first | (go_simp; done) | (go_simp; rfl)); (case hp => exact (Reps.one (show Kd.FK (Kd.slice 2 (Kd.int .i64)) _ _ l0 [.slice A0 l0.length c0] from (Kd.FK_slice_mk (Kd.V_reads' (Kd.V_mono (ok' := (fun k_ => ((P0_ k_ ∨ P1_ k_) ∨ w.heap.size ≤ k_))) (HO0.out) (fun k_ hk => hk))).2.1 (Kd.V_F (Kd.V_mono (ok' := (fun k_ => ((P0_ k_ ∨ P1_ k_) ∨ w.heap.size ≤ k_))) (HO0.out) (fun k_ hk => hk))))) (Reps.one (show Kd.FK (Kd.slice 2 (Kd.int .i64)) _ _ l1 [.slice A1 l1.length c1] from (Kd.FK_slice_mk (Kd.V_reads' (Kd.V_mono (ok' := (fun k_ => ((P0_ k_ ∨ P1_ k_) ∨ w.heap.size ≤ k_))) (HO1.out) (fun k_ hk => hk))).2.1 (Kd.V_F (Kd.V_mono (ok' := (fun k_ => ((P0_ k_ ∨ P1_ k_) ∨ w.heap.size ≤ k_))) (HO1.out) (fun k_ hk => hk))))) (Reps.none _ _)))); intro v307 w31 ho32 hb hg_ hnew_; clear hg_ hnew_; (first | rw [← Ny306.out] at ho32 | (simp only [Int.reduceToNat] at ho32; rw [← Ny306.out] at ho32)); replace HO0 := Aside0.mk (Kd.V_elder' (Kd.V_below HO0.out bgo_) (Kd.N_base ho32) hb); replace HO1 := Aside0.mk (Kd.V_elder' (Kd.V_below HO1.out bgo_) (Kd.N_base ho32) hb); have HO308 := Aside0.mk (Kd.N_lower ho32 (below_size hb_)); replace HB := Aside0.mk (below_step hb_ hb); clear hb ho32; obtain ⟨Ao33, co33, eo33⟩ := Kd.N_slice HO308.out; subst eo33) | ((with_reducible refine gate_callee (f := 163) rfl ?_); refine goesL_ (some 17) rfl rfl Try.func163 (by kernel_rfl) rfl #[.slice Ao33 y306.length co33] rfl arg_ ?_; (with_reducible refine (impl_areWhole.calls k _ _ y306 false _ ?side1 ?side2 A4.out).mono ?_); (case side1 => exact Kd.C_below (Kd.N_reads' HO308.out).2.2 bgo_); (case side2 => exact (Kd.N_reads' HO308.out).2.1); rintro e w34 ⟨rfl, hb⟩; refine ⟨_, rfl, ?_⟩; replace HO0 := Aside0.mk (Kd.V_below (Kd.V_below HO0.out bgo_) hb); replace HO1 := Aside0.mk (Kd.V_below (Kd.V_below HO1.out bgo_) hb); replace HO308 := Aside0.mk (Kd.N_below (Kd.N_below HO308.out bgo_) hb); replace HB := Aside0.mk (below_step hb_ hb); (try clear hb); (try clear hb2); (try clear hk); (try clear hi)))
   go_ret2
   exact ⟨_, er_, by first | exact Kd.R_nil _ _ _ _ _ | exact Kd.N_nil _ _ _ _ _ | exact Kd.V_nil _ _ _ _ _ | exact Kd.Q_nil _ _ _ _ _ | exact Kd.S_nil _ _ _ _ _, hb_⟩
 case rest =>
  clear HC3
  obtain ⟨kq, HA, HJ2, HO_0, HO_1, HB⟩ := hcut
  cases kq with
  | zero => exact absurd HA.out (by simp [impl_DivideWhole.j0])
  | succ kj2 =>
   have H := HA.out
   clear HA
   simp only [impl_DivideWhole.j0] at H
   obtain ⟨y312, Ny312, H⟩ : ∃ y312 : List Int, Aside0 (y312 = (([] : List Int))) ∧ (impl_DivideWhole.l0 kj2 l0 l1 y312 (mx 0 (wrap64 ((wrap64 ((l0.length : Int) - (l1.length : Int))) + 1))) 0) = some (r1, r2) := ⟨_, ⟨rfl⟩, H⟩
   obtain ⟨ji35, hji35⟩ : ∃ j_ : Int, (mx 0 (wrap64 ((wrap64 ((l0.length : Int) - (l1.length : Int))) + 1))) = j_ := ⟨_, rfl⟩
   (try rw [hji35])
   replace H : (impl_DivideWhole.l0 kj2 l0 l1 y312 ji35 0) = some (r1, r2) := by first | (rw [hji35] at H; exact H) | (simp only [hji35] at H ⊢; exact H)
   have hji35_ : (if 0 < (wrap64 ((wrap64 ((l0.length : Int) - (l1.length : Int))) + 1)) then (wrap64 ((wrap64 ((l0.length : Int) - (l1.length : Int))) + 1)) else 0) = ji35 := hji35
   have H' := Aside0.mk H
   clear H
   go_wp2_with (first | ((with_reducible refine gate_dst (N := 35) rfl ?_); (try (refine gate_guard (by rfl) ?_; dsimp only)); refine Kd.R_lit (Kd.int .i64) _ 2 ?hg (N := 35) ?hd (xs := ([] : List Int)) (inner := []) (ok := fun _ => True) (okp := fun _ => True) ?hr ?hp (fun _ hk => hk) trivial (Below.refl _ _) (Nat.le_refl _) (by simp) ?_; (case hd => rfl); (case hg => rfl); (case hr => first | (go_simp; done) | (go_simp; rfl)); (case hp => exact (Reps.none _ _)); intro v313 w36 ho37 hb hg_ hnew_; clear hg_ hnew_; (first | rw [← Ny312.out] at ho37 | (simp only [Int.reduceToNat] at ho37; rw [← Ny312.out] at ho37)); replace HO_0 := Aside0.mk (Kd.V_elder' (Kd.V_below HO_0.out bgo_) (Kd.R_base ho37) hb); replace HO_1 := Aside0.mk (Kd.V_elder' (Kd.V_below HO_1.out bgo_) (Kd.R_base ho37) hb); have HO314 := Aside0.mk (Kd.R_lower (Kd.R_newM (M := fun k_ => (w.heap.size ≤ k_)) ho37 (below_size hb_) (fun k_ h_ => h_)) (below_size hb_)); replace HB := Aside0.mk (below_step hb_ hb); clear hb ho37))
   go_loopg [6, 43] kj2 (fun kq v6 v43 w' => ∃ (x6_2 : List Int) (x43_2 : Int), v43 = .int .i64 x43_2 ∧ Aside0 (impl_DivideWhole.l0 kq l0 l1 x6_2 ji35 x43_2 = some (r1, r2)) ∧ Aside0 (kq ≤ kj2) ∧ Aside0 (Kd.V (Kd.int .i64) 2 w' w.heap.size (fun k_ => ((P0_ k_ ∨ P1_ k_) ∨ w.heap.size ≤ k_) ∧ some k_ ≠ (v6 : Value).ownBlock) (.slice A0 l0.length c0) l0) ∧ Aside0 (Kd.V (Kd.int .i64) 2 w' w.heap.size (fun k_ => ((P0_ k_ ∨ P1_ k_) ∨ w.heap.size ≤ k_) ∧ some k_ ≠ (v6 : Value).ownBlock) (.slice A1 l1.length c1) l1) ∧ Aside0 (Kd.R (Kd.int .i64) 2 w' w.heap.size (fun k_ => (w.heap.size ≤ k_)) v6 x6_2) ∧ Aside0 (Below w.heap.size w w'))
   case atStart => exact ⟨(y312), (0), es_, H', ⟨Nat.le_refl _⟩, ⟨Kd.V_below HO_0.out bgo_⟩, ⟨Kd.V_below HO_1.out bgo_⟩, ⟨by (with_reducible repeat (first | apply Kd.R_alloc | apply Kd.R_drewN | apply Kd.R_drew)); exact Kd.R_mono HO314.out (fun _ hk => hk.1)⟩, ⟨hb_⟩⟩
   case round =>
    clear H'
    obtain ⟨x6_2, x43_2, rfl, HA, HK2, HO_0, HO_1, HO_6, HB⟩ := hrel
    cases gk with
    | zero => exact absurd HA.out (by simp [impl_DivideWhole.l0])
    | succ k2 =>
     have H := HA.out
     clear HA
     simp only [impl_DivideWhole.l0] at H
     by_cases c38 : x43_2 < ji35
     ·rw [if_pos c38] at H
      have c38b0 := decide_eq_true c38
      clear c38
      obtain ⟨t315, A39, H⟩ := bnd_ H
      have H' := Aside0.mk H
      clear H
      go_wp2_with (first | ((with_reducible refine gate_callee (f := 140) rfl ?_); refine goesL_ (some 48) rfl rfl Try.func140 (by kernel_rfl) rfl #[.slice A0 l0.length c0, .int .i64 x43_2] rfl arg_ ?_; (with_reducible refine (impl_at.calls _ _ l0 x43_2 t315 _ ?side1 ?side2 A39.out).mono ?_); (case side1 => exact Kd.C_below (Kd.V_reads' HO_0.out).2.2 bgo_); (case side2 => exact (Kd.V_reads' HO_0.out).2.1); rintro e w' ⟨rfl, ⟨nd, rfl⟩⟩; refine ⟨_, rfl, ?_⟩))
      go_loopg [8, 10] k2 (fun kq v8 v10 w' => ∃ (x8_3 : Int) (x10_3 : Int), v8 = .int .i64 x8_3 ∧ v10 = .int .i64 x10_3 ∧ Aside0 (impl_DivideWhole.l1 kq l0 l1 x6_2 x43_2 x8_3 x10_3 ji35 x43_2 = some (r1, r2)) ∧ Aside0 (kq ≤ k2) ∧ Aside0 (Kd.V (Kd.int .i64) 2 w' w.heap.size (fun k_ => ((P0_ k_ ∨ P1_ k_) ∨ w.heap.size ≤ k_) ∧ some k_ ≠ (u6 : Value).ownBlock) (.slice A0 l0.length c0) l0) ∧ Aside0 (Kd.V (Kd.int .i64) 2 w' w.heap.size (fun k_ => ((P0_ k_ ∨ P1_ k_) ∨ w.heap.size ≤ k_) ∧ some k_ ≠ (u6 : Value).ownBlock) (.slice A1 l1.length c1) l1) ∧ Aside0 (Kd.R (Kd.int .i64) 2 w' w.heap.size (fun k_ => (w.heap.size ≤ k_)) u6 x6_2) ∧ Aside0 (Below w.heap.size w w'))
      case atStart => exact ⟨(t315), (1), es_, es_, H', ⟨Nat.le_refl _⟩, ⟨Kd.V_below HO_0.out bgo_⟩, ⟨Kd.V_below HO_1.out bgo_⟩, ⟨Kd.R_below HO_6.out bgo_⟩, ⟨hb_⟩⟩
      case round =>
       clear H'
       obtain ⟨x8_3, x10_3, rfl, rfl, HA, HK3, HO_0, HO_1, HO_6, HB⟩ := hrel
       cases gk with
       | zero => exact absurd HA.out (by simp [impl_DivideWhole.l1])
       | succ k3 =>
        have H := HA.out
        clear HA
        simp only [impl_DivideWhole.l1] at H
        obtain ⟨ji40, hji40⟩ : ∃ j_ : Int, (mn x43_2 (wrap64 ((l1.length : Int) - 1))) = j_ := ⟨_, rfl⟩
        (try rw [hji40])
        replace H : (if x10_3 ≤ (ji40) then (if 0 ≤ x10_3 then (if x10_3 < (l1.length : Int) then (if 0 ≤ (wrap64 (x43_2 - x10_3)) then (if (wrap64 (x43_2 - x10_3)) < (x6_2.length : Int) then ((impl_plusTimes.f k3 x8_3 (wrap64 (-(rd l1 x10_3))) (rd x6_2 (wrap64 (x43_2 - x10_3)))).bind fun bt318 => (if bt318.2 = true then (impl_DivideWhole.l1 k3 l0 l1 x6_2 x43_2 bt318.1 (wrap64 (x10_3 + 1)) ji35 x43_2) else (some (([] : List Int), 3)))) else (none)) else (none)) else (none)) else (none)) else (if 0 < (l1.length : Int) then (if x6_2.length < 17592186044416 then (impl_DivideWhole.l0 k3 l0 l1 (x6_2 ++ [wrap64 (x8_3 * (rd l1 0))]) ji35 (wrap64 (x43_2 + 1))) else (none)) else (none))) = some (r1, r2) := by first | (rw [hji40] at H; exact H) | (simp only [hji40] at H ⊢; exact H)
        have hji40_ : (if (wrap64 ((l1.length : Int) - 1)) < x43_2 then (wrap64 ((l1.length : Int) - 1)) else x43_2) = ji40 := hji40
        by_cases c41 : x10_3 ≤ (ji40)
        ·rw [if_pos c41] at H
         have c41b0 := decide_eq_true c41
         clear c41
         obtain ⟨c42, H⟩ := itn_ H
         have c42b0 := decide_eq_true c42
         clear c42
         obtain ⟨c43, H⟩ := itn_ H
         have c43b0 := decide_eq_true c43
         clear c43
         obtain ⟨ji44, hji44⟩ : ∃ j_ : Int, (wrap64 (x43_2 - x10_3)) = j_ := ⟨_, rfl⟩
         (try rw [hji44])
         replace H : (if 0 ≤ (ji44) then (if (ji44) < (x6_2.length : Int) then ((impl_plusTimes.f k3 x8_3 (wrap64 (-(rd l1 x10_3))) (rd x6_2 (ji44))).bind fun bt318 => (if bt318.2 = true then (impl_DivideWhole.l1 k3 l0 l1 x6_2 x43_2 bt318.1 (wrap64 (x10_3 + 1)) ji35 x43_2) else (some (([] : List Int), 3)))) else (none)) else (none)) = some (r1, r2) := by first | (rw [hji44] at H; exact H) | (simp only [hji44] at H ⊢; exact H)
         have hji44w : (IntKind.i64.wrap (x43_2 - x10_3)) = ji44 := (i64_w _).trans hji44
         obtain ⟨c45, H⟩ := itn_ H
         have c45b0 := decide_eq_true c45
         clear c45
         obtain ⟨c46, H⟩ := itn_ H
         have c46b0 := decide_eq_true c46
         clear c46
         obtain ⟨⟨t318, t319⟩, A47, H⟩ := bnd_ H
         dsimp only at H
         by_cases c48 : t319 = true
         ·subst c48
          have H1 : (impl_DivideWhole.l1 k3 l0 l1 x6_2 x43_2 t318 (wrap64 (x10_3 + 1)) ji35 x43_2) = some (r1, r2) := by rw [if_pos rfl] at H; exact H
          clear H
          have H := H1
          clear H1
          have H' := Aside0.mk H
          clear H
          try go_wp2
          have n0_ := Aside0.mk (Kd.V_drew HO_0.out)
          have n1_ := Aside0.mk (Kd.V_drew HO_1.out)
          have n2_ := Aside0.mk (Kd.R_drew HO_6.out)
          have n3_ := Aside0.mk (below_drew1 HB.out)
          clear HO_0
          clear HO_1
          clear HO_6
          clear HB
          have HO_0 := n0_
          have HO_1 := n1_
          have HO_6 := n2_
          have HB := n3_
          clear n0_ n1_ n2_ n3_
          have p316 : 0 ≤ (x10_3 : Int) := od_
          have q316 : x10_3 < (l1.length : Int) := od_
          obtain ⟨ad316, e316, hx316_0⟩ := Kd.at_int (Kd.V_reads' HO_1.out).2.2 x10_3 p316 q316
          cases e316
          replace p316 := eq_true p316
          replace q316 := eq_true q316
          obtain ⟨Ao50, co50, eo50⟩ := Kd.R_slice HO_6.out
          (first | subst eo50 | (injection eo50 with f1_ f2_ f3_; have f4_ := f1_.symm; have f5_ := f3_.symm; clear f1_ f2_ f3_; subst f4_; subst f5_))
          have p317 : 0 ≤ ((ji44) : Int) := od_
          have q317 : (ji44) < (x6_2.length : Int) := od_
          obtain ⟨ad317, e317, hx317_0⟩ := Kd.at_int (Kd.R_reads' HO_6.out).2.2 (ji44) p317 q317
          cases e317
          replace p317 := eq_true p317
          replace q317 := eq_true q317
          refine start_ (n := 18) (S := fun w' => w'.cell? (ad316.add (x10_3).toNat) = some (.int .i64 (rd l1 x10_3)) ∧ w'.cell? (ad317.add ((ji44)).toNat) = some (.int .i64 (rd x6_2 (ji44)))) (ds := []) #[false, false, false, false, false, false, false, false, false, false, false, false, false, false, false, false, false, false] (by kernel_rfl) rfl rfl ⟨hx316_0, hx317_0⟩ (fun hHeld => ?_); refine with_tabW impl_DivideWhole.tab15 impl_DivideWhole.bits15 (fun HT_ HW_ => ?_)
          generalize wr.drew = w49 at HO_0 HO_1 HO_6 HB hx316_0 hx317_0 hHeld ⊢
          refine pk_ 0 18 59 1 ?_
          refine pk_ 1 18 60 3 ?_
          refine pk_ 2 18 61 7 ?_
          refine pk_ 3 18 62 15 ?_
          refine pk_ 6 18 65 79 ?_
          refine pk_ 7 18 66 207 ?_
          refine pk_ 8 18 67 463 ?_
          refine pk_ 9 18 68 975 ?_
          refine pk_ 10 18 69 1999 ?_
          refine tk_ 4 18 63 2015 hHeld ?_
          refine pk_ 5 18 64 2047 ?_
          refine tk_ 11 18 70 4095 hHeld ?_
          refine one_ (i := 12) (N := some 71) #[true, true, true, true, true, true, true, true, true, true, true, true, true, false, false, false, false, false] rfl rfl (one_of HT_.out (by kernel_rfl)) (by decide) (fun K hK => ?_)
          refine goes_ Try.func168 (by kernel_rfl) rfl #[.int .i64 x8_3, .int .i64 (wrap64 (-(rd l1 x10_3))), .int .i64 (rd x6_2 (ji44))] (by rfl) rfl rfl (by (try simp only [List.map_toArray, List.map_cons, List.map_nil]); first | done | (simp only [hji44]; rfl) | rfl | (simp only [List.length_drop, List.length_take]; rfl)) ?_
          with_reducible refine (impl_plusTimes.calls k3 x8_3 (wrap64 (-(rd l1 x10_3))) (rd x6_2 (ji44)) t318 true _ A47.out).mono ?_
          rintro e w51 ⟨rfl, hb⟩
          have HS0_ := (hb.cell (World.block_lt_of_cell? _ _ (hHeld.1))).trans (hHeld.1)
          have HS1_ := (hb.cell (World.block_lt_of_cell? _ _ (hHeld.2))).trans (hHeld.2)
          refine ⟨_, rfl, ?_⟩
          have n0_ := Aside0.mk (Kd.V_below (Kd.V_below HO_0.out bgo_) hb)
          have n1_ := Aside0.mk (Kd.V_below (Kd.V_below HO_1.out bgo_) hb)
          have n2_ := Aside0.mk (Kd.R_below (Kd.R_below HO_6.out bgo_) hb)
          have n3_ := Aside0.mk (below_step hb_ hb)
          clear HO_0
          clear HO_1
          clear HO_6
          clear HB
          have HO_0 := n0_
          have HO_1 := n1_
          have HO_6 := n2_
          have HB := n3_
          clear n0_ n1_ n2_ n3_
          (try clear hb)
          (try clear hb2)
          (try clear hk)
          (try clear hi)
          refine hK.out _ _ ⟨HS0_, HS1_⟩ (fun hHeld => ?_)
          clear hK K
          refine norm_ (a' := ?_) ?_ ?_
          rotate_left
          ·show Act.put _ (some 71) _ = _
           simp only [Act.put, nf_]
           rfl
          refine pk_ 13 18 58 16383 ?_
          refine pk_ 14 18 72 32767 ?_
          refine pk_ 15 18 73 65535 ?_
          refine pk_ 16 18 8 131071 ?_
          refine pk_ 17 18 9 262143 ?_
          refine done_ (done_of HT_.out (by kernel_rfl)) ?_
          try go_wp2
          first | (first | go_roundg k3 | (refine Handed.intro k3 ?measure ?_; rotate_left; go_step; (try simp only [add_plain]); (repeat apply Exists.intro); refine ⟨?rel, rfl⟩)) | ((try subst hji44); (try subst hji40); (try subst hji35); (first | go_roundg k3 | (refine Handed.intro k3 ?measure ?_; rotate_left; go_step; (try simp only [add_plain]); (repeat apply Exists.intro); refine ⟨?rel, rfl⟩)))
          case measure => have := HJ2.out; have := HK2.out; have := HK3.out; omega
          case rel => exact ⟨(t318), (wrap64 (x10_3 + 1)), es_, es_, H', ⟨by have := HJ2.out; have := HK2.out; have := HK3.out; omega⟩, ⟨Kd.V_below HO_0.out bgo_⟩, ⟨Kd.V_below HO_1.out bgo_⟩, ⟨Kd.R_below HO_6.out bgo_⟩, ⟨hb_⟩⟩
         ·replace c48 := Bool.eq_false_iff.mpr c48
          subst c48
          have H1 : (some (([] : List Int), 3)) = some (r1, r2) := by rw [if_neg (show ¬ (false = true) by decide)] at H; exact H
          clear H
          have H := H1
          clear H1
          simp only [Option.some.injEq, Prod.mk.injEq] at H
          obtain ⟨rfl, rfl⟩ := H
          try go_wp2
          have n0_ := Aside0.mk (Kd.V_drew HO_0.out)
          have n1_ := Aside0.mk (Kd.V_drew HO_1.out)
          have n2_ := Aside0.mk (Kd.R_drew HO_6.out)
          have n3_ := Aside0.mk (below_drew1 HB.out)
          clear HO_0
          clear HO_1
          clear HO_6
          clear HB
          have HO_0 := n0_
          have HO_1 := n1_
          have HO_6 := n2_
          have HB := n3_
          clear n0_ n1_ n2_ n3_
          have p316 : 0 ≤ (x10_3 : Int) := od_
          have q316 : x10_3 < (l1.length : Int) := od_
          obtain ⟨ad316, e316, hx316_0⟩ := Kd.at_int (Kd.V_reads' HO_1.out).2.2 x10_3 p316 q316
          cases e316
          replace p316 := eq_true p316
          replace q316 := eq_true q316
          obtain ⟨Ao53, co53, eo53⟩ := Kd.R_slice HO_6.out
          (first | subst eo53 | (injection eo53 with f1_ f2_ f3_; have f4_ := f1_.symm; have f5_ := f3_.symm; clear f1_ f2_ f3_; subst f4_; subst f5_))
          have p317 : 0 ≤ ((ji44) : Int) := od_
          have q317 : (ji44) < (x6_2.length : Int) := od_
          obtain ⟨ad317, e317, hx317_0⟩ := Kd.at_int (Kd.R_reads' HO_6.out).2.2 (ji44) p317 q317
          cases e317
          replace p317 := eq_true p317
          replace q317 := eq_true q317
          refine start_ (n := 18) (S := fun w' => w'.cell? (ad316.add (x10_3).toNat) = some (.int .i64 (rd l1 x10_3)) ∧ w'.cell? (ad317.add ((ji44)).toNat) = some (.int .i64 (rd x6_2 (ji44)))) (ds := []) #[false, false, false, false, false, false, false, false, false, false, false, false, false, false, false, false, false, false] (by kernel_rfl) rfl rfl ⟨hx316_0, hx317_0⟩ (fun hHeld => ?_); refine with_tabW impl_DivideWhole.tab15 impl_DivideWhole.bits15 (fun HT_ HW_ => ?_)
          generalize wr.drew = w52 at HO_0 HO_1 HO_6 HB hx316_0 hx317_0 hHeld ⊢
          refine pk_ 0 18 59 1 ?_
          refine pk_ 1 18 60 3 ?_
          refine pk_ 2 18 61 7 ?_
          refine pk_ 3 18 62 15 ?_
          refine pk_ 6 18 65 79 ?_
          refine pk_ 7 18 66 207 ?_
          refine pk_ 8 18 67 463 ?_
          refine pk_ 9 18 68 975 ?_
          refine pk_ 10 18 69 1999 ?_
          refine tk_ 4 18 63 2015 hHeld ?_
          refine pk_ 5 18 64 2047 ?_
          refine tk_ 11 18 70 4095 hHeld ?_
          refine one_ (i := 12) (N := some 71) #[true, true, true, true, true, true, true, true, true, true, true, true, true, false, false, false, false, false] rfl rfl (one_of HT_.out (by kernel_rfl)) (by decide) (fun K hK => ?_)
          refine goes_ Try.func168 (by kernel_rfl) rfl #[.int .i64 x8_3, .int .i64 (wrap64 (-(rd l1 x10_3))), .int .i64 (rd x6_2 (ji44))] (by rfl) rfl rfl (by (try simp only [List.map_toArray, List.map_cons, List.map_nil]); first | done | (simp only [hji44]; rfl) | rfl | (simp only [List.length_drop, List.length_take]; rfl)) ?_
          with_reducible refine (impl_plusTimes.calls k3 x8_3 (wrap64 (-(rd l1 x10_3))) (rd x6_2 (ji44)) t318 false _ A47.out).mono ?_
          rintro e w54 ⟨rfl, hb⟩
          have HS0_ := (hb.cell (World.block_lt_of_cell? _ _ (hHeld.1))).trans (hHeld.1)
          have HS1_ := (hb.cell (World.block_lt_of_cell? _ _ (hHeld.2))).trans (hHeld.2)
          refine ⟨_, rfl, ?_⟩
          have n0_ := Aside0.mk (Kd.V_below (Kd.V_below HO_0.out bgo_) hb)
          have n1_ := Aside0.mk (Kd.V_below (Kd.V_below HO_1.out bgo_) hb)
          have n2_ := Aside0.mk (Kd.R_below (Kd.R_below HO_6.out bgo_) hb)
          have n3_ := Aside0.mk (below_step hb_ hb)
          clear HO_0
          clear HO_1
          clear HO_6
          clear HB
          have HO_0 := n0_
          have HO_1 := n1_
          have HO_6 := n2_
          have HB := n3_
          clear n0_ n1_ n2_ n3_
          (try clear hb)
          (try clear hb2)
          (try clear hk)
          (try clear hi)
          refine hK.out _ _ ⟨HS0_, HS1_⟩ (fun hHeld => ?_)
          clear hK K
          refine norm_ (a' := ?_) ?_ ?_
          rotate_left
          ·show Act.put _ (some 71) _ = _
           simp only [Act.put, nf_]
           rfl
          refine pk_ 13 18 58 16383 ?_
          refine pk_ 14 18 72 32767 ?_
          refine pk_ 15 18 73 65535 ?_
          refine pk_ 16 18 8 131071 ?_
          refine pk_ 17 18 9 262143 ?_
          refine done_ (done_of HT_.out (by kernel_rfl)) ?_
          try go_wp2
          go_ret2
          exact ⟨_, by first | rfl | (simp [errW_none, errW_some] <;> rfl) | (simp only [← hji35, ← hji40, ← hji44]; first | rfl | (simp [errW_none, errW_some] <;> rfl)) | (simp [*, errW_none, errW_some] <;> rfl), by first | exact Kd.R_nil _ _ _ _ _ | exact Kd.N_nil _ _ _ _ _ | exact Kd.V_nil _ _ _ _ _ | exact Kd.Q_nil _ _ _ _ _ | exact Kd.S_nil _ _ _ _ _, hb_⟩
        ·rw [if_neg c41] at H
         have c41b0 := decide_eq_false c41
         clear c41
         obtain ⟨c55, H⟩ := itn_ H
         have c55b0 := decide_eq_true c55
         have c55b1 : decide (0 < l1.length) = true := decide_eq_true (by omega)
         clear c55
         obtain ⟨c56, H⟩ := itn_ H
         have LMc56 := Aside0.mk c56
         clear c56
         obtain ⟨y321, Ny321, H⟩ : ∃ y321 : List Int, Aside0 (y321 = (x6_2 ++ [wrap64 (x8_3 * (rd l1 0))])) ∧ (impl_DivideWhole.l0 k3 l0 l1 y321 ji35 (wrap64 (x43_2 + 1))) = some (r1, r2) := ⟨_, ⟨rfl⟩, H⟩
         have H' := Aside0.mk H
         clear H
         have p320 : 0 ≤ (0 : Int) := (by omega)
         have q320 : 0 < (l1.length : Int) := od_
         obtain ⟨ad320, e320, hx320_0⟩ := Kd.at_int (Kd.V_reads' HO_1.out).2.2 0 p320 q320
         cases e320
         have qi320 : (0 < l1.length) = True := eq_true (by omega)
         (try rw [show ((0 : Int)).toNat = 0 from rfl] at hx320_0)
         (try rw [Addr.add_zero'] at hx320_0)
         replace p320 := eq_true p320
         replace q320 := eq_true q320
         go_wp2_with (first | ((with_reducible refine gate_builtin (b := .append) (xs := #[.tmp 76, .tmp 82]) rfl ?_); (try (refine gate_guard (by rfl) ?_; dsimp only)); at_builtin; refine Kd.R_append (Kd.int .i64) (w0 := w) w.heap.size rfl (.tmp 76) (.tmp 82) 29 2 (.int .i64 0) 8 rfl Try.underlying29 info2 rfl (by decide) (by omega) u6 x6_2 (wrap64 (x8_3 * (rd l1 0))) [.int .i64 (wrap64 (x8_3 * (rd l1 0)))] (fun k_ => (w.heap.size ≤ k_)) (fun _ => False) rfl rfl ?aP (fun _ hk => hk.elim) ?aF ?aO ?aB ?aS ?aL ?_; (case aP => exact rfl); (case aB => exact hb_); (case aF => exact (fun k_ hk => (Nat.le_trans (below_size hb_) hk))); (case aO => exact (Kd.R_below HO_6.out bgo_)); (case aS => exact (below_size hb_)); (case aL => have := LMc56.out; omega); intro v322 w57 ho hb hg hat; rw [← Ny321.out] at ho; replace HO_0 := Aside0.mk (Kd.V_afterv (ok := (fun k_ => ((P0_ k_ ∨ P1_ k_) ∨ w.heap.size ≤ k_))) (Kd.V_below HO_0.out bgo_) hg hat); replace HO_1 := Aside0.mk (Kd.V_afterv (ok := (fun k_ => ((P0_ k_ ∨ P1_ k_) ∨ w.heap.size ≤ k_))) (Kd.V_below HO_1.out bgo_) hg hat); replace HB := Aside0.mk (hb); have HO323 := Aside0.mk (ho); clear HO_6; clear ho hb hg hat))
         first | (first | go_roundg k3 | (refine Handed.intro k3 ?measure ?_; rotate_left; go_step; (try simp only [add_plain]); (repeat apply Exists.intro); refine ⟨?rel, rfl⟩)) | ((try subst hji40); (try subst hji35); (first | go_roundg k3 | (refine Handed.intro k3 ?measure ?_; rotate_left; go_step; (try simp only [add_plain]); (repeat apply Exists.intro); refine ⟨?rel, rfl⟩)))
         case measure => have := HJ2.out; have := HK2.out; have := HK3.out; omega
         case rel => exact ⟨(y321), (wrap64 (x43_2 + 1)), es_, H', ⟨by have := HJ2.out; have := HK2.out; have := HK3.out; omega⟩, ⟨Kd.V_below HO_0.out bgo_⟩, ⟨Kd.V_below HO_1.out bgo_⟩, ⟨Kd.R_below HO323.out bgo_⟩, ⟨hb_⟩⟩
     ·rw [if_neg c38] at H
      have c38b0 := decide_eq_false c38
      clear c38
      have HC58 := Aside0.mk H
      clear H
      go_upto_if 87 with (fail)
      go_cut [6] (fun v6 wc => ∃ (kq : Nat) (x6_57 : List Int), Aside0 (impl_DivideWhole.j3 kq l0 l1 x6_57 = some (r1, r2)) ∧ Aside0 (kq ≤ k2) ∧ Aside0 (Kd.V (Kd.int .i64) 2 wc w.heap.size (fun k_ => ((P0_ k_ ∨ P1_ k_) ∨ w.heap.size ≤ k_) ∧ some k_ ≠ (v6 : Value).ownBlock) (.slice A0 l0.length c0) l0) ∧ Aside0 (Kd.V (Kd.int .i64) 2 wc w.heap.size (fun k_ => ((P0_ k_ ∨ P1_ k_) ∨ w.heap.size ≤ k_) ∧ some k_ ≠ (v6 : Value).ownBlock) (.slice A1 l1.length c1) l1) ∧ Aside0 (Kd.R (Kd.int .i64) 2 wc w.heap.size (fun k_ => (w.heap.size ≤ k_)) v6 x6_57) ∧ Aside0 (Below w.heap.size w wc))
      case first =>
       have H := HC58.out
       clear HC58
       by_cases c59 : (l0.length : Int) = 0
       ·rw [if_pos c59] at H
        have c59b0 : ((l0.length : Int) == 0) = true := beq_iff_eq.mpr c59
        have c59b1 : ((l0.length : Int) != 0) = false := bne_eq_false_iff_eq.mpr c59
        clear c59
        (first | rw [c59b0] | (simp only [i64_w, i32_w]; rw [c59b0]) | skip)
        have H' := Aside0.mk H
        clear H
        go_wp2
        go_meet
        case rel => exact ⟨_, (([] : List Int)), H', ⟨by have := HJ2.out; have := HK2.out; first | omega | exact Nat.le_refl _⟩, ⟨by (with_reducible repeat (first | apply Kd.V_alloc | apply Kd.V_drewN | apply Kd.V_drew)); exact Kd.V_mono HO_0.out (fun _ hk => ⟨hk.1, (by simp [Value.ownBlock])⟩)⟩, ⟨by (with_reducible repeat (first | apply Kd.V_alloc | apply Kd.V_drewN | apply Kd.V_drew)); exact Kd.V_mono HO_1.out (fun _ hk => ⟨hk.1, (by simp [Value.ownBlock])⟩)⟩, ⟨by first | exact Kd.R_nil _ _ _ _ _ | exact Kd.N_nil _ _ _ _ _ | exact Kd.V_nil _ _ _ _ _ | exact Kd.Q_nil _ _ _ _ _ | exact Kd.S_nil _ _ _ _ _⟩, ⟨hb_⟩⟩
       ·rw [if_neg c59] at H
        have c59b0 : ((l0.length : Int) == 0) = false := beq_eq_false_iff_ne.mpr c59
        have c59b1 : ((l0.length : Int) != 0) = true := bne_iff_ne.mpr c59
        have c59b2 : ¬ (l0 = []) := fun h_ => c59 (by rw [h_]; rfl)
        (first | rw [c59b0] | (simp only [i64_w, i32_w]; rw [c59b0]) | skip)
        have H' := Aside0.mk H
        clear H
        go_wp2
        go_meet
        case rel => exact ⟨_, (x6_2), H', ⟨by have := HJ2.out; have := HK2.out; first | omega | exact Nat.le_refl _⟩, ⟨Kd.V_below HO_0.out bgo_⟩, ⟨Kd.V_below HO_1.out bgo_⟩, ⟨Kd.R_below HO_6.out bgo_⟩, ⟨hb_⟩⟩
      case rest =>
       clear HC58
       obtain ⟨kq, x6_57, HA, HJ57, HO_0, HO_1, HO_6, HB⟩ := hcut
       cases kq with
       | zero => exact absurd HA.out (by simp [impl_DivideWhole.j3])
       | succ kj57 =>
        have H := HA.out
        clear HA
        simp only [impl_DivideWhole.j3] at H
        obtain ⟨t324, A60, H⟩ := bnd_ H
        obtain ⟨⟨t327, t328⟩, A61, H⟩ := bnd_ H
        dsimp only at H
        by_cases c62 : t328 = true
        ·subst c62
         have H1 : ((slices_Equal_int64_int64.f kj57 t327 l0).bind fun t331 => (if t331 = true then (some (t324, 0)) else (some (([] : List Int), 4)))) = some (r1, r2) := by rw [if_pos rfl] at H; exact H
         clear H
         have H := H1
         clear H1
         obtain ⟨t331, A63, H⟩ := bnd_ H
         by_cases c64 : t331 = true
         ·subst c64
          have H1 : (some (t324, 0)) = some (r1, r2) := by rw [if_pos rfl] at H; exact H
          clear H
          have H := H1
          clear H1
          simp only [Option.some.injEq, Prod.mk.injEq] at H
          obtain ⟨rfl, rfl⟩ := H
          obtain ⟨Ao65, co65, eo65⟩ := Kd.R_slice HO_6.out
          subst eo65
          go_wp2_with (first | ((with_reducible refine gate_callee (f := 170) rfl ?_); refine goesL_ (some 89) rfl rfl Try.func170 (by kernel_rfl) rfl #[.slice Ao65 x6_57.length co65] rfl arg_ ?_; (with_reducible refine (impl_trimmed.calls kj57 (fun k_ => some k_ = (.slice Ao65 x6_57.length co65 : Value).ownBlock) _ _ x6_57 t324 _ ?side1 A60.out).mono ?_); (case side1 => exact Kd.R_V (Kd.R_tight rfl (HO_6.out))); rintro e w66 ⟨v325, rfl, ho0, hb⟩; refine ⟨_, rfl, ?_⟩; replace HO_0 := Aside0.mk (Kd.V_elder' (Kd.V_below HO_0.out bgo_) (Kd.R_base ho0) hb); replace HO_1 := Aside0.mk (Kd.V_elder' (Kd.V_below HO_1.out bgo_) (Kd.R_base ho0) hb); have HO326 := Aside0.mk (Kd.R_lower (Kd.R_new' (Kd.R_newM (M := fun k_ => (w.heap.size ≤ k_)) (Kd.R_mono (ok' := fun k_ => True) ho0 (fun _ hk_ => trivial)) (below_size hb_) (fun k_ h_ => h_)) (Kd.R_lt (Kd.R_below HO_6.out bgo_))) (below_size hb_)); replace HO_6 := Aside0.mk (Kd.R_elder' (Kd.R_below HO_6.out bgo_) (Kd.R_base ho0) hb); replace HB := Aside0.mk (below_step hb_ hb); (try clear hb); (try clear hb2); (try clear hk); (try clear hi); (try clear ho0); obtain ⟨Ao67, co67, eo67⟩ := Kd.R_slice HO326.out; subst eo67) | ((with_reducible refine gate_callee (f := 164) rfl ?_); refine goesL_ (some 93) rfl rfl Try.func164 (by kernel_rfl) rfl #[.slice Ao67 t324.length co67, .slice A1 l1.length c1] rfl arg_ ?_; (with_reducible refine (impl_multiply.calls kj57 _ _ t324 _ _ l1 t327 true _ ?side1 ?side2 ?side3 ?side4 A61.out).mono ?_); (case side1 => exact Kd.C_below (Kd.R_reads' HO326.out).2.2 bgo_); (case side2 => exact (Kd.R_reads' HO326.out).2.1); (case side3 => exact Kd.C_below (Kd.V_reads' HO_1.out).2.2 bgo_); (case side4 => exact (Kd.V_reads' HO_1.out).2.1); rintro e w68 ⟨v329, rfl, ho0, hb⟩; refine ⟨_, rfl, ?_⟩; replace HO_0 := Aside0.mk (Kd.V_elder' (Kd.V_below HO_0.out bgo_) (Kd.R_base ho0) hb); replace HO_1 := Aside0.mk (Kd.V_elder' (Kd.V_below HO_1.out bgo_) (Kd.R_base ho0) hb); have HO330 := Aside0.mk (Kd.R_lower (Kd.R_new' (Kd.R_new' (Kd.R_newM (M := fun k_ => (w.heap.size ≤ k_)) ho0 (below_size hb_) (fun k_ h_ => h_)) (Kd.R_lt (Kd.R_below HO_6.out bgo_))) (Kd.R_lt (Kd.R_below HO326.out bgo_))) (below_size hb_)); replace HO_6 := Aside0.mk (Kd.R_elder' (Kd.R_below HO_6.out bgo_) (Kd.R_base ho0) hb); replace HO326 := Aside0.mk (Kd.R_elder' (Kd.R_below HO326.out bgo_) (Kd.R_base ho0) hb); replace HB := Aside0.mk (below_step hb_ hb); (try clear hb); (try clear hb2); (try clear hk); (try clear hi); (try clear ho0); obtain ⟨Ao69, co69, eo69⟩ := Kd.R_slice HO330.out; subst eo69) | ((with_reducible refine gate_callee (f := 116) rfl ?_); refine goesL_ (some 102) rfl rfl Try.func116 (by kernel_rfl) rfl #[.slice Ao69 t327.length co69, .slice A0 l0.length c0] rfl arg_ ?_; (with_reducible refine (slices_Equal_int64_int64.calls kj57 _ _ t327 _ _ l0 true _ ?side1 ?side2 ?side3 ?side4 A63.out).mono ?_); (case side1 => exact Kd.C_below (Kd.R_reads' HO330.out).2.2 bgo_); (case side2 => exact (Kd.R_reads' HO330.out).2.1); (case side3 => exact Kd.C_below (Kd.V_reads' HO_0.out).2.2 bgo_); (case side4 => exact (Kd.V_reads' HO_0.out).2.1); rintro e w' ⟨rfl, ⟨nd, rfl⟩⟩; refine ⟨_, rfl, ?_⟩))
          go_ret2
          exact ⟨_, by first | rfl | (simp [errW_none, errW_some] <;> rfl) | (simp only [← hji35]; first | rfl | (simp [errW_none, errW_some] <;> rfl)) | (simp [*, errW_none, errW_some] <;> rfl), by (with_reducible repeat (first | apply Kd.R_alloc | apply Kd.R_drewN | apply Kd.R_drew)); exact Kd.R_mono HO326.out (fun _ hk => hk.1.1.1), hb_⟩
         ·replace c64 := Bool.eq_false_iff.mpr c64
          subst c64
          have H1 : (some (([] : List Int), 4)) = some (r1, r2) := by rw [if_neg (show ¬ (false = true) by decide)] at H; exact H
          clear H
          have H := H1
          clear H1
          simp only [Option.some.injEq, Prod.mk.injEq] at H
          obtain ⟨rfl, rfl⟩ := H
          obtain ⟨Ao70, co70, eo70⟩ := Kd.R_slice HO_6.out
          subst eo70
          go_wp2_with (first | ((with_reducible refine gate_callee (f := 170) rfl ?_); refine goesL_ (some 89) rfl rfl Try.func170 (by kernel_rfl) rfl #[.slice Ao70 x6_57.length co70] rfl arg_ ?_; (with_reducible refine (impl_trimmed.calls kj57 (fun k_ => some k_ = (.slice Ao70 x6_57.length co70 : Value).ownBlock) _ _ x6_57 t324 _ ?side1 A60.out).mono ?_); (case side1 => exact Kd.R_V (Kd.R_tight rfl (HO_6.out))); rintro e w71 ⟨v325, rfl, ho0, hb⟩; refine ⟨_, rfl, ?_⟩; replace HO_0 := Aside0.mk (Kd.V_elder' (Kd.V_below HO_0.out bgo_) (Kd.R_base ho0) hb); replace HO_1 := Aside0.mk (Kd.V_elder' (Kd.V_below HO_1.out bgo_) (Kd.R_base ho0) hb); have HO326 := Aside0.mk (Kd.R_lower (Kd.R_new' (Kd.R_newM (M := fun k_ => (w.heap.size ≤ k_)) (Kd.R_mono (ok' := fun k_ => True) ho0 (fun _ hk_ => trivial)) (below_size hb_) (fun k_ h_ => h_)) (Kd.R_lt (Kd.R_below HO_6.out bgo_))) (below_size hb_)); replace HO_6 := Aside0.mk (Kd.R_elder' (Kd.R_below HO_6.out bgo_) (Kd.R_base ho0) hb); replace HB := Aside0.mk (below_step hb_ hb); (try clear hb); (try clear hb2); (try clear hk); (try clear hi); (try clear ho0); obtain ⟨Ao72, co72, eo72⟩ := Kd.R_slice HO326.out; subst eo72) | ((with_reducible refine gate_callee (f := 164) rfl ?_); refine goesL_ (some 93) rfl rfl Try.func164 (by kernel_rfl) rfl #[.slice Ao72 t324.length co72, .slice A1 l1.length c1] rfl arg_ ?_; (with_reducible refine (impl_multiply.calls kj57 _ _ t324 _ _ l1 t327 true _ ?side1 ?side2 ?side3 ?side4 A61.out).mono ?_); (case side1 => exact Kd.C_below (Kd.R_reads' HO326.out).2.2 bgo_); (case side2 => exact (Kd.R_reads' HO326.out).2.1); (case side3 => exact Kd.C_below (Kd.V_reads' HO_1.out).2.2 bgo_); (case side4 => exact (Kd.V_reads' HO_1.out).2.1); rintro e w73 ⟨v329, rfl, ho0, hb⟩; refine ⟨_, rfl, ?_⟩; replace HO_0 := Aside0.mk (Kd.V_elder' (Kd.V_below HO_0.out bgo_) (Kd.R_base ho0) hb); replace HO_1 := Aside0.mk (Kd.V_elder' (Kd.V_below HO_1.out bgo_) (Kd.R_base ho0) hb); have HO330 := Aside0.mk (Kd.R_lower (Kd.R_new' (Kd.R_new' (Kd.R_newM (M := fun k_ => (w.heap.size ≤ k_)) ho0 (below_size hb_) (fun k_ h_ => h_)) (Kd.R_lt (Kd.R_below HO_6.out bgo_))) (Kd.R_lt (Kd.R_below HO326.out bgo_))) (below_size hb_)); replace HO_6 := Aside0.mk (Kd.R_elder' (Kd.R_below HO_6.out bgo_) (Kd.R_base ho0) hb); replace HO326 := Aside0.mk (Kd.R_elder' (Kd.R_below HO326.out bgo_) (Kd.R_base ho0) hb); replace HB := Aside0.mk (below_step hb_ hb); (try clear hb); (try clear hb2); (try clear hk); (try clear hi); (try clear ho0); obtain ⟨Ao74, co74, eo74⟩ := Kd.R_slice HO330.out; subst eo74) | ((with_reducible refine gate_callee (f := 116) rfl ?_); refine goesL_ (some 102) rfl rfl Try.func116 (by kernel_rfl) rfl #[.slice Ao74 t327.length co74, .slice A0 l0.length c0] rfl arg_ ?_; (with_reducible refine (slices_Equal_int64_int64.calls kj57 _ _ t327 _ _ l0 false _ ?side1 ?side2 ?side3 ?side4 A63.out).mono ?_); (case side1 => exact Kd.C_below (Kd.R_reads' HO330.out).2.2 bgo_); (case side2 => exact (Kd.R_reads' HO330.out).2.1); (case side3 => exact Kd.C_below (Kd.V_reads' HO_0.out).2.2 bgo_); (case side4 => exact (Kd.V_reads' HO_0.out).2.1); rintro e w' ⟨rfl, ⟨nd, rfl⟩⟩; refine ⟨_, rfl, ?_⟩))
          go_ret2
          exact ⟨_, by first | rfl | (simp [errW_none, errW_some] <;> rfl) | (simp only [← hji35]; first | rfl | (simp [errW_none, errW_some] <;> rfl)) | (simp [*, errW_none, errW_some] <;> rfl), by first | exact Kd.R_nil _ _ _ _ _ | exact Kd.N_nil _ _ _ _ _ | exact Kd.V_nil _ _ _ _ _ | exact Kd.Q_nil _ _ _ _ _ | exact Kd.S_nil _ _ _ _ _, hb_⟩
        ·replace c62 := Bool.eq_false_iff.mpr c62
         subst c62
         have H1 : (some (([] : List Int), 3)) = some (r1, r2) := by rw [if_neg (show ¬ (false = true) by decide)] at H; exact H
         clear H
         have H := H1
         clear H1
         simp only [Option.some.injEq, Prod.mk.injEq] at H
         obtain ⟨rfl, rfl⟩ := H
         obtain ⟨Ao75, co75, eo75⟩ := Kd.R_slice HO_6.out
         subst eo75
         go_wp2_with (first | ((with_reducible refine gate_callee (f := 170) rfl ?_); refine goesL_ (some 89) rfl rfl Try.func170 (by kernel_rfl) rfl #[.slice Ao75 x6_57.length co75] rfl arg_ ?_; (with_reducible refine (impl_trimmed.calls kj57 (fun k_ => some k_ = (.slice Ao75 x6_57.length co75 : Value).ownBlock) _ _ x6_57 t324 _ ?side1 A60.out).mono ?_); (case side1 => exact Kd.R_V (Kd.R_tight rfl (HO_6.out))); rintro e w76 ⟨v325, rfl, ho0, hb⟩; refine ⟨_, rfl, ?_⟩; replace HO_0 := Aside0.mk (Kd.V_elder' (Kd.V_below HO_0.out bgo_) (Kd.R_base ho0) hb); replace HO_1 := Aside0.mk (Kd.V_elder' (Kd.V_below HO_1.out bgo_) (Kd.R_base ho0) hb); have HO326 := Aside0.mk (Kd.R_lower (Kd.R_new' (Kd.R_newM (M := fun k_ => (w.heap.size ≤ k_)) (Kd.R_mono (ok' := fun k_ => True) ho0 (fun _ hk_ => trivial)) (below_size hb_) (fun k_ h_ => h_)) (Kd.R_lt (Kd.R_below HO_6.out bgo_))) (below_size hb_)); replace HO_6 := Aside0.mk (Kd.R_elder' (Kd.R_below HO_6.out bgo_) (Kd.R_base ho0) hb); replace HB := Aside0.mk (below_step hb_ hb); (try clear hb); (try clear hb2); (try clear hk); (try clear hi); (try clear ho0); obtain ⟨Ao77, co77, eo77⟩ := Kd.R_slice HO326.out; subst eo77) | ((with_reducible refine gate_callee (f := 164) rfl ?_); refine goesL_ (some 93) rfl rfl Try.func164 (by kernel_rfl) rfl #[.slice Ao77 t324.length co77, .slice A1 l1.length c1] rfl arg_ ?_; (with_reducible refine (impl_multiply.calls kj57 _ _ t324 _ _ l1 t327 false _ ?side1 ?side2 ?side3 ?side4 A61.out).mono ?_); (case side1 => exact Kd.C_below (Kd.R_reads' HO326.out).2.2 bgo_); (case side2 => exact (Kd.R_reads' HO326.out).2.1); (case side3 => exact Kd.C_below (Kd.V_reads' HO_1.out).2.2 bgo_); (case side4 => exact (Kd.V_reads' HO_1.out).2.1); rintro e w78 ⟨v329, rfl, ho0, hb⟩; refine ⟨_, rfl, ?_⟩; replace HO_0 := Aside0.mk (Kd.V_elder' (Kd.V_below HO_0.out bgo_) (Kd.R_base ho0) hb); replace HO_1 := Aside0.mk (Kd.V_elder' (Kd.V_below HO_1.out bgo_) (Kd.R_base ho0) hb); have HO330 := Aside0.mk (Kd.R_lower (Kd.R_new' (Kd.R_new' (Kd.R_newM (M := fun k_ => (w.heap.size ≤ k_)) ho0 (below_size hb_) (fun k_ h_ => h_)) (Kd.R_lt (Kd.R_below HO_6.out bgo_))) (Kd.R_lt (Kd.R_below HO326.out bgo_))) (below_size hb_)); replace HO_6 := Aside0.mk (Kd.R_elder' (Kd.R_below HO_6.out bgo_) (Kd.R_base ho0) hb); replace HO326 := Aside0.mk (Kd.R_elder' (Kd.R_below HO326.out bgo_) (Kd.R_base ho0) hb); replace HB := Aside0.mk (below_step hb_ hb); (try clear hb); (try clear hb2); (try clear hk); (try clear hi); (try clear ho0)))
         go_ret2
         exact ⟨_, by first | rfl | (simp [errW_none, errW_some] <;> rfl) | (simp only [← hji35]; first | rfl | (simp [errW_none, errW_some] <;> rfl)) | (simp [*, errW_none, errW_some] <;> rfl), by first | exact Kd.R_nil _ _ _ _ _ | exact Kd.N_nil _ _ _ _ _ | exact Kd.V_nil _ _ _ _ _ | exact Kd.Q_nil _ _ _ _ _ | exact Kd.S_nil _ _ _ _ _, hb_⟩

/-! ### spec_l01Times: function 172 -/
mutual
def spec_l01Times.j0 : Nat → List Int → List Int → Bool → Option (List Int)
 | 0, _, _, _ => none
 | k + 1, x0, x1, x15 => if x15 = true then (some (([] : List Int))) else (if 0 ≤ (wrap64 ((wrap64 ((x0.length : Int) + (x1.length : Int))) - 1)) then (if (wrap64 ((wrap64 ((x0.length : Int) + (x1.length : Int))) - 1) : Int).toNat ≤ 35184372088832 then (spec_l01Times.l0 k x0 x1 (List.replicate (wrap64 ((wrap64 ((x0.length : Int) + (x1.length : Int))) - 1) : Int).toNat 0) 0) else (none)) else (none))
def spec_l01Times.l0 : Nat → List Int → List Int → List Int → Int → Option (List Int)
 | 0, _, _, _, _ => none
 | k + 1, x0, x1, x5, x6 => if x6 < (x0.length : Int) then (spec_l01Times.l1 k x0 x1 x5 x6 0) else ((spec_l01Trim.f k x5).bind fun t338 => (some t338))
def spec_l01Times.l1 : Nat → List Int → List Int → List Int → Int → Int → Option (List Int)
 | 0, _, _, _, _, _ => none
 | k + 1, x0, x1, x5, x6, x7 => if x7 < (x1.length : Int) then (if 0 ≤ (wrap64 (x6 + x7)) then (if (wrap64 (x6 + x7)) < (x5.length : Int) then (if 0 ≤ x6 then (if x6 < (x0.length : Int) then (if 0 ≤ x7 then (spec_l01Times.l1 k x0 x1 (x5.set ((wrap64 (x6 + x7)) : Int).toNat (wrap64 ((rd x5 (wrap64 (x6 + x7))) + (wrap64 ((rd x0 x6) * (rd x1 x7)))))) x6 (wrap64 (x7 + 1))) else (none)) else (none)) else (none)) else (none)) else (none)) else (spec_l01Times.l0 k x0 x1 x5 (wrap64 (x6 + 1)))
end
def spec_l01Times.f (k : Nat) (l0 : List Int) (l1 : List Int) : Option (List Int) := if (l0.length : Int) = 0 then (spec_l01Times.j0 k l0 l1 true) else (spec_l01Times.j0 k l0 l1 ((l1.length : Int) == 0))
def spec_l01Times.T10 : Bool × List (List Nat × List Nat) := (true, [([], []), ([], []), ([], []), ([1, 2], [1, 2]), ([], []), ([], []), ([], []), ([5, 6], [5, 6]), ([4, 7], [4, 7]), ([8], [8]), ([], []), ([], []), ([10, 11], [10, 11]), ([12], [12]), ([], []), ([], []), ([14, 15], [14, 15]), ([16], [16]), ([13, 17], [13, 17]), ([9, 18], [9, 18]), ([0, 3, 0, 1, 2, 3, 4, 5, 6, 7, 8, 9, 10, 11, 12, 13, 14, 15, 16, 17, 18, 19], [0, 3]), ([20, 19, 0, 1, 2, 3, 4, 5, 6, 7, 8, 9, 10, 11, 12, 13, 14, 15, 16, 17, 18, 19], [19, 20])])
def spec_l01Times.B10 : List Nat := [0, 0, 0, 6, 0, 0, 0, 96, 240, 496, 0, 0, 3072, 7168, 0, 0, 49152, 114688, 261120, 524272, 1048575, 2097151]
theorem spec_l01Times.tab10 : rtab .any (opsOf Try.f172 10) = spec_l01Times.T10 := by kernel_rfl
theorem spec_l01Times.bits10 : waitsOk spec_l01Times.T10.2 spec_l01Times.B10 = true := by kernel_rfl
set_option maxHeartbeats 8000000 in
set_option maxRecDepth 100000 in
theorem spec_l01Times.calls (k : Nat) (A0 : Option Addr) (c0 : Nat) (l0 : List Int) (A1 : Option Addr) (c1 : Nat) (l1 : List Int) (r : List Int) (w : World) (hr0 : Kd.C (Kd.int .i64) w A0 l0.length l0) (hc0 : l0.length ≤ c0) (hr1 : Kd.C (Kd.int .i64) w A1 l1.length l1) (hc1 : l1.length ≤ c1) (h : spec_l01Times.f k l0 l1 = some r) :
  Calls Try.prog 172 #[.slice A0 l0.length c0, .slice A1 l1.length c1] w fun e w' => ∃ v0_ : Value, e = .returned (v0_) ∧ Kd.R (Kd.int .i64) 2 w' w.heap.size (fun _ => True) v0_ r ∧ Below w.heap.size w w' := by
 have HR0 := Aside0.mk hr0
 have HC0 := Aside0.mk hc0
 clear hr0 hc0
 have HR1 := Aside0.mk hr1
 have HC1 := Aside0.mk hc1
 clear hr1 hc1
 have HB := Aside0.mk (Below.refl w.heap.size w)
 have H : (if (l0.length : Int) = 0 then (spec_l01Times.j0 k l0 l1 true) else (spec_l01Times.j0 k l0 l1 ((l1.length : Int) == 0))) = some r := h
 clear h
 have HC3 := Aside0.mk H
 clear H
 go_enter Try.func172, Try.ntmps172
 go_upto_region 1 with (fail)
 go_cut [15] (fun v15 wc => ∃ (kq : Nat) (x15_2 : Bool), v15 = .bool x15_2 ∧ Aside0 (spec_l01Times.j0 kq l0 l1 x15_2 = some r) ∧ Aside0 (kq ≤ k) ∧ Aside0 (Below w.heap.size w wc))
 case first =>
  have H := HC3.out
  clear HC3
  by_cases c4 : (l0.length : Int) = 0
  ·rw [if_pos c4] at H
   have c4b0 : ((l0.length : Int) == 0) = true := beq_iff_eq.mpr c4
   have c4b1 : ((l0.length : Int) != 0) = false := bne_eq_false_iff_eq.mpr c4
   clear c4
   (first | rw [c4b0] | (simp only [i64_w, i32_w]; rw [c4b0]) | skip)
   have H' := Aside0.mk H
   clear H
   go_wp2
   go_meet
   case rel => exact ⟨_, (true), es_, H', ⟨by first | omega | exact Nat.le_refl _⟩, ⟨hb_⟩⟩
  ·rw [if_neg c4] at H
   have c4b0 : ((l0.length : Int) == 0) = false := beq_eq_false_iff_ne.mpr c4
   have c4b1 : ((l0.length : Int) != 0) = true := bne_iff_ne.mpr c4
   have c4b2 : ¬ (l0 = []) := fun h_ => c4 (by rw [h_]; rfl)
   (first | rw [c4b0] | (simp only [i64_w, i32_w]; rw [c4b0]) | skip)
   have H' := Aside0.mk H
   clear H
   go_wp2
   go_meet
   case rel => exact ⟨_, (((l1.length : Int) == 0)), es_, H', ⟨by first | omega | exact Nat.le_refl _⟩, ⟨hb_⟩⟩
 case rest =>
  clear HC3
  obtain ⟨kq, x15_2, rfl, HA, HJ2, HB⟩ := hcut
  cases kq with
  | zero => exact absurd HA.out (by simp [spec_l01Times.j0])
  | succ kj2 =>
   have H := HA.out
   clear HA
   simp only [spec_l01Times.j0] at H
   by_cases c5 : x15_2 = true
   ·subst c5
    have H1 : (some (([] : List Int))) = some r := by rw [if_pos rfl] at H; exact H
    clear H
    have H := H1
    clear H1
    obtain ⟨y332, Ny332, H⟩ : ∃ y332 : List Int, Aside0 (y332 = (([] : List Int))) ∧ (some y332) = some r := ⟨_, ⟨rfl⟩, H⟩
    obtain rfl := Option.some.inj H
    go_wp2_with (first | ((with_reducible refine gate_dst (N := 16) rfl ?_); (try (refine gate_guard (by rfl) ?_; dsimp only)); refine Kd.R_lit (Kd.int .i64) _ 2 ?hg (N := 16) ?hd (xs := ([] : List Int)) (inner := []) (ok := fun _ => True) (okp := fun _ => True) ?hr ?hp (fun _ hk => hk) trivial (Below.refl _ _) (Nat.le_refl _) (by simp) ?_; (case hd => rfl); (case hg => rfl); (case hr => first | (go_simp; done) | (go_simp; rfl)); (case hp => exact (Reps.none _ _)); intro v333 w6 ho7 hb hg_ hnew_; clear hg_ hnew_; (first | rw [← Ny332.out] at ho7 | (simp only [Int.reduceToNat] at ho7; rw [← Ny332.out] at ho7)); have HO334 := Aside0.mk (Kd.R_lower ho7 (below_size hb_)); replace HB := Aside0.mk (below_step hb_ hb); clear hb ho7))
    go_ret
    exact ⟨_, er_, (Kd.R_below HO334.out bgo_), hb_⟩
   ·replace c5 := Bool.eq_false_iff.mpr c5
    subst c5
    have H1 : (if 0 ≤ (wrap64 ((wrap64 ((l0.length : Int) + (l1.length : Int))) - 1)) then (if (wrap64 ((wrap64 ((l0.length : Int) + (l1.length : Int))) - 1) : Int).toNat ≤ 35184372088832 then (spec_l01Times.l0 kj2 l0 l1 (List.replicate (wrap64 ((wrap64 ((l0.length : Int) + (l1.length : Int))) - 1) : Int).toNat 0) 0) else (none)) else (none)) = some r := by rw [if_neg (show ¬ (false = true) by decide)] at H; exact H
    clear H
    have H := H1
    clear H1
    obtain ⟨ji8, hji8⟩ : ∃ j_ : Int, (wrap64 ((wrap64 ((l0.length : Int) + (l1.length : Int))) - 1)) = j_ := ⟨_, rfl⟩
    (try rw [hji8])
    replace H : (if 0 ≤ (ji8) then (if (ji8 : Int).toNat ≤ 35184372088832 then (spec_l01Times.l0 kj2 l0 l1 (List.replicate (ji8 : Int).toNat 0) 0) else (none)) else (none)) = some r := by first | (rw [hji8] at H; exact H) | (simp only [hji8] at H ⊢; exact H)
    have hji8w : (IntKind.i64.wrap ((wrap64 ((l0.length : Int) + (l1.length : Int))) - 1)) = ji8 := (i64_w _).trans hji8
    by_cases c9 : 0 ≤ (ji8)
    ·rw [if_pos c9] at H
     have c9b0 := eq_true c9
     have c9b1 := decide_eq_true c9
     clear c9
     obtain ⟨c10, H⟩ := itn_ H
     have c10b0 := eq_true c10
     have c10b1 := decide_eq_true c10
     clear c10
     obtain ⟨y335, Ny335, H⟩ : ∃ y335 : List Int, Aside0 (y335 = (List.replicate (ji8 : Int).toNat 0)) ∧ (spec_l01Times.l0 kj2 l0 l1 y335 0) = some r := ⟨_, ⟨rfl⟩, H⟩
     have H' := Aside0.mk H
     clear H
     go_wp2_with (first | ((with_reducible refine gate_dst (N := 23) rfl ?_); (try (refine gate_guard (by rfl) ?_; dsimp only)); refine Kd.R_make (Kd.int .i64) _ 2 rfl (N := 23) rfl 29 _ _ rfl ji8 rfl rfl Try.underlying29 (.int .i64 0) 8 info2 rfl (by decide) (by omega) 0 (ok := fun _ => True) (okp := fun _ => True) rfl (fun _ hk => hk) trivial (od_) (Nat.le_trans (Nat.mul_le_mul_right _ (od_ : ji8.toNat ≤ 35184372088832)) (by omega)) (Below.refl _ _) (Nat.le_refl _) ?_; intro v336 w11 ho12 hb hg_ hnew_; clear hg_ hnew_; (first | rw [← Ny335.out] at ho12 | (simp only [Int.reduceToNat] at ho12; rw [← Ny335.out] at ho12)); have HO337 := Aside0.mk (Kd.R_lower ho12 (below_size hb_)); replace HB := Aside0.mk (below_step hb_ hb); clear hb ho12))
     go_loopg [6] kj2 (fun kq v6 w' => ∃ (x5_2 : List Int) (x6_2 : Int), v6 = .int .i64 x6_2 ∧ Aside0 (spec_l01Times.l0 kq l0 l1 x5_2 x6_2 = some r) ∧ Aside0 (kq ≤ kj2) ∧ Aside0 (Kd.R (Kd.int .i64) 2 w' w.heap.size (fun _ => True) v336 x5_2) ∧ Aside0 (Below w.heap.size w w'))
     case atStart => exact ⟨(y335), (0), es_, H', ⟨Nat.le_refl _⟩, ⟨Kd.R_below HO337.out bgo_⟩, ⟨hb_⟩⟩
     case round =>
      clear H'
      obtain ⟨x5_2, x6_2, rfl, HA, HK2, HO_5, HB⟩ := hrel
      cases gk with
      | zero => exact absurd HA.out (by simp [spec_l01Times.l0])
      | succ k2 =>
       have H := HA.out
       clear HA
       simp only [spec_l01Times.l0] at H
       by_cases c13 : x6_2 < (l0.length : Int)
       ·rw [if_pos c13] at H
        have c13b0 := decide_eq_true c13
        clear c13
        have H' := Aside0.mk H
        clear H
        go_wp2
        go_loopg [7] k2 (fun kq v7 w' => ∃ (x5_3 : List Int) (x7_3 : Int), v7 = .int .i64 x7_3 ∧ Aside0 (spec_l01Times.l1 kq l0 l1 x5_3 x6_2 x7_3 = some r) ∧ Aside0 (kq ≤ k2) ∧ Aside0 (Kd.R (Kd.int .i64) 2 w' w.heap.size (fun _ => True) v336 x5_3) ∧ Aside0 (Below w.heap.size w w'))
        case atStart => exact ⟨(x5_2), (0), es_, H', ⟨Nat.le_refl _⟩, ⟨Kd.R_below HO_5.out bgo_⟩, ⟨hb_⟩⟩
        case round =>
         clear H'
         obtain ⟨x5_3, x7_3, rfl, HA, HK3, HO_5, HB⟩ := hrel
         cases gk with
         | zero => exact absurd HA.out (by simp [spec_l01Times.l1])
         | succ k3 =>
          have H := HA.out
          clear HA
          simp only [spec_l01Times.l1] at H
          by_cases c14 : x7_3 < (l1.length : Int)
          ·rw [if_pos c14] at H
           have c14b0 := decide_eq_true c14
           clear c14
           obtain ⟨ji15, hji15⟩ : ∃ j_ : Int, (wrap64 (x6_2 + x7_3)) = j_ := ⟨_, rfl⟩
           (try rw [hji15])
           replace H : (if 0 ≤ (ji15) then (if (ji15) < (x5_3.length : Int) then (if 0 ≤ x6_2 then (if x6_2 < (l0.length : Int) then (if 0 ≤ x7_3 then (spec_l01Times.l1 k3 l0 l1 (x5_3.set ((ji15) : Int).toNat (wrap64 ((rd x5_3 (ji15)) + (wrap64 ((rd l0 x6_2) * (rd l1 x7_3)))))) x6_2 (wrap64 (x7_3 + 1))) else (none)) else (none)) else (none)) else (none)) else (none)) = some r := by first | (rw [hji15] at H; exact H) | (simp only [hji15] at H ⊢; exact H)
           have hji15w : (IntKind.i64.wrap (x6_2 + x7_3)) = ji15 := (i64_w _).trans hji15
           obtain ⟨c16, H⟩ := itn_ H
           have c16b0 := decide_eq_true c16
           clear c16
           obtain ⟨c17, H⟩ := itn_ H
           have c17b0 := decide_eq_true c17
           clear c17
           obtain ⟨c18, H⟩ := itn_ H
           have c18b0 := decide_eq_true c18
           clear c18
           obtain ⟨c19, H⟩ := itn_ H
           have c19b0 := decide_eq_true c19
           clear c19
           obtain ⟨c20, H⟩ := itn_ H
           have c20b0 := decide_eq_true c20
           clear c20
           obtain ⟨y344, Ny344, H⟩ : ∃ y344 : List Int, Aside0 (y344 = (x5_3.set ((ji15) : Int).toNat (wrap64 ((rd x5_3 (ji15)) + (wrap64 ((rd l0 x6_2) * (rd l1 x7_3))))))) ∧ (spec_l01Times.l1 k3 l0 l1 y344 x6_2 (wrap64 (x7_3 + 1))) = some r := ⟨_, ⟨rfl⟩, H⟩
           have H' := Aside0.mk H
           clear H
           try go_wp2
           have n0_ := Aside0.mk (Kd.R_drew HO_5.out)
           have n1_ := Aside0.mk (below_drew1 HB.out)
           clear HO_5
           clear HB
           have HO_5 := n0_
           have HB := n1_
           clear n0_ n1_
           obtain ⟨Ao23, co23, eo23⟩ := Kd.R_slice HO_5.out
           (first | subst eo23 | (injection eo23 with f1_ f2_ f3_; have f4_ := f1_.symm; have f5_ := f3_.symm; clear f1_ f2_ f3_; subst f4_; subst f5_))
           have p341 : 0 ≤ ((ji15) : Int) := od_
           have q341 : (ji15) < (x5_3.length : Int) := od_
           obtain ⟨ad341, e341, hx341_0⟩ := Kd.at_int (Kd.R_reads' HO_5.out).2.2 (ji15) p341 q341
           cases e341
           replace p341 := eq_true p341
           replace q341 := eq_true q341
           have p342 : 0 ≤ (x6_2 : Int) := od_
           have q342 : x6_2 < (l0.length : Int) := od_
           obtain ⟨ad342, e342, hx342_0⟩ := Kd.at_int HR0.out x6_2 p342 q342
           have hw342_0 := hx342_0
           cases e342
           (try replace hx342_0 := (HB.out.cell (World.block_lt_of_cell? w _ hx342_0)).trans hx342_0)
           replace p342 := eq_true p342
           replace q342 := eq_true q342
           have p343 : 0 ≤ (x7_3 : Int) := od_
           have q343 : x7_3 < (l1.length : Int) := od_
           obtain ⟨ad343, e343, hx343_0⟩ := Kd.at_int HR1.out x7_3 p343 q343
           have hw343_0 := hx343_0
           cases e343
           (try replace hx343_0 := (HB.out.cell (World.block_lt_of_cell? w _ hx343_0)).trans hx343_0)
           replace p343 := eq_true p343
           replace q343 := eq_true q343
           have p21 : 0 ≤ ((ji15) : Int) := od_
           have q21 : ((ji15) : Int) < ((x5_3.length : Int) : Int) := od_
           obtain ⟨go21, co21, eo21, gb21, gl21, cl21, HG21⟩ := Kd.R_form HO_5.out (by omega)
           (first | cases eo21 | (injection eo21 with ea_ en_ ec_; (first | subst ea_ | (injection ea_ with ea_; subst ea_)); subst ec_; clear en_))
           have GB21 := Aside0.mk gb21
           have GG21 := Aside0.mk HG21
           clear gb21 gl21 HG21
           (first | simp only [add_plain] at hx341_0 | skip)
           obtain ⟨hx21_0, hf21_0⟩ := Kd.R_celln 0 HO_5.out ((ji15) : Int) p21 q21
           replace p21 := eq_true p21
           replace q21 := eq_true q21
           have HP24 := Kd.R_putn HO_5.out ((ji15) : Int) (wrap64 ((rd x5_3 (ji15)) + (wrap64 ((rd l0 x6_2) * (rd l1 x7_3)))))
           rw [← Ny344.out] at HP24
           have HQ24 := Aside0.mk HP24
           clear HP24
           refine start_ (n := 22) (S := fun w' => w'.cell? ⟨go21, ((ji15)).toNat, none⟩ = some (.int .i64 (rd x5_3 (ji15))) ∧ w'.cell? (ad342.add (x6_2).toNat) = some (.int .i64 (rd l0 x6_2)) ∧ w'.cell? (ad343.add (x7_3).toNat) = some (.int .i64 (rd l1 x7_3))) (ds := [21]) #[false, false, false, false, false, false, false, false, false, false, false, false, false, false, false, false, false, false, false, false, false, false] (by kernel_rfl) rfl rfl ⟨hx341_0, ((HB.out.cell (World.block_lt_of_cell? _ _ hw342_0)).trans hw342_0), ((HB.out.cell (World.block_lt_of_cell? _ _ hw343_0)).trans hw343_0)⟩ (fun hHeld => ?_); refine with_tabW spec_l01Times.tab10 spec_l01Times.bits10 (fun HT_ HW_ => ?_)
           generalize wr.drew = w22 at HO_5 HB GG21 HQ24 hf21_0 hx21_0 hx341_0 hx342_0 hx343_0 hHeld ⊢
           refine pk_ 0 22 36 1 ?_
           refine pk_ 1 22 37 3 ?_
           refine pk_ 2 22 38 7 ?_
           refine pk_ 3 22 39 15 ?_
           refine pk_ 4 22 40 31 ?_
           refine pk_ 5 22 41 63 ?_
           refine pk_ 6 22 42 127 ?_
           refine pk_ 7 22 43 255 ?_
           refine pk_ 8 22 44 511 ?_
           refine pk_ 10 22 46 1535 ?_
           refine pk_ 11 22 47 3583 ?_
           refine pk_ 12 22 48 7679 ?_
           refine pk_ 14 22 50 24063 ?_
           refine pk_ 15 22 51 56831 ?_
           refine pk_ 16 22 52 122367 ?_
           refine tk_ 9 22 45 122879 hHeld ?_
           refine tk_ 13 22 49 131071 hHeld ?_
           refine tk_ 17 22 53 262143 hHeld ?_
           refine pk_ 18 22 54 524287 ?_
           refine pk_ 19 22 55 1048575 ?_
           refine pk_ 20 22 56 2097151 ?_
           refine last_ (i := 21) (N := none) #[true, true, true, true, true, true, true, true, true, true, true, true, true, true, true, true, true, true, true, true, true, true] rfl rfl (one_of HT_.out (by kernel_rfl)) (by decide) (fun K hK => ?_)
           refine skip_ (w1 := ?_) (by rfl) rfl ?_ ?_
           rotate_left
           ·go_simp
            rfl
           refine hK.out _ _ ?_
           clear hK K
           refine done_ (done_of HT_.out (by kernel_rfl)) ?_
           try go_wp2
           first | (first | go_roundg k3 | (refine Handed.intro k3 ?measure ?_; rotate_left; go_step; (try simp only [add_plain]); (repeat apply Exists.intro); refine ⟨?rel, rfl⟩)) | ((try subst hji15); (try subst hji8); (first | go_roundg k3 | (refine Handed.intro k3 ?measure ?_; rotate_left; go_step; (try simp only [add_plain]); (repeat apply Exists.intro); refine ⟨?rel, rfl⟩)))
           case measure => have := HJ2.out; have := HK2.out; have := HK3.out; omega
           case rel => exact ⟨(y344), (wrap64 (x7_3 + 1)), es_, H', ⟨by have := HJ2.out; have := HK2.out; have := HK3.out; omega⟩, ⟨by (with_reducible repeat (first | apply Kd.R_alloc | apply Kd.R_drewN | apply Kd.R_drew)); exact HQ24.out⟩, ⟨hbs_⟩⟩
          ·rw [if_neg c14] at H
           have c14b0 := decide_eq_false c14
           clear c14
           have H' := Aside0.mk H
           clear H
           go_wp2
           first | (first | go_roundg k3 | (refine Handed.intro k3 ?measure ?_; rotate_left; go_step; (try simp only [add_plain]); (repeat apply Exists.intro); refine ⟨?rel, rfl⟩)) | ((try subst hji8); (first | go_roundg k3 | (refine Handed.intro k3 ?measure ?_; rotate_left; go_step; (try simp only [add_plain]); (repeat apply Exists.intro); refine ⟨?rel, rfl⟩)))
           case measure => have := HJ2.out; have := HK2.out; have := HK3.out; omega
           case rel => exact ⟨(x5_3), (wrap64 (x6_2 + 1)), es_, H', ⟨by have := HJ2.out; have := HK2.out; have := HK3.out; omega⟩, ⟨Kd.R_below HO_5.out bgo_⟩, ⟨hb_⟩⟩
       ·rw [if_neg c13] at H
        have c13b0 := decide_eq_false c13
        clear c13
        obtain ⟨t338, A25, H⟩ := bnd_ H
        obtain rfl := Option.some.inj H
        obtain ⟨Ao26, co26, eo26⟩ := Kd.R_slice HO_5.out
        subst eo26
        go_wp2_with (first | ((with_reducible refine gate_callee (f := 175) rfl ?_); refine goesL_ (some 58) rfl rfl Try.func175 (by kernel_rfl) rfl #[.slice Ao26 x5_2.length co26] rfl arg_ ?_; (with_reducible refine (spec_l01Trim.calls k2 _ _ x5_2 t338 _ ?side1 ?side2 A25.out).mono ?_); (case side1 => exact Kd.C_below (Kd.R_reads' HO_5.out).2.2 bgo_); (case side2 => exact (Kd.R_reads' HO_5.out).2.1); rintro e w27 ⟨v339, rfl, ho0, hb⟩; refine ⟨_, rfl, ?_⟩; have HO340 := Aside0.mk (Kd.R_lower (Kd.R_new' ho0 (Kd.R_lt (Kd.R_below HO_5.out bgo_))) (below_size hb_)); replace HO_5 := Aside0.mk (Kd.R_elder' (Kd.R_below HO_5.out bgo_) (Kd.R_base ho0) hb); replace HB := Aside0.mk (below_step hb_ hb); (try clear hb); (try clear hb2); (try clear hk); (try clear hi); (try clear ho0)))
        go_ret
        exact ⟨_, by first | rfl | (simp [errW_none, errW_some] <;> rfl) | (simp only [← hji8]; first | rfl | (simp [errW_none, errW_some] <;> rfl)) | (simp [*, errW_none, errW_some] <;> rfl), by (with_reducible repeat (first | apply Kd.R_alloc | apply Kd.R_drewN | apply Kd.R_drew)); exact Kd.R_mono HO340.out (fun _ hk => trivial), hb_⟩
    ·rw [if_neg c9] at H
     exact absurd H (by simp)

/-! ### spec_l01Add: function 173 -/
mutual
def spec_l01Add.l0 : Nat → List Int → List Int → Int → List Int → Int → Option (List Int)
 | 0, _, _, _, _, _ => none
 | k + 1, x0, x1, x2, x7, x8 => if x8 < (x0.length : Int) then (if 0 ≤ x8 then (if x8 < (x7.length : Int) then (spec_l01Add.l0 k x0 x1 x2 (x7.set (x8 : Int).toNat (rd x0 x8)) (wrap64 (x8 + 1))) else (none)) else (none)) else (spec_l01Add.l1 k x1 x2 x7 0)
def spec_l01Add.l1 : Nat → List Int → Int → List Int → Int → Option (List Int)
 | 0, _, _, _, _ => none
 | k + 1, x1, x2, x7, x9 => if x9 < (x1.length : Int) then (if 0 ≤ x9 then (if x9 < (x7.length : Int) then (spec_l01Add.l1 k x1 x2 (x7.set (x9 : Int).toNat (wrap64 ((rd x7 x9) + (wrap64 (x2 * (rd x1 x9)))))) (wrap64 (x9 + 1))) else (none)) else (none)) else ((spec_l01Trim.f k x7).bind fun t353 => (some t353))
end
def spec_l01Add.f (k : Nat) (l0 : List Int) (l1 : List Int) (a2 : Int) : Option (List Int) := if 0 ≤ (mx (l0.length : Int) (l1.length : Int)) then (if (mx (l0.length : Int) (l1.length : Int) : Int).toNat ≤ 35184372088832 then (spec_l01Add.l0 k l0 l1 a2 (List.replicate (mx (l0.length : Int) (l1.length : Int) : Int).toNat 0) 0) else (none)) else (none)
def spec_l01Add.T9 : Bool × List (List Nat × List Nat) := (true, [([], []), ([], []), ([], []), ([], []), ([2, 3], [2, 3]), ([4], [4]), ([], []), ([], []), ([], []), ([7, 8], [7, 8]), ([9], [9]), ([6, 10], [6, 10]), ([5, 11], [5, 11]), ([0, 1, 0, 1, 2, 3, 4, 5, 6, 7, 8, 9, 10, 11, 12], [0, 1]), ([13, 12, 0, 1, 2, 3, 4, 5, 6, 7, 8, 9, 10, 11, 12], [12, 13])])
def spec_l01Add.B9 : List Nat := [0, 0, 0, 0, 12, 28, 0, 0, 0, 384, 896, 1984, 4092, 8191, 16383]
theorem spec_l01Add.tab9 : rtab .any (opsOf Try.f173 9) = spec_l01Add.T9 := by kernel_rfl
theorem spec_l01Add.bits9 : waitsOk spec_l01Add.T9.2 spec_l01Add.B9 = true := by kernel_rfl
set_option maxHeartbeats 8000000 in
set_option maxRecDepth 100000 in
theorem spec_l01Add.calls (k : Nat) (A0 : Option Addr) (c0 : Nat) (l0 : List Int) (A1 : Option Addr) (c1 : Nat) (l1 : List Int) (a2 : Int) (r : List Int) (w : World) (hr0 : Kd.C (Kd.int .i64) w A0 l0.length l0) (hc0 : l0.length ≤ c0) (hr1 : Kd.C (Kd.int .i64) w A1 l1.length l1) (hc1 : l1.length ≤ c1) (h : spec_l01Add.f k l0 l1 a2 = some r) :
  Calls Try.prog 173 #[.slice A0 l0.length c0, .slice A1 l1.length c1, .int .i64 a2] w fun e w' => ∃ v0_ : Value, e = .returned (v0_) ∧ Kd.R (Kd.int .i64) 2 w' w.heap.size (fun _ => True) v0_ r ∧ Below w.heap.size w w' := by
 have HR0 := Aside0.mk hr0
 have HC0 := Aside0.mk hc0
 clear hr0 hc0
 have HR1 := Aside0.mk hr1
 have HC1 := Aside0.mk hc1
 clear hr1 hc1
 have HB := Aside0.mk (Below.refl w.heap.size w)
 have H : (if 0 ≤ (mx (l0.length : Int) (l1.length : Int)) then (if (mx (l0.length : Int) (l1.length : Int) : Int).toNat ≤ 35184372088832 then (spec_l01Add.l0 k l0 l1 a2 (List.replicate (mx (l0.length : Int) (l1.length : Int) : Int).toNat 0) 0) else (none)) else (none)) = some r := h
 clear h
 obtain ⟨ji4, hji4⟩ : ∃ j_ : Int, (mx (l0.length : Int) (l1.length : Int)) = j_ := ⟨_, rfl⟩
 (try rw [hji4])
 replace H : (if 0 ≤ (ji4) then (if (ji4 : Int).toNat ≤ 35184372088832 then (spec_l01Add.l0 k l0 l1 a2 (List.replicate (ji4 : Int).toNat 0) 0) else (none)) else (none)) = some r := by first | (rw [hji4] at H; exact H) | (simp only [hji4] at H ⊢; exact H)
 (try (have hji4l : 0 ≤ ji4 := by (rw [← hji4]; unfold mx; (repeat' split) <;> omega)))
 (try (have hji4m : 0 ≤ ji4 := by omega))
 have hji4_ : (if (l0.length : Int) < (l1.length : Int) then (l1.length : Int) else (l0.length : Int)) = ji4 := hji4
 have hji4N : (if l0.length < l1.length then (l1.length : Int) else (l0.length : Int)) = ji4 := by rw [← hji4_]; simp only [Int.ofNat_lt]
 by_cases c5 : 0 ≤ (ji4)
 ·rw [if_pos c5] at H
  have c5b0 := eq_true c5
  have c5b1 := decide_eq_true c5
  clear c5
  obtain ⟨c6, H⟩ := itn_ H
  have c6b0 := eq_true c6
  have c6b1 := decide_eq_true c6
  clear c6
  obtain ⟨y345, Ny345, H⟩ : ∃ y345 : List Int, Aside0 (y345 = (List.replicate (ji4 : Int).toNat 0)) ∧ (spec_l01Add.l0 k l0 l1 a2 y345 0) = some r := ⟨_, ⟨rfl⟩, H⟩
  have H' := Aside0.mk H
  clear H
  go_enter Try.func173, Try.ntmps173
  go_wp2_with (first | ((with_reducible refine gate_dst (N := 15) rfl ?_); refine Kd.R_make (Kd.int .i64) _ 2 rfl (N := 15) rfl 29 _ _ rfl ji4 rfl rfl Try.underlying29 (.int .i64 0) 8 info2 rfl (by decide) (by omega) 0 (ok := fun _ => True) (okp := fun _ => True) rfl (fun _ hk => hk) trivial (od_) (Nat.le_trans (Nat.mul_le_mul_right _ (od_ : ji4.toNat ≤ 35184372088832)) (by omega)) (Below.refl _ _) (Nat.le_refl _) ?_; intro v346 w7 ho8 hb hg_ hnew_; clear hg_ hnew_; (first | rw [← Ny345.out] at ho8 | (simp only [Int.reduceToNat] at ho8; rw [← Ny345.out] at ho8)); have HO347 := Aside0.mk (Kd.R_lower ho8 (below_size hb_)); replace HB := Aside0.mk (below_step hb_ hb); clear hb ho8))
  go_loopg [8] k (fun kq v8 w' => ∃ (x7_1 : List Int) (x8_1 : Int), v8 = .int .i64 x8_1 ∧ Aside0 (spec_l01Add.l0 kq l0 l1 a2 x7_1 x8_1 = some r) ∧ Aside0 (kq ≤ k) ∧ Aside0 (Kd.R (Kd.int .i64) 2 w' w.heap.size (fun _ => True) v346 x7_1) ∧ Aside0 (Below w.heap.size w w'))
  case atStart => exact ⟨(y345), (0), es_, H', ⟨Nat.le_refl _⟩, ⟨Kd.R_below HO347.out bgo_⟩, ⟨hb_⟩⟩
  case round =>
   clear H'
   obtain ⟨x7_1, x8_1, rfl, HA, HK1, HO_7, HB⟩ := hrel
   cases gk with
   | zero => exact absurd HA.out (by simp [spec_l01Add.l0])
   | succ k1 =>
    have H := HA.out
    clear HA
    simp only [spec_l01Add.l0] at H
    by_cases c9 : x8_1 < (l0.length : Int)
    ·rw [if_pos c9] at H
     have c9b0 := decide_eq_true c9
     clear c9
     obtain ⟨c10, H⟩ := itn_ H
     have c10b0 := decide_eq_true c10
     clear c10
     obtain ⟨c11, H⟩ := itn_ H
     have c11b0 := decide_eq_true c11
     clear c11
     obtain ⟨y349, Ny349, H⟩ : ∃ y349 : List Int, Aside0 (y349 = (x7_1.set (x8_1 : Int).toNat (rd l0 x8_1))) ∧ (spec_l01Add.l0 k1 l0 l1 a2 y349 (wrap64 (x8_1 + 1))) = some r := ⟨_, ⟨rfl⟩, H⟩
     have H' := Aside0.mk H
     clear H
     have p348 : 0 ≤ (x8_1 : Int) := od_
     have q348 : x8_1 < (l0.length : Int) := od_
     obtain ⟨ad348, e348, hx348_0⟩ := Kd.at_int HR0.out x8_1 p348 q348
     cases e348
     (try replace hx348_0 := (HB.out.cell (World.block_lt_of_cell? w _ hx348_0)).trans hx348_0)
     replace p348 := eq_true p348
     replace q348 := eq_true q348
     have p12 : 0 ≤ (x8_1 : Int) := od_
     have q12 : (x8_1 : Int) < ((x7_1.length : Int) : Int) := od_
     obtain ⟨go12, co12, eo12, gb12, gl12, cl12, HG12⟩ := Kd.R_form HO_7.out (by omega)
     (first | cases eo12 | (injection eo12 with ea_ en_ ec_; (first | subst ea_ | (injection ea_ with ea_; subst ea_)); subst ec_; clear en_))
     have GB12 := Aside0.mk gb12
     have GG12 := Aside0.mk HG12
     clear gb12 gl12 HG12
     obtain ⟨hx12_0, hf12_0⟩ := Kd.R_celln 0 HO_7.out (x8_1 : Int) p12 q12
     replace p12 := eq_true p12
     replace q12 := eq_true q12
     have HP13 := Kd.R_putg HO_7.out (x8_1 : Int) (rd l0 x8_1)
     go_wp2_with (first | ((with_reducible refine gate_store (t := 2) (p := 28) rfl ?_); refine store_event (t := 2) (p := 28) (v := ?vo_w14) (w1 := (wr.setCell ⟨go12, (x8_1 : Int).toNat, none⟩ (.int .i64 (rd l0 x8_1)))) ?hg ?ho ?hn ?hr ?_; (case ho => rfl); (case hg => rfl); (case hn => rfl); (case hr => first | (go_simp; done) | (go_simp; rfl)); intro w14 hw; have hg : wr.grownBy w14 (some go12) := (by rw [hw]; exact HP13.2); have hp_ : Kd.R (Kd.int .i64) 2 w14 w.heap.size (fun _ => True) (.slice (some ⟨go12, 0, none⟩) x7_1.length co12) y349 := (by rw [hw, Ny349.out]; exact HP13.1); clear HP13; replace HO_7 := Aside0.mk (hp_); replace HB := Aside0.mk ((by rw [hw]; exact below_set (HB.out) GB12.out : Below w.heap.size w w14)); clear hg hw hp_))
     first | (first | go_roundg k1 | (refine Handed.intro k1 ?measure ?_; rotate_left; go_step; (try simp only [add_plain]); (repeat apply Exists.intro); refine ⟨?rel, rfl⟩)) | ((try subst hji4); (first | go_roundg k1 | (refine Handed.intro k1 ?measure ?_; rotate_left; go_step; (try simp only [add_plain]); (repeat apply Exists.intro); refine ⟨?rel, rfl⟩)))
     case measure => have := HK1.out; omega
     case rel => exact ⟨(y349), (wrap64 (x8_1 + 1)), es_, H', ⟨by have := HK1.out; omega⟩, ⟨Kd.R_below HO_7.out bgo_⟩, ⟨hb_⟩⟩
    ·rw [if_neg c9] at H
     have c9b0 := decide_eq_false c9
     clear c9
     have H' := Aside0.mk H
     clear H
     go_wp2
     go_loopg [9] k1 (fun kq v9 w' => ∃ (x7_2 : List Int) (x9_2 : Int), v9 = .int .i64 x9_2 ∧ Aside0 (spec_l01Add.l1 kq l1 a2 x7_2 x9_2 = some r) ∧ Aside0 (kq ≤ k1) ∧ Aside0 (Kd.R (Kd.int .i64) 2 w' w.heap.size (fun _ => True) v346 x7_2) ∧ Aside0 (Below w.heap.size w w'))
     case atStart => exact ⟨(x7_1), (0), es_, H', ⟨Nat.le_refl _⟩, ⟨Kd.R_below HO_7.out bgo_⟩, ⟨hb_⟩⟩
     case round =>
      clear H'
      obtain ⟨x7_2, x9_2, rfl, HA, HK2, HO_7, HB⟩ := hrel
      cases gk with
      | zero => exact absurd HA.out (by simp [spec_l01Add.l1])
      | succ k2 =>
       have H := HA.out
       clear HA
       simp only [spec_l01Add.l1] at H
       by_cases c15 : x9_2 < (l1.length : Int)
       ·rw [if_pos c15] at H
        have c15b0 := decide_eq_true c15
        clear c15
        obtain ⟨c16, H⟩ := itn_ H
        have c16b0 := decide_eq_true c16
        clear c16
        obtain ⟨c17, H⟩ := itn_ H
        have c17b0 := decide_eq_true c17
        clear c17
        obtain ⟨y352, Ny352, H⟩ : ∃ y352 : List Int, Aside0 (y352 = (x7_2.set (x9_2 : Int).toNat (wrap64 ((rd x7_2 x9_2) + (wrap64 (a2 * (rd l1 x9_2))))))) ∧ (spec_l01Add.l1 k2 l1 a2 y352 (wrap64 (x9_2 + 1))) = some r := ⟨_, ⟨rfl⟩, H⟩
        have H' := Aside0.mk H
        clear H
        try go_wp2
        have n0_ := Aside0.mk (Kd.R_drew HO_7.out)
        have n1_ := Aside0.mk (below_drew1 HB.out)
        clear HO_7
        clear HB
        have HO_7 := n0_
        have HB := n1_
        clear n0_ n1_
        obtain ⟨Ao20, co20, eo20⟩ := Kd.R_slice HO_7.out
        (first | subst eo20 | (injection eo20 with f1_ f2_ f3_; have f4_ := f1_.symm; have f5_ := f3_.symm; clear f1_ f2_ f3_; subst f4_; subst f5_))
        have p350 : 0 ≤ (x9_2 : Int) := od_
        have q350 : x9_2 < (x7_2.length : Int) := od_
        obtain ⟨ad350, e350, hx350_0⟩ := Kd.at_int (Kd.R_reads' HO_7.out).2.2 x9_2 p350 q350
        cases e350
        replace p350 := eq_true p350
        replace q350 := eq_true q350
        have p351 : 0 ≤ (x9_2 : Int) := od_
        have q351 : x9_2 < (l1.length : Int) := od_
        obtain ⟨ad351, e351, hx351_0⟩ := Kd.at_int HR1.out x9_2 p351 q351
        have hw351_0 := hx351_0
        cases e351
        (try replace hx351_0 := (HB.out.cell (World.block_lt_of_cell? w _ hx351_0)).trans hx351_0)
        replace p351 := eq_true p351
        replace q351 := eq_true q351
        have p18 : 0 ≤ (x9_2 : Int) := od_
        have q18 : (x9_2 : Int) < ((x7_2.length : Int) : Int) := od_
        obtain ⟨go18, co18, eo18, gb18, gl18, cl18, HG18⟩ := Kd.R_form HO_7.out (by omega)
        (first | cases eo18 | (injection eo18 with ea_ en_ ec_; (first | subst ea_ | (injection ea_ with ea_; subst ea_)); subst ec_; clear en_))
        have GB18 := Aside0.mk gb18
        have GG18 := Aside0.mk HG18
        clear gb18 gl18 HG18
        (first | simp only [add_plain] at hx350_0 | skip)
        obtain ⟨hx18_0, hf18_0⟩ := Kd.R_celln 0 HO_7.out (x9_2 : Int) p18 q18
        replace p18 := eq_true p18
        replace q18 := eq_true q18
        have HP21 := Kd.R_putn HO_7.out (x9_2 : Int) (wrap64 ((rd x7_2 x9_2) + (wrap64 (a2 * (rd l1 x9_2)))))
        rw [← Ny352.out] at HP21
        have HQ21 := Aside0.mk HP21
        clear HP21
        refine start_ (n := 15) (S := fun w' => w'.cell? ⟨go18, (x9_2).toNat, none⟩ = some (.int .i64 (rd x7_2 x9_2)) ∧ w'.cell? (ad351.add (x9_2).toNat) = some (.int .i64 (rd l1 x9_2))) (ds := [14]) #[false, false, false, false, false, false, false, false, false, false, false, false, false, false, false] (by kernel_rfl) rfl rfl ⟨hx350_0, ((HB.out.cell (World.block_lt_of_cell? _ _ hw351_0)).trans hw351_0)⟩ (fun hHeld => ?_); refine with_tabW spec_l01Add.tab9 spec_l01Add.bits9 (fun HT_ HW_ => ?_)
        generalize wr.drew = w19 at HO_7 HB GG18 HQ21 hf18_0 hx18_0 hx350_0 hx351_0 hHeld ⊢
        refine pk_ 0 15 35 1 ?_
        refine pk_ 1 15 36 3 ?_
        refine pk_ 2 15 37 7 ?_
        refine pk_ 3 15 38 15 ?_
        refine pk_ 4 15 39 31 ?_
        refine pk_ 6 15 41 95 ?_
        refine pk_ 7 15 42 223 ?_
        refine pk_ 8 15 43 479 ?_
        refine pk_ 9 15 44 991 ?_
        refine tk_ 5 15 40 1023 hHeld ?_
        refine tk_ 10 15 45 2047 hHeld ?_
        refine pk_ 11 15 46 4095 ?_
        refine pk_ 12 15 47 8191 ?_
        refine pk_ 13 15 48 16383 ?_
        refine last_ (i := 14) (N := none) #[true, true, true, true, true, true, true, true, true, true, true, true, true, true, true] rfl rfl (one_of HT_.out (by kernel_rfl)) (by decide) (fun K hK => ?_)
        refine skip_ (w1 := ?_) (by rfl) rfl ?_ ?_
        rotate_left
        ·go_simp
         rfl
        refine hK.out _ _ ?_
        clear hK K
        refine done_ (done_of HT_.out (by kernel_rfl)) ?_
        try go_wp2
        first | (first | go_roundg k2 | (refine Handed.intro k2 ?measure ?_; rotate_left; go_step; (try simp only [add_plain]); (repeat apply Exists.intro); refine ⟨?rel, rfl⟩)) | ((try subst hji4); (first | go_roundg k2 | (refine Handed.intro k2 ?measure ?_; rotate_left; go_step; (try simp only [add_plain]); (repeat apply Exists.intro); refine ⟨?rel, rfl⟩)))
        case measure => have := HK1.out; have := HK2.out; omega
        case rel => exact ⟨(y352), (wrap64 (x9_2 + 1)), es_, H', ⟨by have := HK1.out; have := HK2.out; omega⟩, ⟨by (with_reducible repeat (first | apply Kd.R_alloc | apply Kd.R_drewN | apply Kd.R_drew)); exact HQ21.out⟩, ⟨hbs_⟩⟩
       ·rw [if_neg c15] at H
        have c15b0 := decide_eq_false c15
        clear c15
        obtain ⟨t353, A22, H⟩ := bnd_ H
        obtain rfl := Option.some.inj H
        obtain ⟨Ao23, co23, eo23⟩ := Kd.R_slice HO_7.out
        subst eo23
        go_wp2_with (first | ((with_reducible refine gate_callee (f := 175) rfl ?_); refine goesL_ (some 50) rfl rfl Try.func175 (by kernel_rfl) rfl #[.slice Ao23 x7_2.length co23] rfl arg_ ?_; (with_reducible refine (spec_l01Trim.calls k2 _ _ x7_2 t353 _ ?side1 ?side2 A22.out).mono ?_); (case side1 => exact Kd.C_below (Kd.R_reads' HO_7.out).2.2 bgo_); (case side2 => exact (Kd.R_reads' HO_7.out).2.1); rintro e w24 ⟨v354, rfl, ho0, hb⟩; refine ⟨_, rfl, ?_⟩; have HO355 := Aside0.mk (Kd.R_lower (Kd.R_new' ho0 (Kd.R_lt (Kd.R_below HO_7.out bgo_))) (below_size hb_)); replace HO_7 := Aside0.mk (Kd.R_elder' (Kd.R_below HO_7.out bgo_) (Kd.R_base ho0) hb); replace HB := Aside0.mk (below_step hb_ hb); (try clear hb); (try clear hb2); (try clear hk); (try clear hi); (try clear ho0)))
        go_ret
        exact ⟨_, by first | rfl | (simp [errW_none, errW_some] <;> rfl) | (simp only [← hji4]; first | rfl | (simp [errW_none, errW_some] <;> rfl)) | (simp [*, errW_none, errW_some] <;> rfl), by (with_reducible repeat (first | apply Kd.R_alloc | apply Kd.R_drewN | apply Kd.R_drew)); exact Kd.R_mono HO355.out (fun _ hk => trivial), hb_⟩
 ·rw [if_neg c5] at H
  exact absurd H (by simp)

/-! ### spec_DrawDivideWhole: function 64 -/
def spec_DrawDivideWhole.j0 : Nat → List Int → List Int → Bool → List Int → Int → Int → Option (List Int × List Int)
 | 0, _, _, _, _, _, _ => none
 | k + 1, x5, x6, x30, x360000, x360001, x360002 => if x30 = true then ((spec_l01Next.f x360000 x360001 x360002 3).bind fun bt427 => ((spec_l01Add.f k x5 (([0, 1] : List Int)) (wrap64 (bt427.1 - 1))).bind fun t430 => ((spec_l01Rough.f k x360000 bt427.2.1 bt427.2.2 t430).bind fun bt433 => ((spec_l01Rough.f k x360000 bt433.2.1 bt433.2.2 x6).bind fun bt438 => (some (bt433.1, bt438.1)))))) else ((spec_l01Rough.f k x360000 x360001 x360002 x5).bind fun bt443 => ((spec_l01Rough.f k x360000 bt443.2.1 bt443.2.2 x6).bind fun bt448 => (some (bt443.1, bt448.1))))
def spec_DrawDivideWhole.f (k : Nat) (l0 : List Int) : Option (List Int × List Int) := (spec_l01From.f k l0).bind fun bt356 => ((spec_l01DrawPoly.f k bt356.1 bt356.2.1 bt356.2.2 8).bind fun bt360 => ((spec_l01Pick.f bt356.1 bt360.2.1 bt360.2.2 (([1, 1, (-1)] : List Int))).bind fun bt368 => ((some (([bt368.1] : List Int) : List Int)).bind fun y371 => ((spec_l01DrawPoly.f k bt356.1 bt368.2.1 bt368.2.2 5).bind fun bt374 => (if y371.length + bt374.1.length < 17592186044416 then ((some (y371 ++ bt374.1 : List Int)).bind fun y379 => ((spec_l01Next.f bt356.1 bt374.2.1 bt374.2.2 5).bind fun bt382 => (if bt382.1 = 0 then ((spec_l01DrawPoly.f k bt356.1 bt382.2.1 bt382.2.2 12).bind fun bt385 => ((spec_l01Rough.f k bt356.1 bt385.2.1 bt385.2.2 bt385.1).bind fun bt390 => ((spec_l01Rough.f k bt356.1 bt390.2.1 bt390.2.2 y379).bind fun bt395 => (some (bt390.1, bt395.1))))) else (if bt382.1 = 1 then ((spec_l01DrawPoly.f k bt356.1 bt382.2.1 bt382.2.2 4).bind fun bt400 => ((spec_l01Times.f k bt360.1 bt400.1).bind fun t405 => ((spec_l01Rough.f k bt356.1 bt400.2.1 bt400.2.2 t405).bind fun bt408 => ((spec_l01Rough.f k bt356.1 bt408.2.1 bt408.2.2 bt400.1).bind fun bt413 => (some (bt408.1, bt413.1)))))) else ((spec_l01Times.f k bt360.1 y379).bind fun t418 => ((spec_l01Next.f bt356.1 bt382.2.1 bt382.2.2 4).bind fun bt421 => (if bt421.1 = 0 then (spec_DrawDivideWhole.j0 k t418 y379 (decide ((t418.length : Int) > 0)) bt356.1 bt421.2.1 bt421.2.2) else (spec_DrawDivideWhole.j0 k t418 y379 false bt356.1 bt421.2.1 bt421.2.2)))))))) else (none))))))
set_option maxHeartbeats 8000000 in
set_option maxRecDepth 100000 in
theorem spec_DrawDivideWhole.calls (k : Nat) (A0 : Option Addr) (c0 : Nat) (l0 : List Int) (r1 : List Int) (r2 : List Int) (w : World) (hr0 : Kd.C (Kd.int .u8) w A0 l0.length l0) (hc0 : l0.length ≤ c0) (h : spec_DrawDivideWhole.f k l0 = some (r1, r2)) :
  Calls Try.prog 64 #[.slice A0 l0.length c0] w fun e w' => ∃ v0_ v1_ : Value, e = .returned (.tuple #[v0_, v1_]) ∧ Kd.R (Kd.int .i64) 2 w' w.heap.size (fun k_ => some k_ ≠ (v1_ : Value).ownBlock) v0_ r1 ∧ Kd.R (Kd.int .i64) 2 w' w.heap.size (fun k_ => some k_ ≠ (v0_ : Value).ownBlock) v1_ r2 ∧ Below w.heap.size w w' := by
 have HR0 := Aside0.mk hr0
 have HC0 := Aside0.mk hc0
 clear hr0 hc0
 have HB := Aside0.mk (Below.refl w.heap.size w)
 have H : ((spec_l01From.f k l0).bind fun bt356 => ((spec_l01DrawPoly.f k bt356.1 bt356.2.1 bt356.2.2 8).bind fun bt360 => ((spec_l01Pick.f bt356.1 bt360.2.1 bt360.2.2 (([1, 1, (-1)] : List Int))).bind fun bt368 => ((some (([bt368.1] : List Int) : List Int)).bind fun y371 => ((spec_l01DrawPoly.f k bt356.1 bt368.2.1 bt368.2.2 5).bind fun bt374 => (if y371.length + bt374.1.length < 17592186044416 then ((some (y371 ++ bt374.1 : List Int)).bind fun y379 => ((spec_l01Next.f bt356.1 bt374.2.1 bt374.2.2 5).bind fun bt382 => (if bt382.1 = 0 then ((spec_l01DrawPoly.f k bt356.1 bt382.2.1 bt382.2.2 12).bind fun bt385 => ((spec_l01Rough.f k bt356.1 bt385.2.1 bt385.2.2 bt385.1).bind fun bt390 => ((spec_l01Rough.f k bt356.1 bt390.2.1 bt390.2.2 y379).bind fun bt395 => (some (bt390.1, bt395.1))))) else (if bt382.1 = 1 then ((spec_l01DrawPoly.f k bt356.1 bt382.2.1 bt382.2.2 4).bind fun bt400 => ((spec_l01Times.f k bt360.1 bt400.1).bind fun t405 => ((spec_l01Rough.f k bt356.1 bt400.2.1 bt400.2.2 t405).bind fun bt408 => ((spec_l01Rough.f k bt356.1 bt408.2.1 bt408.2.2 bt400.1).bind fun bt413 => (some (bt408.1, bt413.1)))))) else ((spec_l01Times.f k bt360.1 y379).bind fun t418 => ((spec_l01Next.f bt356.1 bt382.2.1 bt382.2.2 4).bind fun bt421 => (if bt421.1 = 0 then (spec_DrawDivideWhole.j0 k t418 y379 (decide ((t418.length : Int) > 0)) bt356.1 bt421.2.1 bt421.2.2) else (spec_DrawDivideWhole.j0 k t418 y379 false bt356.1 bt421.2.1 bt421.2.2)))))))) else (none))))))) = some (r1, r2) := h
 clear h
 obtain ⟨⟨t356, t357, t358⟩, A2, H⟩ := bnd_ H
 dsimp only at H
 obtain ⟨⟨t360, t363, t364⟩, A3, H⟩ := bnd_ H
 dsimp only at H
 obtain ⟨y365, Ny365, H⟩ : ∃ y365 : List Int, Aside0 (y365 = (([1, 1, (-1)] : List Int))) ∧ ((spec_l01Pick.f t356 t363 t364 y365).bind fun bt368 => ((some (([bt368.1] : List Int) : List Int)).bind fun y371 => ((spec_l01DrawPoly.f k t356 bt368.2.1 bt368.2.2 5).bind fun bt374 => (if y371.length + bt374.1.length < 17592186044416 then ((some (y371 ++ bt374.1 : List Int)).bind fun y379 => ((spec_l01Next.f t356 bt374.2.1 bt374.2.2 5).bind fun bt382 => (if bt382.1 = 0 then ((spec_l01DrawPoly.f k t356 bt382.2.1 bt382.2.2 12).bind fun bt385 => ((spec_l01Rough.f k t356 bt385.2.1 bt385.2.2 bt385.1).bind fun bt390 => ((spec_l01Rough.f k t356 bt390.2.1 bt390.2.2 y379).bind fun bt395 => (some (bt390.1, bt395.1))))) else (if bt382.1 = 1 then ((spec_l01DrawPoly.f k t356 bt382.2.1 bt382.2.2 4).bind fun bt400 => ((spec_l01Times.f k t360 bt400.1).bind fun t405 => ((spec_l01Rough.f k t356 bt400.2.1 bt400.2.2 t405).bind fun bt408 => ((spec_l01Rough.f k t356 bt408.2.1 bt408.2.2 bt400.1).bind fun bt413 => (some (bt408.1, bt413.1)))))) else ((spec_l01Times.f k t360 y379).bind fun t418 => ((spec_l01Next.f t356 bt382.2.1 bt382.2.2 4).bind fun bt421 => (if bt421.1 = 0 then (spec_DrawDivideWhole.j0 k t418 y379 (decide ((t418.length : Int) > 0)) t356 bt421.2.1 bt421.2.2) else (spec_DrawDivideWhole.j0 k t418 y379 false t356 bt421.2.1 bt421.2.2)))))))) else (none))))) = some (r1, r2) := ⟨_, ⟨rfl⟩, H⟩
 obtain ⟨⟨t368, t369, t370⟩, A4, H⟩ := bnd_ H
 dsimp only at H
 obtain ⟨y371, Ny371, H⟩ : ∃ y371 : List Int, Aside0 (y371 = (([t368] : List Int))) ∧ ((spec_l01DrawPoly.f k t356 t369 t370 5).bind fun bt374 => (if y371.length + bt374.1.length < 17592186044416 then ((some (y371 ++ bt374.1 : List Int)).bind fun y379 => ((spec_l01Next.f t356 bt374.2.1 bt374.2.2 5).bind fun bt382 => (if bt382.1 = 0 then ((spec_l01DrawPoly.f k t356 bt382.2.1 bt382.2.2 12).bind fun bt385 => ((spec_l01Rough.f k t356 bt385.2.1 bt385.2.2 bt385.1).bind fun bt390 => ((spec_l01Rough.f k t356 bt390.2.1 bt390.2.2 y379).bind fun bt395 => (some (bt390.1, bt395.1))))) else (if bt382.1 = 1 then ((spec_l01DrawPoly.f k t356 bt382.2.1 bt382.2.2 4).bind fun bt400 => ((spec_l01Times.f k t360 bt400.1).bind fun t405 => ((spec_l01Rough.f k t356 bt400.2.1 bt400.2.2 t405).bind fun bt408 => ((spec_l01Rough.f k t356 bt408.2.1 bt408.2.2 bt400.1).bind fun bt413 => (some (bt408.1, bt413.1)))))) else ((spec_l01Times.f k t360 y379).bind fun t418 => ((spec_l01Next.f t356 bt382.2.1 bt382.2.2 4).bind fun bt421 => (if bt421.1 = 0 then (spec_DrawDivideWhole.j0 k t418 y379 (decide ((t418.length : Int) > 0)) t356 bt421.2.1 bt421.2.2) else (spec_DrawDivideWhole.j0 k t418 y379 false t356 bt421.2.1 bt421.2.2)))))))) else (none))) = some (r1, r2) := ⟨_, ⟨rfl⟩, H⟩
 obtain ⟨⟨t374, t377, t378⟩, A5, H⟩ := bnd_ H
 dsimp only at H
 by_cases c6 : y371.length + t374.length < 17592186044416
 ·rw [if_pos c6] at H
  have LMc6 := Aside0.mk c6
  clear c6
  obtain ⟨y379, Ny379, H⟩ : ∃ y379 : List Int, Aside0 (y379 = (y371 ++ t374)) ∧ ((spec_l01Next.f t356 t377 t378 5).bind fun bt382 => (if bt382.1 = 0 then ((spec_l01DrawPoly.f k t356 bt382.2.1 bt382.2.2 12).bind fun bt385 => ((spec_l01Rough.f k t356 bt385.2.1 bt385.2.2 bt385.1).bind fun bt390 => ((spec_l01Rough.f k t356 bt390.2.1 bt390.2.2 y379).bind fun bt395 => (some (bt390.1, bt395.1))))) else (if bt382.1 = 1 then ((spec_l01DrawPoly.f k t356 bt382.2.1 bt382.2.2 4).bind fun bt400 => ((spec_l01Times.f k t360 bt400.1).bind fun t405 => ((spec_l01Rough.f k t356 bt400.2.1 bt400.2.2 t405).bind fun bt408 => ((spec_l01Rough.f k t356 bt408.2.1 bt408.2.2 bt400.1).bind fun bt413 => (some (bt408.1, bt413.1)))))) else ((spec_l01Times.f k t360 y379).bind fun t418 => ((spec_l01Next.f t356 bt382.2.1 bt382.2.2 4).bind fun bt421 => (if bt421.1 = 0 then (spec_DrawDivideWhole.j0 k t418 y379 (decide ((t418.length : Int) > 0)) t356 bt421.2.1 bt421.2.2) else (spec_DrawDivideWhole.j0 k t418 y379 false t356 bt421.2.1 bt421.2.2))))))) = some (r1, r2) := ⟨_, ⟨rfl⟩, H⟩
  obtain ⟨⟨t382, t383, t384⟩, A7, H⟩ := bnd_ H
  dsimp only at H
  by_cases c8 : t382 = 0
  ·rw [if_pos c8] at H
   have c8b0 : (t382 == 0) = true := beq_iff_eq.mpr c8
   have c8b1 : (t382 != 0) = false := bne_eq_false_iff_eq.mpr c8
   clear c8
   obtain ⟨⟨t385, t388, t389⟩, A9, H⟩ := bnd_ H
   dsimp only at H
   obtain ⟨⟨t390, t393, t394⟩, A10, H⟩ := bnd_ H
   dsimp only at H
   obtain ⟨⟨t395, t398, t399⟩, A11, H⟩ := bnd_ H
   dsimp only at H
   simp only [Option.some.injEq, Prod.mk.injEq] at H
   obtain ⟨rfl, rfl⟩ := H
   go_enter Try.func64, Try.ntmps64
   go_wp2_with (first | ((with_reducible refine gate_callee (f := 102) rfl ?_); refine goesL_ (some 8) rfl rfl Try.func102 (by kernel_rfl) rfl #[.slice A0 l0.length c0] rfl arg_ ?_; (with_reducible refine (spec_l01From.calls k _ _ l0 t356 t357 t358 w _ ?side1 ?side2 ?side3 A2.out).mono ?_); (case side1 => exact hb_); (case side2 => exact HR0.out); (case side3 => exact HC0.out); rintro e w12 ⟨g359, rfl, hi, hb, hb2⟩; refine ⟨_, rfl, ?_⟩; replace HB := Aside0.mk (hb); have HI359 := Aside0.mk (hi); (try clear hb); (try clear hb2); (try clear hk); (try clear hi)) | ((with_reducible refine gate_callee (f := 162) rfl ?_); refine goesL_ (some 10) rfl rfl Try.func162 (by kernel_rfl) rfl #[.pointer (some ⟨g359, 0, none⟩), .int .i64 8] rfl arg_ ?_; (with_reducible refine (spec_l01DrawPoly.calls k g359 t356 t357 t358 8 t360 t363 t364 w _ ?side1 ?side2 A3.out).mono ?_); (case side1 => exact IsS131.go_); (case side2 => exact IsS131.hb_); rintro e w13 ⟨v361, rfl, ho0, hi, hb, hk⟩; refine ⟨_, rfl, ?_⟩; have HO362 := Aside0.mk (Kd.R_lower ho0 (below_size IsS131.hb_)); replace HB := Aside0.mk (hb); replace HI359 := Aside0.mk (hi); (try clear hb); (try clear hb2); (try clear hk); (try clear hi); (try clear ho0)) | ((with_reducible refine gate_dst (N := 12) rfl ?_); (try (refine gate_guard (by rfl) ?_; dsimp only)); refine Kd.R_lit (Kd.int .i64) _ 2 ?hg (N := 12) ?hd (xs := ([1, 1, (-1)] : List Int)) (inner := [.int .i64 1, .int .i64 1, .int .i64 (-1)]) (ok := fun _ => True) (okp := fun _ => True) ?hr ?hp (fun _ hk => hk) trivial (Below.refl _ _) (Nat.le_refl _) (by simp) ?_; (case hd => rfl); (case hg => rfl); (case hr => first | (go_simp; done) | (go_simp; rfl)); (case hp => exact (Reps.one (show Kd.M (Kd.int .i64) _ _ _ 1 [.int .i64 1] from rfl) (Reps.one (show Kd.M (Kd.int .i64) _ _ _ 1 [.int .i64 1] from rfl) (Reps.one (show Kd.M (Kd.int .i64) _ _ _ (-1) [.int .i64 (-1)] from rfl) (Reps.none _ _))))); intro v366 w14 ho15 hb hg_ hnew_; clear hg_ hnew_; (first | rw [← Ny365.out] at ho15 | (simp only [Int.reduceToNat] at ho15; rw [← Ny365.out] at ho15)); have HO367 := Aside0.mk (Kd.R_lower (Kd.R_new' ho15 (Kd.R_lt (Kd.R_below HO362.out bgo_))) (below_size IsS131.hb_)); replace HO362 := Aside0.mk (Kd.R_elder' (Kd.R_below HO362.out bgo_) (Kd.R_base ho15) hb); replace HB := Aside0.mk (below_step IsS131.hb_ hb); replace HI359 := Aside0.mk (IsS131.below IsS131.go_ hb); clear hb ho15; obtain ⟨Ao16, co16, eo16⟩ := Kd.R_slice HO367.out; subst eo16) | ((with_reducible refine gate_callee (f := 144) rfl ?_); refine goesL_ (some 13) rfl rfl Try.func144 (by kernel_rfl) rfl #[.pointer (some ⟨g359, 0, none⟩), .slice Ao16 y365.length co16] rfl arg_ ?_; (with_reducible refine (spec_l01Pick.calls g359 t356 t363 t364 _ _ y365 t368 t369 t370 w _ ?side1 ?side2 ?side3 ?side4 ?side5 A4.out).mono ?_); (case side1 => exact IsS131.go_); (case side2 => exact IsS131.hb_); (case side3 => exact Kd.C_below (Kd.R_reads' HO367.out).2.2 bgo_); (case side4 => exact (Kd.R_reads' HO367.out).2.1); (case side5 => exact far_slice (IsS131.own_ne HI359.out HO367.out (by decide))); rintro e w17 ⟨rfl, hi, hb, hk⟩; refine ⟨_, rfl, ?_⟩; replace HO362 := Aside0.mk (Kd.R_mono (Kd.R_keep (IsS131.apart (show IsS131 w _ g359 t356 t363 t364 from IsS131.go_) (Kd.R_below HO362.out bgo_) (by decide)) hk (fun _ h => h.2)) (fun _ h => h.1)); replace HO367 := Aside0.mk (Kd.R_mono (Kd.R_keep (IsS131.apart (show IsS131 w _ g359 t356 t363 t364 from IsS131.go_) (Kd.R_below HO367.out bgo_) (by decide)) hk (fun _ h => h.2)) (fun _ h => h.1)); replace HB := Aside0.mk (hb); replace HI359 := Aside0.mk (hi); (try clear hb); (try clear hb2); (try clear hk); (try clear hi)) | ((with_reducible refine gate_dst (N := 14) rfl ?_); (try (refine gate_guard (by rfl) ?_; dsimp only)); refine Kd.R_lit (Kd.int .i64) _ 2 ?hg (N := 14) ?hd (xs := ([t368] : List Int)) (inner := [.int .i64 t368]) (ok := fun _ => True) (okp := fun _ => True) ?hr ?hp (fun _ hk => hk) trivial (Below.refl _ _) (Nat.le_refl _) (by simp) ?_; (case hd => rfl); (case hg => rfl); (case hr => first | (go_simp; done) | (go_simp; rfl)); (case hp => exact (Reps.one (show Kd.M (Kd.int .i64) _ _ _ t368 [.int .i64 t368] from rfl) (Reps.none _ _))); intro v372 w18 ho19 hb hg_ hnew_; clear hg_ hnew_; (first | rw [← Ny371.out] at ho19 | (simp only [Int.reduceToNat] at ho19; rw [← Ny371.out] at ho19)); have HO373 := Aside0.mk (Kd.R_lower (Kd.R_new' (Kd.R_new' ho19 (Kd.R_lt (Kd.R_below HO362.out bgo_))) (Kd.R_lt (Kd.R_below HO367.out bgo_))) (below_size IsS131.hb_)); replace HO362 := Aside0.mk (Kd.R_elder' (Kd.R_below HO362.out bgo_) (Kd.R_base ho19) hb); replace HO367 := Aside0.mk (Kd.R_elder' (Kd.R_below HO367.out bgo_) (Kd.R_base ho19) hb); replace HB := Aside0.mk (below_step IsS131.hb_ hb); replace HI359 := Aside0.mk (IsS131.below IsS131.go_ hb); clear hb ho19) | ((with_reducible refine gate_callee (f := 162) rfl ?_); refine goesL_ (some 16) rfl rfl Try.func162 (by kernel_rfl) rfl #[.pointer (some ⟨g359, 0, none⟩), .int .i64 5] rfl arg_ ?_; (with_reducible refine (spec_l01DrawPoly.calls k g359 t356 t369 t370 5 t374 t377 t378 w _ ?side1 ?side2 A5.out).mono ?_); (case side1 => exact IsS131.go_); (case side2 => exact IsS131.hb_); rintro e w20 ⟨v375, rfl, ho0, hi, hb, hk⟩; refine ⟨_, rfl, ?_⟩; have HO376 := Aside0.mk (Kd.R_lower (Kd.R_new' (Kd.R_new' (Kd.R_new' ho0 (Kd.R_lt (Kd.R_below HO362.out bgo_))) (Kd.R_lt (Kd.R_below HO367.out bgo_))) (Kd.R_lt (Kd.R_below HO373.out bgo_))) (below_size IsS131.hb_)); replace HO362 := Aside0.mk (Kd.R_mono (Kd.R_told (Kd.R_oldK (IsS131.apart (show IsS131 w _ g359 t356 t369 t370 from IsS131.go_) (Kd.R_below HO362.out bgo_) (by decide)) hk) (Kd.R_base ho0)) (fun _ h_ => h_.1)); replace HO367 := Aside0.mk (Kd.R_mono (Kd.R_told (Kd.R_oldK (IsS131.apart (show IsS131 w _ g359 t356 t369 t370 from IsS131.go_) (Kd.R_below HO367.out bgo_) (by decide)) hk) (Kd.R_base ho0)) (fun _ h_ => h_.1)); replace HO373 := Aside0.mk (Kd.R_mono (Kd.R_told (Kd.R_oldK (IsS131.apart (show IsS131 w _ g359 t356 t369 t370 from IsS131.go_) (Kd.R_below HO373.out bgo_) (by decide)) hk) (Kd.R_base ho0)) (fun _ h_ => h_.1)); replace HB := Aside0.mk (hb); replace HI359 := Aside0.mk (hi); (try clear hb); (try clear hb2); (try clear hk); (try clear hi); (try clear ho0); obtain ⟨Ao22, co22, eo22⟩ := Kd.R_slice HO376.out; subst eo22) | ((with_reducible refine gate_builtin (b := .append) (xs := #[.tmp 14, .tmp 16]) rfl ?_); (try (refine gate_guard (by rfl) ?_; dsimp only)); at_builtin; refine Kd.R_append_rows (Kd.int .i64) (w0 := w) w.heap.size rfl (.tmp 14) (.tmp 16) 29 2 (.int .i64 0) 8 rfl Try.underlying29 info2 rfl (by decide) (by omega) v372 y371 t374 _ _ _ (fun k_ => some k_ ≠ (v361 : Value).ownBlock ∧ some k_ ≠ (.slice Ao16 y365.length co16 : Value).ownBlock ∧ some k_ ≠ (.slice Ao22 t374.length co22 : Value).ownBlock) (fun _ => False) rfl rfl ?aO ?aR (fun _ _ h => h) (fun _ h => h.elim) ?aF ?aB ?aS ?aL ?_; (case aR => repeat (first | exact (Kd.R_reads' HO376.out).2.2 | (with_reducible refine Kd.C_alloc ?_ _) | (with_reducible refine Kd.C_drewN ?_ _) | (with_reducible refine Kd.C_drew ?_))); (case aB => exact IsS131.hb_); (case aF => exact (fun k_ hk => ⟨Kd.fresh' (Kd.R_lt (Kd.R_below HO362.out bgo_)) k_ hk, Kd.fresh' (Kd.R_lt (Kd.R_below HO367.out bgo_)) k_ hk, Kd.fresh' (Kd.R_lt (Kd.R_below HO376.out bgo_)) k_ hk⟩)); (case aO => exact (by (with_reducible repeat (first | apply Kd.R_alloc | apply Kd.R_drewN | apply Kd.R_drew)); exact Kd.R_mono HO373.out (fun _ hk => ⟨hk.1.1.2, ⟨hk.1.2, hk.2⟩⟩))); (case aS => exact (below_size IsS131.hb_)); (case aL => have := LMc6.out; omega); intro v380 w21 ho hb hg hat; rw [← Ny379.out] at ho; replace HI359 := Aside0.mk (IsS131.grown IsS131.go_ hg (IsS131.own_ne HI359.out HO373.out (by decide))); replace HO362 := Aside0.mk (Kd.R_after (ok := (fun k_ => some k_ ≠ (.slice Ao16 y365.length co16 : Value).ownBlock ∧ some k_ ≠ (.slice Ao22 t374.length co22 : Value).ownBlock)) (by (with_reducible repeat (first | apply Kd.R_alloc | apply Kd.R_drewN | apply Kd.R_drew)); exact Kd.R_mono HO362.out (fun _ hk => ⟨⟨hk.1.1.2, hk.2⟩, hk.1.2⟩)) hg hat); replace HO367 := Aside0.mk (Kd.R_after (ok := (fun k_ => some k_ ≠ (v361 : Value).ownBlock ∧ some k_ ≠ (.slice Ao22 t374.length co22 : Value).ownBlock)) (by (with_reducible repeat (first | apply Kd.R_alloc | apply Kd.R_drewN | apply Kd.R_drew)); exact Kd.R_mono HO367.out (fun _ hk => ⟨⟨hk.1.1.2, hk.2⟩, hk.1.2⟩)) hg hat); replace HO376 := Aside0.mk (Kd.R_after (ok := (fun k_ => some k_ ≠ (v361 : Value).ownBlock ∧ some k_ ≠ (.slice Ao16 y365.length co16 : Value).ownBlock)) (by (with_reducible repeat (first | apply Kd.R_alloc | apply Kd.R_drewN | apply Kd.R_drew)); exact Kd.R_mono HO376.out (fun _ hk => ⟨⟨hk.1.1.2, hk.1.2⟩, hk.2⟩)) hg hat); replace HB := Aside0.mk (hb); have HO381 := Aside0.mk (ho); clear HO373; clear ho hb hg hat) | ((with_reducible refine gate_callee (f := 171) rfl ?_); refine goesL_ (some 19) rfl rfl Try.func171 (by kernel_rfl) rfl #[.pointer (some ⟨g359, 0, none⟩), .int .i64 5] rfl arg_ ?_; (with_reducible refine (spec_l01Next.calls g359 t356 t377 t378 5 t382 t383 t384 w _ ?side1 ?side2 A7.out).mono ?_); (case side1 => exact IsS131.go_); (case side2 => exact IsS131.hb_); rintro e w23 ⟨rfl, hi, hb, hk⟩; refine ⟨_, rfl, ?_⟩; replace HO362 := Aside0.mk (Kd.R_mono (Kd.R_keep (IsS131.apart (show IsS131 w _ g359 t356 t377 t378 from IsS131.go_) (Kd.R_below HO362.out bgo_) (by decide)) hk (fun _ h => h.2)) (fun _ h => h.1)); replace HO367 := Aside0.mk (Kd.R_mono (Kd.R_keep (IsS131.apart (show IsS131 w _ g359 t356 t377 t378 from IsS131.go_) (Kd.R_below HO367.out bgo_) (by decide)) hk (fun _ h => h.2)) (fun _ h => h.1)); replace HO376 := Aside0.mk (Kd.R_mono (Kd.R_keep (IsS131.apart (show IsS131 w _ g359 t356 t377 t378 from IsS131.go_) (Kd.R_below HO376.out bgo_) (by decide)) hk (fun _ h => h.2)) (fun _ h => h.1)); replace HO381 := Aside0.mk (Kd.R_mono (Kd.R_keep (IsS131.apart (show IsS131 w _ g359 t356 t377 t378 from IsS131.go_) (Kd.R_below HO381.out bgo_) (by decide)) hk (fun _ h => h.2)) (fun _ h => h.1)); replace HB := Aside0.mk (hb); replace HI359 := Aside0.mk (hi); (try clear hb); (try clear hb2); (try clear hk); (try clear hi)) | ((with_reducible refine gate_callee (f := 162) rfl ?_); refine goesL_ (some 40) rfl rfl Try.func162 (by kernel_rfl) rfl #[.pointer (some ⟨g359, 0, none⟩), .int .i64 12] rfl arg_ ?_; (with_reducible refine (spec_l01DrawPoly.calls k g359 t356 t383 t384 12 t385 t388 t389 w _ ?side1 ?side2 A9.out).mono ?_); (case side1 => exact IsS131.go_); (case side2 => exact IsS131.hb_); rintro e w24 ⟨v386, rfl, ho0, hi, hb, hk⟩; refine ⟨_, rfl, ?_⟩; have HO387 := Aside0.mk (Kd.R_lower (Kd.R_new' (Kd.R_new' (Kd.R_new' (Kd.R_new' ho0 (Kd.R_lt (Kd.R_below HO362.out bgo_))) (Kd.R_lt (Kd.R_below HO367.out bgo_))) (Kd.R_lt (Kd.R_below HO376.out bgo_))) (Kd.R_lt (Kd.R_below HO381.out bgo_))) (below_size IsS131.hb_)); replace HO362 := Aside0.mk (Kd.R_mono (Kd.R_told (Kd.R_oldK (IsS131.apart (show IsS131 w _ g359 t356 t383 t384 from IsS131.go_) (Kd.R_below HO362.out bgo_) (by decide)) hk) (Kd.R_base ho0)) (fun _ h_ => h_.1)); replace HO367 := Aside0.mk (Kd.R_mono (Kd.R_told (Kd.R_oldK (IsS131.apart (show IsS131 w _ g359 t356 t383 t384 from IsS131.go_) (Kd.R_below HO367.out bgo_) (by decide)) hk) (Kd.R_base ho0)) (fun _ h_ => h_.1)); replace HO376 := Aside0.mk (Kd.R_mono (Kd.R_told (Kd.R_oldK (IsS131.apart (show IsS131 w _ g359 t356 t383 t384 from IsS131.go_) (Kd.R_below HO376.out bgo_) (by decide)) hk) (Kd.R_base ho0)) (fun _ h_ => h_.1)); replace HO381 := Aside0.mk (Kd.R_mono (Kd.R_told (Kd.R_oldK (IsS131.apart (show IsS131 w _ g359 t356 t383 t384 from IsS131.go_) (Kd.R_below HO381.out bgo_) (by decide)) hk) (Kd.R_base ho0)) (fun _ h_ => h_.1)); replace HB := Aside0.mk (hb); replace HI359 := Aside0.mk (hi); (try clear hb); (try clear hb2); (try clear hk); (try clear hi); (try clear ho0); obtain ⟨Ao25, co25, eo25⟩ := Kd.R_slice HO387.out; subst eo25) | ((with_reducible refine gate_callee (f := 161) rfl ?_); refine goesL_ (some 50) rfl rfl Try.func161 (by kernel_rfl) rfl #[.pointer (some ⟨g359, 0, none⟩), .slice Ao25 t385.length co25] rfl arg_ ?_; (with_reducible refine (spec_l01Rough.calls k g359 t356 t388 t389 (fun k_ => some k_ = (.slice Ao25 t385.length co25 : Value).ownBlock) (.slice Ao25 t385.length co25) t385 t390 t393 t394 w _ ?side1 ?side2 ?side3 A10.out).mono ?_); (case side1 => exact IsS131.go_); (case side2 => exact IsS131.hb_); (case side3 => exact Kd.R_tight rfl HO387.out); rintro e w26 ⟨v391, rfl, ho0, hi, hb, hkp⟩; refine ⟨_, rfl, ?_⟩; have HO392 := Aside0.mk (Kd.R_mono (ok' := fun k_ => some k_ ≠ (v361 : Value).ownBlock ∧ some k_ ≠ (.slice Ao16 y365.length co16 : Value).ownBlock ∧ some k_ ≠ (.slice Ao22 t374.length co22 : Value).ownBlock ∧ some k_ ≠ (v380 : Value).ownBlock) ho0 (fun k_ hk_ => ⟨Or.elim hk_ (fun hs_ => fun e_ => ((((IsS131.apart HI359.out HO362.out (by decide))).1 k_ e_.symm).1.2) hs_) (fun hn_ => (Kd.fresh' (Kd.R_lt (Kd.R_below HO362.out bgo_)) k_ hn_)), Or.elim hk_ (fun hs_ => fun e_ => ((((IsS131.apart HI359.out HO367.out (by decide))).1 k_ e_.symm).1.2) hs_) (fun hn_ => (Kd.fresh' (Kd.R_lt (Kd.R_below HO367.out bgo_)) k_ hn_)), Or.elim hk_ (fun hs_ => fun e_ => ((((IsS131.apart HI359.out HO376.out (by decide))).1 k_ e_.symm).1.2) hs_) (fun hn_ => (Kd.fresh' (Kd.R_lt (Kd.R_below HO376.out bgo_)) k_ hn_)), Or.elim hk_ (fun hs_ => fun e_ => ((((IsS131.apart HI359.out HO381.out (by decide))).1 k_ e_.symm).1.2) hs_) (fun hn_ => (Kd.fresh' (Kd.R_lt (Kd.R_below HO381.out bgo_)) k_ hn_))⟩)); replace HO362 := Aside0.mk (Kd.R_mono (ok' := fun k_ => some k_ ≠ (.slice Ao16 y365.length co16 : Value).ownBlock ∧ some k_ ≠ (.slice Ao22 t374.length co22 : Value).ownBlock ∧ some k_ ≠ (v380 : Value).ownBlock ∧ some k_ ≠ (v391 : Value).ownBlock) (Kd.R_keptB ((IsS131.apart HI359.out HO362.out (by decide))) hkp (fun k_ hk_ hs_ => Or.elim hs_ (fun hs_ => (hk_.1.2) hs_) (fun e_ => (hk_.2) e_))) (fun k_ hk_ => ⟨hk_.1.1.1.1.1, hk_.1.1.1.1.2, hk_.1.1.1.2, fun e_ => Or.elim (ho0.1 k_ e_.symm) (fun hs_ => hk_.2.1 (by first | exact hs_ | exact .inl hs_)) (fun hn_ => Nat.not_le.2 hk_.2.2 hn_)⟩)); replace HO367 := Aside0.mk (Kd.R_mono (ok' := fun k_ => some k_ ≠ (v361 : Value).ownBlock ∧ some k_ ≠ (.slice Ao22 t374.length co22 : Value).ownBlock ∧ some k_ ≠ (v380 : Value).ownBlock ∧ some k_ ≠ (v391 : Value).ownBlock) (Kd.R_keptB ((IsS131.apart HI359.out HO367.out (by decide))) hkp (fun k_ hk_ hs_ => Or.elim hs_ (fun hs_ => (hk_.1.2) hs_) (fun e_ => (hk_.2) e_))) (fun k_ hk_ => ⟨hk_.1.1.1.1.1, hk_.1.1.1.1.2, hk_.1.1.1.2, fun e_ => Or.elim (ho0.1 k_ e_.symm) (fun hs_ => hk_.2.1 (by first | exact hs_ | exact .inl hs_)) (fun hn_ => Nat.not_le.2 hk_.2.2 hn_)⟩)); replace HO376 := Aside0.mk (Kd.R_mono (ok' := fun k_ => some k_ ≠ (v361 : Value).ownBlock ∧ some k_ ≠ (.slice Ao16 y365.length co16 : Value).ownBlock ∧ some k_ ≠ (v380 : Value).ownBlock ∧ some k_ ≠ (v391 : Value).ownBlock) (Kd.R_keptB ((IsS131.apart HI359.out HO376.out (by decide))) hkp (fun k_ hk_ hs_ => Or.elim hs_ (fun hs_ => (hk_.1.2) hs_) (fun e_ => (hk_.2) e_))) (fun k_ hk_ => ⟨hk_.1.1.1.1.1, hk_.1.1.1.1.2, hk_.1.1.1.2, fun e_ => Or.elim (ho0.1 k_ e_.symm) (fun hs_ => hk_.2.1 (by first | exact hs_ | exact .inl hs_)) (fun hn_ => Nat.not_le.2 hk_.2.2 hn_)⟩)); replace HO381 := Aside0.mk (Kd.R_mono (ok' := fun k_ => some k_ ≠ (v361 : Value).ownBlock ∧ some k_ ≠ (.slice Ao16 y365.length co16 : Value).ownBlock ∧ some k_ ≠ (.slice Ao22 t374.length co22 : Value).ownBlock ∧ some k_ ≠ (v391 : Value).ownBlock) (Kd.R_keptB ((IsS131.apart HI359.out HO381.out (by decide))) hkp (fun k_ hk_ hs_ => Or.elim hs_ (fun hs_ => (hk_.1.2) hs_) (fun e_ => (hk_.2) e_))) (fun k_ hk_ => ⟨hk_.1.1.1.1, hk_.1.1.1.2.1, hk_.1.1.1.2.2, fun e_ => Or.elim (ho0.1 k_ e_.symm) (fun hs_ => hk_.2.1 (by first | exact hs_ | exact .inl hs_)) (fun hn_ => Nat.not_le.2 hk_.2.2 hn_)⟩)); replace HI359 := Aside0.mk (hi); replace HB := Aside0.mk (hb); clear HO387; (try clear hb); (try clear hkp); (try clear ho0); obtain ⟨Ao27, co27, eo27⟩ := Kd.R_slice HO381.out; subst eo27) | ((with_reducible refine gate_callee (f := 161) rfl ?_); refine goesL_ (some 53) rfl rfl Try.func161 (by kernel_rfl) rfl #[.pointer (some ⟨g359, 0, none⟩), .slice Ao27 y379.length co27] rfl arg_ ?_; (with_reducible refine (spec_l01Rough.calls k g359 t356 t393 t394 (fun k_ => some k_ = (.slice Ao27 y379.length co27 : Value).ownBlock) (.slice Ao27 y379.length co27) y379 t395 t398 t399 w _ ?side1 ?side2 ?side3 A11.out).mono ?_); (case side1 => exact IsS131.go_); (case side2 => exact IsS131.hb_); (case side3 => exact Kd.R_tight rfl HO381.out); rintro e w28 ⟨v396, rfl, ho0, hi, hb, hkp⟩; refine ⟨_, rfl, ?_⟩; have HO397 := Aside0.mk (Kd.R_mono (ok' := fun k_ => some k_ ≠ (v361 : Value).ownBlock ∧ some k_ ≠ (.slice Ao16 y365.length co16 : Value).ownBlock ∧ some k_ ≠ (.slice Ao22 t374.length co22 : Value).ownBlock ∧ some k_ ≠ (v391 : Value).ownBlock) ho0 (fun k_ hk_ => ⟨Or.elim hk_ (fun hs_ => fun e_ => ((((IsS131.apart HI359.out HO362.out (by decide))).1 k_ e_.symm).1.2.2.1) hs_) (fun hn_ => (Kd.fresh' (Kd.R_lt (Kd.R_below HO362.out bgo_)) k_ hn_)), Or.elim hk_ (fun hs_ => fun e_ => ((((IsS131.apart HI359.out HO367.out (by decide))).1 k_ e_.symm).1.2.2.1) hs_) (fun hn_ => (Kd.fresh' (Kd.R_lt (Kd.R_below HO367.out bgo_)) k_ hn_)), Or.elim hk_ (fun hs_ => fun e_ => ((((IsS131.apart HI359.out HO376.out (by decide))).1 k_ e_.symm).1.2.2.1) hs_) (fun hn_ => (Kd.fresh' (Kd.R_lt (Kd.R_below HO376.out bgo_)) k_ hn_)), Or.elim hk_ (fun hs_ => fun e_ => ((((IsS131.apart HI359.out HO392.out (by decide))).1 k_ e_.symm).1.2.2.2) hs_) (fun hn_ => (Kd.fresh' (Kd.R_lt (Kd.R_below HO392.out bgo_)) k_ hn_))⟩)); replace HO362 := Aside0.mk (Kd.R_mono (ok' := fun k_ => some k_ ≠ (.slice Ao16 y365.length co16 : Value).ownBlock ∧ some k_ ≠ (.slice Ao22 t374.length co22 : Value).ownBlock ∧ some k_ ≠ (v391 : Value).ownBlock ∧ some k_ ≠ (v396 : Value).ownBlock) (Kd.R_keptB ((IsS131.apart HI359.out HO362.out (by decide))) hkp (fun k_ hk_ hs_ => Or.elim hs_ (fun hs_ => (hk_.1.2.2.1) hs_) (fun e_ => (hk_.2) e_))) (fun k_ hk_ => ⟨hk_.1.1.1, hk_.1.1.2.1, hk_.1.1.2.2.2, fun e_ => Or.elim (ho0.1 k_ e_.symm) (fun hs_ => hk_.2.1 (by first | exact hs_ | exact .inl hs_)) (fun hn_ => Nat.not_le.2 hk_.2.2 hn_)⟩)); replace HO367 := Aside0.mk (Kd.R_mono (ok' := fun k_ => some k_ ≠ (v361 : Value).ownBlock ∧ some k_ ≠ (.slice Ao22 t374.length co22 : Value).ownBlock ∧ some k_ ≠ (v391 : Value).ownBlock ∧ some k_ ≠ (v396 : Value).ownBlock) (Kd.R_keptB ((IsS131.apart HI359.out HO367.out (by decide))) hkp (fun k_ hk_ hs_ => Or.elim hs_ (fun hs_ => (hk_.1.2.2.1) hs_) (fun e_ => (hk_.2) e_))) (fun k_ hk_ => ⟨hk_.1.1.1, hk_.1.1.2.1, hk_.1.1.2.2.2, fun e_ => Or.elim (ho0.1 k_ e_.symm) (fun hs_ => hk_.2.1 (by first | exact hs_ | exact .inl hs_)) (fun hn_ => Nat.not_le.2 hk_.2.2 hn_)⟩)); replace HO376 := Aside0.mk (Kd.R_mono (ok' := fun k_ => some k_ ≠ (v361 : Value).ownBlock ∧ some k_ ≠ (.slice Ao16 y365.length co16 : Value).ownBlock ∧ some k_ ≠ (v391 : Value).ownBlock ∧ some k_ ≠ (v396 : Value).ownBlock) (Kd.R_keptB ((IsS131.apart HI359.out HO376.out (by decide))) hkp (fun k_ hk_ hs_ => Or.elim hs_ (fun hs_ => (hk_.1.2.2.1) hs_) (fun e_ => (hk_.2) e_))) (fun k_ hk_ => ⟨hk_.1.1.1, hk_.1.1.2.1, hk_.1.1.2.2.2, fun e_ => Or.elim (ho0.1 k_ e_.symm) (fun hs_ => hk_.2.1 (by first | exact hs_ | exact .inl hs_)) (fun hn_ => Nat.not_le.2 hk_.2.2 hn_)⟩)); replace HO392 := Aside0.mk (Kd.R_mono (ok' := fun k_ => some k_ ≠ (v361 : Value).ownBlock ∧ some k_ ≠ (.slice Ao16 y365.length co16 : Value).ownBlock ∧ some k_ ≠ (.slice Ao22 t374.length co22 : Value).ownBlock ∧ some k_ ≠ (v396 : Value).ownBlock) (Kd.R_keptB ((IsS131.apart HI359.out HO392.out (by decide))) hkp (fun k_ hk_ hs_ => Or.elim hs_ (fun hs_ => (hk_.1.2.2.2) hs_) (fun e_ => (hk_.2) e_))) (fun k_ hk_ => ⟨hk_.1.1.1, hk_.1.1.2.1, hk_.1.1.2.2.1, fun e_ => Or.elim (ho0.1 k_ e_.symm) (fun hs_ => hk_.2.1 (by first | exact hs_ | exact .inl hs_)) (fun hn_ => Nat.not_le.2 hk_.2.2 hn_)⟩)); replace HI359 := Aside0.mk (hi); replace HB := Aside0.mk (hb); clear HO381; (try clear hb); (try clear hkp); (try clear ho0)))
   go_ret2
   exact ⟨_, _, er_, by (with_reducible repeat (first | apply Kd.R_alloc | apply Kd.R_drewN | apply Kd.R_drew)); exact Kd.R_mono HO392.out (fun _ hk => hk.2.2.2), by (with_reducible repeat (first | apply Kd.R_alloc | apply Kd.R_drewN | apply Kd.R_drew)); exact Kd.R_mono HO397.out (fun _ hk => hk.2.2.2), IsS131.hb_⟩
  ·rw [if_neg c8] at H
   have c8b0 : (t382 == 0) = false := beq_eq_false_iff_ne.mpr c8
   have c8b1 : (t382 != 0) = true := bne_iff_ne.mpr c8
   by_cases c29 : t382 = 1
   ·rw [if_pos c29] at H
    have c29b0 : (t382 == 1) = true := beq_iff_eq.mpr c29
    have c29b1 : (t382 != 1) = false := bne_eq_false_iff_eq.mpr c29
    clear c29
    obtain ⟨⟨t400, t403, t404⟩, A30, H⟩ := bnd_ H
    dsimp only at H
    obtain ⟨t405, A31, H⟩ := bnd_ H
    obtain ⟨⟨t408, t411, t412⟩, A32, H⟩ := bnd_ H
    dsimp only at H
    obtain ⟨⟨t413, t416, t417⟩, A33, H⟩ := bnd_ H
    dsimp only at H
    simp only [Option.some.injEq, Prod.mk.injEq] at H
    obtain ⟨rfl, rfl⟩ := H
    go_enter Try.func64, Try.ntmps64
    go_wp2_with (first | ((with_reducible refine gate_callee (f := 102) rfl ?_); refine goesL_ (some 8) rfl rfl Try.func102 (by kernel_rfl) rfl #[.slice A0 l0.length c0] rfl arg_ ?_; (with_reducible refine (spec_l01From.calls k _ _ l0 t356 t357 t358 w _ ?side1 ?side2 ?side3 A2.out).mono ?_); (case side1 => exact hb_); (case side2 => exact HR0.out); (case side3 => exact HC0.out); rintro e w34 ⟨g359, rfl, hi, hb, hb2⟩; refine ⟨_, rfl, ?_⟩; replace HB := Aside0.mk (hb); have HI359 := Aside0.mk (hi); (try clear hb); (try clear hb2); (try clear hk); (try clear hi)) | ((with_reducible refine gate_callee (f := 162) rfl ?_); refine goesL_ (some 10) rfl rfl Try.func162 (by kernel_rfl) rfl #[.pointer (some ⟨g359, 0, none⟩), .int .i64 8] rfl arg_ ?_; (with_reducible refine (spec_l01DrawPoly.calls k g359 t356 t357 t358 8 t360 t363 t364 w _ ?side1 ?side2 A3.out).mono ?_); (case side1 => exact IsS131.go_); (case side2 => exact IsS131.hb_); rintro e w35 ⟨v361, rfl, ho0, hi, hb, hk⟩; refine ⟨_, rfl, ?_⟩; have HO362 := Aside0.mk (Kd.R_lower ho0 (below_size IsS131.hb_)); replace HB := Aside0.mk (hb); replace HI359 := Aside0.mk (hi); (try clear hb); (try clear hb2); (try clear hk); (try clear hi); (try clear ho0)) | ((with_reducible refine gate_dst (N := 12) rfl ?_); (try (refine gate_guard (by rfl) ?_; dsimp only)); refine Kd.R_lit (Kd.int .i64) _ 2 ?hg (N := 12) ?hd (xs := ([1, 1, (-1)] : List Int)) (inner := [.int .i64 1, .int .i64 1, .int .i64 (-1)]) (ok := fun _ => True) (okp := fun _ => True) ?hr ?hp (fun _ hk => hk) trivial (Below.refl _ _) (Nat.le_refl _) (by simp) ?_; (case hd => rfl); (case hg => rfl); (case hr => first | (go_simp; done) | (go_simp; rfl)); (case hp => exact (Reps.one (show Kd.M (Kd.int .i64) _ _ _ 1 [.int .i64 1] from rfl) (Reps.one (show Kd.M (Kd.int .i64) _ _ _ 1 [.int .i64 1] from rfl) (Reps.one (show Kd.M (Kd.int .i64) _ _ _ (-1) [.int .i64 (-1)] from rfl) (Reps.none _ _))))); intro v366 w36 ho37 hb hg_ hnew_; clear hg_ hnew_; (first | rw [← Ny365.out] at ho37 | (simp only [Int.reduceToNat] at ho37; rw [← Ny365.out] at ho37)); have HO367 := Aside0.mk (Kd.R_lower (Kd.R_new' ho37 (Kd.R_lt (Kd.R_below HO362.out bgo_))) (below_size IsS131.hb_)); replace HO362 := Aside0.mk (Kd.R_elder' (Kd.R_below HO362.out bgo_) (Kd.R_base ho37) hb); replace HB := Aside0.mk (below_step IsS131.hb_ hb); replace HI359 := Aside0.mk (IsS131.below IsS131.go_ hb); clear hb ho37; obtain ⟨Ao38, co38, eo38⟩ := Kd.R_slice HO367.out; subst eo38) | ((with_reducible refine gate_callee (f := 144) rfl ?_); refine goesL_ (some 13) rfl rfl Try.func144 (by kernel_rfl) rfl #[.pointer (some ⟨g359, 0, none⟩), .slice Ao38 y365.length co38] rfl arg_ ?_; (with_reducible refine (spec_l01Pick.calls g359 t356 t363 t364 _ _ y365 t368 t369 t370 w _ ?side1 ?side2 ?side3 ?side4 ?side5 A4.out).mono ?_); (case side1 => exact IsS131.go_); (case side2 => exact IsS131.hb_); (case side3 => exact Kd.C_below (Kd.R_reads' HO367.out).2.2 bgo_); (case side4 => exact (Kd.R_reads' HO367.out).2.1); (case side5 => exact far_slice (IsS131.own_ne HI359.out HO367.out (by decide))); rintro e w39 ⟨rfl, hi, hb, hk⟩; refine ⟨_, rfl, ?_⟩; replace HO362 := Aside0.mk (Kd.R_mono (Kd.R_keep (IsS131.apart (show IsS131 w _ g359 t356 t363 t364 from IsS131.go_) (Kd.R_below HO362.out bgo_) (by decide)) hk (fun _ h => h.2)) (fun _ h => h.1)); replace HO367 := Aside0.mk (Kd.R_mono (Kd.R_keep (IsS131.apart (show IsS131 w _ g359 t356 t363 t364 from IsS131.go_) (Kd.R_below HO367.out bgo_) (by decide)) hk (fun _ h => h.2)) (fun _ h => h.1)); replace HB := Aside0.mk (hb); replace HI359 := Aside0.mk (hi); (try clear hb); (try clear hb2); (try clear hk); (try clear hi)) | ((with_reducible refine gate_dst (N := 14) rfl ?_); (try (refine gate_guard (by rfl) ?_; dsimp only)); refine Kd.R_lit (Kd.int .i64) _ 2 ?hg (N := 14) ?hd (xs := ([t368] : List Int)) (inner := [.int .i64 t368]) (ok := fun _ => True) (okp := fun _ => True) ?hr ?hp (fun _ hk => hk) trivial (Below.refl _ _) (Nat.le_refl _) (by simp) ?_; (case hd => rfl); (case hg => rfl); (case hr => first | (go_simp; done) | (go_simp; rfl)); (case hp => exact (Reps.one (show Kd.M (Kd.int .i64) _ _ _ t368 [.int .i64 t368] from rfl) (Reps.none _ _))); intro v372 w40 ho41 hb hg_ hnew_; clear hg_ hnew_; (first | rw [← Ny371.out] at ho41 | (simp only [Int.reduceToNat] at ho41; rw [← Ny371.out] at ho41)); have HO373 := Aside0.mk (Kd.R_lower (Kd.R_new' (Kd.R_new' ho41 (Kd.R_lt (Kd.R_below HO362.out bgo_))) (Kd.R_lt (Kd.R_below HO367.out bgo_))) (below_size IsS131.hb_)); replace HO362 := Aside0.mk (Kd.R_elder' (Kd.R_below HO362.out bgo_) (Kd.R_base ho41) hb); replace HO367 := Aside0.mk (Kd.R_elder' (Kd.R_below HO367.out bgo_) (Kd.R_base ho41) hb); replace HB := Aside0.mk (below_step IsS131.hb_ hb); replace HI359 := Aside0.mk (IsS131.below IsS131.go_ hb); clear hb ho41) | ((with_reducible refine gate_callee (f := 162) rfl ?_); refine goesL_ (some 16) rfl rfl Try.func162 (by kernel_rfl) rfl #[.pointer (some ⟨g359, 0, none⟩), .int .i64 5] rfl arg_ ?_; (with_reducible refine (spec_l01DrawPoly.calls k g359 t356 t369 t370 5 t374 t377 t378 w _ ?side1 ?side2 A5.out).mono ?_); (case side1 => exact IsS131.go_); (case side2 => exact IsS131.hb_); rintro e w42 ⟨v375, rfl, ho0, hi, hb, hk⟩; refine ⟨_, rfl, ?_⟩; have HO376 := Aside0.mk (Kd.R_lower (Kd.R_new' (Kd.R_new' (Kd.R_new' ho0 (Kd.R_lt (Kd.R_below HO362.out bgo_))) (Kd.R_lt (Kd.R_below HO367.out bgo_))) (Kd.R_lt (Kd.R_below HO373.out bgo_))) (below_size IsS131.hb_)); replace HO362 := Aside0.mk (Kd.R_mono (Kd.R_told (Kd.R_oldK (IsS131.apart (show IsS131 w _ g359 t356 t369 t370 from IsS131.go_) (Kd.R_below HO362.out bgo_) (by decide)) hk) (Kd.R_base ho0)) (fun _ h_ => h_.1)); replace HO367 := Aside0.mk (Kd.R_mono (Kd.R_told (Kd.R_oldK (IsS131.apart (show IsS131 w _ g359 t356 t369 t370 from IsS131.go_) (Kd.R_below HO367.out bgo_) (by decide)) hk) (Kd.R_base ho0)) (fun _ h_ => h_.1)); replace HO373 := Aside0.mk (Kd.R_mono (Kd.R_told (Kd.R_oldK (IsS131.apart (show IsS131 w _ g359 t356 t369 t370 from IsS131.go_) (Kd.R_below HO373.out bgo_) (by decide)) hk) (Kd.R_base ho0)) (fun _ h_ => h_.1)); replace HB := Aside0.mk (hb); replace HI359 := Aside0.mk (hi); (try clear hb); (try clear hb2); (try clear hk); (try clear hi); (try clear ho0); obtain ⟨Ao44, co44, eo44⟩ := Kd.R_slice HO376.out; subst eo44) | ((with_reducible refine gate_builtin (b := .append) (xs := #[.tmp 14, .tmp 16]) rfl ?_); (try (refine gate_guard (by rfl) ?_; dsimp only)); at_builtin; refine Kd.R_append_rows (Kd.int .i64) (w0 := w) w.heap.size rfl (.tmp 14) (.tmp 16) 29 2 (.int .i64 0) 8 rfl Try.underlying29 info2 rfl (by decide) (by omega) v372 y371 t374 _ _ _ (fun k_ => some k_ ≠ (v361 : Value).ownBlock ∧ some k_ ≠ (.slice Ao38 y365.length co38 : Value).ownBlock ∧ some k_ ≠ (.slice Ao44 t374.length co44 : Value).ownBlock) (fun _ => False) rfl rfl ?aO ?aR (fun _ _ h => h) (fun _ h => h.elim) ?aF ?aB ?aS ?aL ?_; (case aR => repeat (first | exact (Kd.R_reads' HO376.out).2.2 | (with_reducible refine Kd.C_alloc ?_ _) | (with_reducible refine Kd.C_drewN ?_ _) | (with_reducible refine Kd.C_drew ?_))); (case aB => exact IsS131.hb_); (case aF => exact (fun k_ hk => ⟨Kd.fresh' (Kd.R_lt (Kd.R_below HO362.out bgo_)) k_ hk, Kd.fresh' (Kd.R_lt (Kd.R_below HO367.out bgo_)) k_ hk, Kd.fresh' (Kd.R_lt (Kd.R_below HO376.out bgo_)) k_ hk⟩)); (case aO => exact (by (with_reducible repeat (first | apply Kd.R_alloc | apply Kd.R_drewN | apply Kd.R_drew)); exact Kd.R_mono HO373.out (fun _ hk => ⟨hk.1.1.2, ⟨hk.1.2, hk.2⟩⟩))); (case aS => exact (below_size IsS131.hb_)); (case aL => have := LMc6.out; omega); intro v380 w43 ho hb hg hat; rw [← Ny379.out] at ho; replace HI359 := Aside0.mk (IsS131.grown IsS131.go_ hg (IsS131.own_ne HI359.out HO373.out (by decide))); replace HO362 := Aside0.mk (Kd.R_after (ok := (fun k_ => some k_ ≠ (.slice Ao38 y365.length co38 : Value).ownBlock ∧ some k_ ≠ (.slice Ao44 t374.length co44 : Value).ownBlock)) (by (with_reducible repeat (first | apply Kd.R_alloc | apply Kd.R_drewN | apply Kd.R_drew)); exact Kd.R_mono HO362.out (fun _ hk => ⟨⟨hk.1.1.2, hk.2⟩, hk.1.2⟩)) hg hat); replace HO367 := Aside0.mk (Kd.R_after (ok := (fun k_ => some k_ ≠ (v361 : Value).ownBlock ∧ some k_ ≠ (.slice Ao44 t374.length co44 : Value).ownBlock)) (by (with_reducible repeat (first | apply Kd.R_alloc | apply Kd.R_drewN | apply Kd.R_drew)); exact Kd.R_mono HO367.out (fun _ hk => ⟨⟨hk.1.1.2, hk.2⟩, hk.1.2⟩)) hg hat); replace HO376 := Aside0.mk (Kd.R_after (ok := (fun k_ => some k_ ≠ (v361 : Value).ownBlock ∧ some k_ ≠ (.slice Ao38 y365.length co38 : Value).ownBlock)) (by (with_reducible repeat (first | apply Kd.R_alloc | apply Kd.R_drewN | apply Kd.R_drew)); exact Kd.R_mono HO376.out (fun _ hk => ⟨⟨hk.1.1.2, hk.1.2⟩, hk.2⟩)) hg hat); replace HB := Aside0.mk (hb); have HO381 := Aside0.mk (ho); clear HO373; clear ho hb hg hat) | ((with_reducible refine gate_callee (f := 171) rfl ?_); refine goesL_ (some 19) rfl rfl Try.func171 (by kernel_rfl) rfl #[.pointer (some ⟨g359, 0, none⟩), .int .i64 5] rfl arg_ ?_; (with_reducible refine (spec_l01Next.calls g359 t356 t377 t378 5 t382 t383 t384 w _ ?side1 ?side2 A7.out).mono ?_); (case side1 => exact IsS131.go_); (case side2 => exact IsS131.hb_); rintro e w45 ⟨rfl, hi, hb, hk⟩; refine ⟨_, rfl, ?_⟩; replace HO362 := Aside0.mk (Kd.R_mono (Kd.R_keep (IsS131.apart (show IsS131 w _ g359 t356 t377 t378 from IsS131.go_) (Kd.R_below HO362.out bgo_) (by decide)) hk (fun _ h => h.2)) (fun _ h => h.1)); replace HO367 := Aside0.mk (Kd.R_mono (Kd.R_keep (IsS131.apart (show IsS131 w _ g359 t356 t377 t378 from IsS131.go_) (Kd.R_below HO367.out bgo_) (by decide)) hk (fun _ h => h.2)) (fun _ h => h.1)); replace HO376 := Aside0.mk (Kd.R_mono (Kd.R_keep (IsS131.apart (show IsS131 w _ g359 t356 t377 t378 from IsS131.go_) (Kd.R_below HO376.out bgo_) (by decide)) hk (fun _ h => h.2)) (fun _ h => h.1)); replace HO381 := Aside0.mk (Kd.R_mono (Kd.R_keep (IsS131.apart (show IsS131 w _ g359 t356 t377 t378 from IsS131.go_) (Kd.R_below HO381.out bgo_) (by decide)) hk (fun _ h => h.2)) (fun _ h => h.1)); replace HB := Aside0.mk (hb); replace HI359 := Aside0.mk (hi); (try clear hb); (try clear hb2); (try clear hk); (try clear hi)) | ((with_reducible refine gate_callee (f := 162) rfl ?_); refine goesL_ (some 44) rfl rfl Try.func162 (by kernel_rfl) rfl #[.pointer (some ⟨g359, 0, none⟩), .int .i64 4] rfl arg_ ?_; (with_reducible refine (spec_l01DrawPoly.calls k g359 t356 t383 t384 4 t400 t403 t404 w _ ?side1 ?side2 A30.out).mono ?_); (case side1 => exact IsS131.go_); (case side2 => exact IsS131.hb_); rintro e w46 ⟨v401, rfl, ho0, hi, hb, hk⟩; refine ⟨_, rfl, ?_⟩; have HO402 := Aside0.mk (Kd.R_lower (Kd.R_new' (Kd.R_new' (Kd.R_new' (Kd.R_new' ho0 (Kd.R_lt (Kd.R_below HO362.out bgo_))) (Kd.R_lt (Kd.R_below HO367.out bgo_))) (Kd.R_lt (Kd.R_below HO376.out bgo_))) (Kd.R_lt (Kd.R_below HO381.out bgo_))) (below_size IsS131.hb_)); replace HO362 := Aside0.mk (Kd.R_mono (Kd.R_told (Kd.R_oldK (IsS131.apart (show IsS131 w _ g359 t356 t383 t384 from IsS131.go_) (Kd.R_below HO362.out bgo_) (by decide)) hk) (Kd.R_base ho0)) (fun _ h_ => h_.1)); replace HO367 := Aside0.mk (Kd.R_mono (Kd.R_told (Kd.R_oldK (IsS131.apart (show IsS131 w _ g359 t356 t383 t384 from IsS131.go_) (Kd.R_below HO367.out bgo_) (by decide)) hk) (Kd.R_base ho0)) (fun _ h_ => h_.1)); replace HO376 := Aside0.mk (Kd.R_mono (Kd.R_told (Kd.R_oldK (IsS131.apart (show IsS131 w _ g359 t356 t383 t384 from IsS131.go_) (Kd.R_below HO376.out bgo_) (by decide)) hk) (Kd.R_base ho0)) (fun _ h_ => h_.1)); replace HO381 := Aside0.mk (Kd.R_mono (Kd.R_told (Kd.R_oldK (IsS131.apart (show IsS131 w _ g359 t356 t383 t384 from IsS131.go_) (Kd.R_below HO381.out bgo_) (by decide)) hk) (Kd.R_base ho0)) (fun _ h_ => h_.1)); replace HB := Aside0.mk (hb); replace HI359 := Aside0.mk (hi); (try clear hb); (try clear hb2); (try clear hk); (try clear hi); (try clear ho0); obtain ⟨Ao47, co47, eo47⟩ := Kd.R_slice HO362.out; subst eo47; obtain ⟨Ao48, co48, eo48⟩ := Kd.R_slice HO402.out; subst eo48) | ((with_reducible refine gate_callee (f := 172) rfl ?_); refine goesL_ (some 47) rfl rfl Try.func172 (by kernel_rfl) rfl #[.slice Ao47 t360.length co47, .slice Ao48 t400.length co48] rfl arg_ ?_; (with_reducible refine (spec_l01Times.calls k _ _ t360 _ _ t400 t405 _ ?side1 ?side2 ?side3 ?side4 A31.out).mono ?_); (case side1 => exact Kd.C_below (Kd.R_reads' HO362.out).2.2 bgo_); (case side2 => exact (Kd.R_reads' HO362.out).2.1); (case side3 => exact Kd.C_below (Kd.R_reads' HO402.out).2.2 bgo_); (case side4 => exact (Kd.R_reads' HO402.out).2.1); rintro e w49 ⟨v406, rfl, ho0, hb⟩; refine ⟨_, rfl, ?_⟩; have HO407 := Aside0.mk (Kd.R_lower (Kd.R_new' (Kd.R_new' (Kd.R_new' (Kd.R_new' (Kd.R_new' ho0 (Kd.R_lt (Kd.R_below HO362.out bgo_))) (Kd.R_lt (Kd.R_below HO367.out bgo_))) (Kd.R_lt (Kd.R_below HO376.out bgo_))) (Kd.R_lt (Kd.R_below HO381.out bgo_))) (Kd.R_lt (Kd.R_below HO402.out bgo_))) (below_size IsS131.hb_)); replace HO362 := Aside0.mk (Kd.R_elder' (Kd.R_below HO362.out bgo_) (Kd.R_base ho0) hb); replace HO367 := Aside0.mk (Kd.R_elder' (Kd.R_below HO367.out bgo_) (Kd.R_base ho0) hb); replace HO376 := Aside0.mk (Kd.R_elder' (Kd.R_below HO376.out bgo_) (Kd.R_base ho0) hb); replace HO381 := Aside0.mk (Kd.R_elder' (Kd.R_below HO381.out bgo_) (Kd.R_base ho0) hb); replace HO402 := Aside0.mk (Kd.R_elder' (Kd.R_below HO402.out bgo_) (Kd.R_base ho0) hb); replace HB := Aside0.mk (below_step IsS131.hb_ hb); replace HI359 := Aside0.mk (IsS131.below IsS131.go_ hb); (try clear hb); (try clear hb2); (try clear hk); (try clear hi); (try clear ho0); obtain ⟨Ao50, co50, eo50⟩ := Kd.R_slice HO407.out; subst eo50) | ((with_reducible refine gate_callee (f := 161) rfl ?_); refine goesL_ (some 50) rfl rfl Try.func161 (by kernel_rfl) rfl #[.pointer (some ⟨g359, 0, none⟩), .slice Ao50 t405.length co50] rfl arg_ ?_; (with_reducible refine (spec_l01Rough.calls k g359 t356 t403 t404 (fun k_ => some k_ = (.slice Ao50 t405.length co50 : Value).ownBlock) (.slice Ao50 t405.length co50) t405 t408 t411 t412 w _ ?side1 ?side2 ?side3 A32.out).mono ?_); (case side1 => exact IsS131.go_); (case side2 => exact IsS131.hb_); (case side3 => exact Kd.R_tight rfl HO407.out); rintro e w51 ⟨v409, rfl, ho0, hi, hb, hkp⟩; refine ⟨_, rfl, ?_⟩; have HO410 := Aside0.mk (Kd.R_mono (ok' := fun k_ => some k_ ≠ (.slice Ao47 t360.length co47 : Value).ownBlock ∧ some k_ ≠ (.slice Ao38 y365.length co38 : Value).ownBlock ∧ some k_ ≠ (.slice Ao44 t374.length co44 : Value).ownBlock ∧ some k_ ≠ (v380 : Value).ownBlock ∧ some k_ ≠ (.slice Ao48 t400.length co48 : Value).ownBlock) ho0 (fun k_ hk_ => ⟨Or.elim hk_ (fun hs_ => fun e_ => ((((IsS131.apart HI359.out HO362.out (by decide))).1 k_ e_.symm).1.2) hs_) (fun hn_ => (Kd.fresh' (Kd.R_lt (Kd.R_below HO362.out bgo_)) k_ hn_)), Or.elim hk_ (fun hs_ => fun e_ => ((((IsS131.apart HI359.out HO367.out (by decide))).1 k_ e_.symm).1.2) hs_) (fun hn_ => (Kd.fresh' (Kd.R_lt (Kd.R_below HO367.out bgo_)) k_ hn_)), Or.elim hk_ (fun hs_ => fun e_ => ((((IsS131.apart HI359.out HO376.out (by decide))).1 k_ e_.symm).1.2) hs_) (fun hn_ => (Kd.fresh' (Kd.R_lt (Kd.R_below HO376.out bgo_)) k_ hn_)), Or.elim hk_ (fun hs_ => fun e_ => ((((IsS131.apart HI359.out HO381.out (by decide))).1 k_ e_.symm).1.2) hs_) (fun hn_ => (Kd.fresh' (Kd.R_lt (Kd.R_below HO381.out bgo_)) k_ hn_)), Or.elim hk_ (fun hs_ => fun e_ => ((((IsS131.apart HI359.out HO402.out (by decide))).1 k_ e_.symm).1.2) hs_) (fun hn_ => (Kd.fresh' (Kd.R_lt (Kd.R_below HO402.out bgo_)) k_ hn_))⟩)); replace HO362 := Aside0.mk (Kd.R_mono (ok' := fun k_ => some k_ ≠ (.slice Ao38 y365.length co38 : Value).ownBlock ∧ some k_ ≠ (.slice Ao44 t374.length co44 : Value).ownBlock ∧ some k_ ≠ (v380 : Value).ownBlock ∧ some k_ ≠ (.slice Ao48 t400.length co48 : Value).ownBlock ∧ some k_ ≠ (v409 : Value).ownBlock) (Kd.R_keptB ((IsS131.apart HI359.out HO362.out (by decide))) hkp (fun k_ hk_ hs_ => Or.elim hs_ (fun hs_ => (hk_.1.2) hs_) (fun e_ => (hk_.2) e_))) (fun k_ hk_ => ⟨hk_.1.1.1.1.1.1, hk_.1.1.1.1.1.2, hk_.1.1.1.1.2, hk_.1.1.1.2, fun e_ => Or.elim (ho0.1 k_ e_.symm) (fun hs_ => hk_.2.1 (by first | exact hs_ | exact .inl hs_)) (fun hn_ => Nat.not_le.2 hk_.2.2 hn_)⟩)); replace HO367 := Aside0.mk (Kd.R_mono (ok' := fun k_ => some k_ ≠ (.slice Ao47 t360.length co47 : Value).ownBlock ∧ some k_ ≠ (.slice Ao44 t374.length co44 : Value).ownBlock ∧ some k_ ≠ (v380 : Value).ownBlock ∧ some k_ ≠ (.slice Ao48 t400.length co48 : Value).ownBlock ∧ some k_ ≠ (v409 : Value).ownBlock) (Kd.R_keptB ((IsS131.apart HI359.out HO367.out (by decide))) hkp (fun k_ hk_ hs_ => Or.elim hs_ (fun hs_ => (hk_.1.2) hs_) (fun e_ => (hk_.2) e_))) (fun k_ hk_ => ⟨hk_.1.1.1.1.1.1, hk_.1.1.1.1.1.2, hk_.1.1.1.1.2, hk_.1.1.1.2, fun e_ => Or.elim (ho0.1 k_ e_.symm) (fun hs_ => hk_.2.1 (by first | exact hs_ | exact .inl hs_)) (fun hn_ => Nat.not_le.2 hk_.2.2 hn_)⟩)); replace HO376 := Aside0.mk (Kd.R_mono (ok' := fun k_ => some k_ ≠ (.slice Ao47 t360.length co47 : Value).ownBlock ∧ some k_ ≠ (.slice Ao38 y365.length co38 : Value).ownBlock ∧ some k_ ≠ (v380 : Value).ownBlock ∧ some k_ ≠ (.slice Ao48 t400.length co48 : Value).ownBlock ∧ some k_ ≠ (v409 : Value).ownBlock) (Kd.R_keptB ((IsS131.apart HI359.out HO376.out (by decide))) hkp (fun k_ hk_ hs_ => Or.elim hs_ (fun hs_ => (hk_.1.2) hs_) (fun e_ => (hk_.2) e_))) (fun k_ hk_ => ⟨hk_.1.1.1.1.1.1, hk_.1.1.1.1.1.2, hk_.1.1.1.1.2, hk_.1.1.1.2, fun e_ => Or.elim (ho0.1 k_ e_.symm) (fun hs_ => hk_.2.1 (by first | exact hs_ | exact .inl hs_)) (fun hn_ => Nat.not_le.2 hk_.2.2 hn_)⟩)); replace HO381 := Aside0.mk (Kd.R_mono (ok' := fun k_ => some k_ ≠ (.slice Ao47 t360.length co47 : Value).ownBlock ∧ some k_ ≠ (.slice Ao38 y365.length co38 : Value).ownBlock ∧ some k_ ≠ (.slice Ao44 t374.length co44 : Value).ownBlock ∧ some k_ ≠ (.slice Ao48 t400.length co48 : Value).ownBlock ∧ some k_ ≠ (v409 : Value).ownBlock) (Kd.R_keptB ((IsS131.apart HI359.out HO381.out (by decide))) hkp (fun k_ hk_ hs_ => Or.elim hs_ (fun hs_ => (hk_.1.2) hs_) (fun e_ => (hk_.2) e_))) (fun k_ hk_ => ⟨hk_.1.1.1.1.1, hk_.1.1.1.1.2.1, hk_.1.1.1.1.2.2, hk_.1.1.1.2, fun e_ => Or.elim (ho0.1 k_ e_.symm) (fun hs_ => hk_.2.1 (by first | exact hs_ | exact .inl hs_)) (fun hn_ => Nat.not_le.2 hk_.2.2 hn_)⟩)); replace HO402 := Aside0.mk (Kd.R_mono (ok' := fun k_ => some k_ ≠ (.slice Ao47 t360.length co47 : Value).ownBlock ∧ some k_ ≠ (.slice Ao38 y365.length co38 : Value).ownBlock ∧ some k_ ≠ (.slice Ao44 t374.length co44 : Value).ownBlock ∧ some k_ ≠ (v380 : Value).ownBlock ∧ some k_ ≠ (v409 : Value).ownBlock) (Kd.R_keptB ((IsS131.apart HI359.out HO402.out (by decide))) hkp (fun k_ hk_ hs_ => Or.elim hs_ (fun hs_ => (hk_.1.2) hs_) (fun e_ => (hk_.2) e_))) (fun k_ hk_ => ⟨hk_.1.1.1.1.1.1.2, hk_.1.1.1.1.1.2, hk_.1.1.1.1.2, hk_.1.1.1.2, fun e_ => Or.elim (ho0.1 k_ e_.symm) (fun hs_ => hk_.2.1 (by first | exact hs_ | exact .inl hs_)) (fun hn_ => Nat.not_le.2 hk_.2.2 hn_)⟩)); replace HI359 := Aside0.mk (hi); replace HB := Aside0.mk (hb); clear HO407; (try clear hb); (try clear hkp); (try clear ho0)) | ((with_reducible refine gate_callee (f := 161) rfl ?_); refine goesL_ (some 53) rfl rfl Try.func161 (by kernel_rfl) rfl #[.pointer (some ⟨g359, 0, none⟩), .slice Ao48 t400.length co48] rfl arg_ ?_; (with_reducible refine (spec_l01Rough.calls k g359 t356 t411 t412 (fun k_ => some k_ = (.slice Ao48 t400.length co48 : Value).ownBlock) (.slice Ao48 t400.length co48) t400 t413 t416 t417 w _ ?side1 ?side2 ?side3 A33.out).mono ?_); (case side1 => exact IsS131.go_); (case side2 => exact IsS131.hb_); (case side3 => exact Kd.R_tight rfl HO402.out); rintro e w52 ⟨v414, rfl, ho0, hi, hb, hkp⟩; refine ⟨_, rfl, ?_⟩; have HO415 := Aside0.mk (Kd.R_mono (ok' := fun k_ => some k_ ≠ (.slice Ao47 t360.length co47 : Value).ownBlock ∧ some k_ ≠ (.slice Ao38 y365.length co38 : Value).ownBlock ∧ some k_ ≠ (.slice Ao44 t374.length co44 : Value).ownBlock ∧ some k_ ≠ (v380 : Value).ownBlock ∧ some k_ ≠ (v409 : Value).ownBlock) ho0 (fun k_ hk_ => ⟨Or.elim hk_ (fun hs_ => fun e_ => ((((IsS131.apart HI359.out HO362.out (by decide))).1 k_ e_.symm).1.2.2.2.1) hs_) (fun hn_ => (Kd.fresh' (Kd.R_lt (Kd.R_below HO362.out bgo_)) k_ hn_)), Or.elim hk_ (fun hs_ => fun e_ => ((((IsS131.apart HI359.out HO367.out (by decide))).1 k_ e_.symm).1.2.2.2.1) hs_) (fun hn_ => (Kd.fresh' (Kd.R_lt (Kd.R_below HO367.out bgo_)) k_ hn_)), Or.elim hk_ (fun hs_ => fun e_ => ((((IsS131.apart HI359.out HO376.out (by decide))).1 k_ e_.symm).1.2.2.2.1) hs_) (fun hn_ => (Kd.fresh' (Kd.R_lt (Kd.R_below HO376.out bgo_)) k_ hn_)), Or.elim hk_ (fun hs_ => fun e_ => ((((IsS131.apart HI359.out HO381.out (by decide))).1 k_ e_.symm).1.2.2.2.1) hs_) (fun hn_ => (Kd.fresh' (Kd.R_lt (Kd.R_below HO381.out bgo_)) k_ hn_)), Or.elim hk_ (fun hs_ => fun e_ => ((((IsS131.apart HI359.out HO410.out (by decide))).1 k_ e_.symm).1.2.2.2.2) hs_) (fun hn_ => (Kd.fresh' (Kd.R_lt (Kd.R_below HO410.out bgo_)) k_ hn_))⟩)); replace HO362 := Aside0.mk (Kd.R_mono (ok' := fun k_ => some k_ ≠ (.slice Ao38 y365.length co38 : Value).ownBlock ∧ some k_ ≠ (.slice Ao44 t374.length co44 : Value).ownBlock ∧ some k_ ≠ (v380 : Value).ownBlock ∧ some k_ ≠ (v409 : Value).ownBlock ∧ some k_ ≠ (v414 : Value).ownBlock) (Kd.R_keptB ((IsS131.apart HI359.out HO362.out (by decide))) hkp (fun k_ hk_ hs_ => Or.elim hs_ (fun hs_ => (hk_.1.2.2.2.1) hs_) (fun e_ => (hk_.2) e_))) (fun k_ hk_ => ⟨hk_.1.1.1, hk_.1.1.2.1, hk_.1.1.2.2.1, hk_.1.1.2.2.2.2, fun e_ => Or.elim (ho0.1 k_ e_.symm) (fun hs_ => hk_.2.1 (by first | exact hs_ | exact .inl hs_)) (fun hn_ => Nat.not_le.2 hk_.2.2 hn_)⟩)); replace HO367 := Aside0.mk (Kd.R_mono (ok' := fun k_ => some k_ ≠ (.slice Ao47 t360.length co47 : Value).ownBlock ∧ some k_ ≠ (.slice Ao44 t374.length co44 : Value).ownBlock ∧ some k_ ≠ (v380 : Value).ownBlock ∧ some k_ ≠ (v409 : Value).ownBlock ∧ some k_ ≠ (v414 : Value).ownBlock) (Kd.R_keptB ((IsS131.apart HI359.out HO367.out (by decide))) hkp (fun k_ hk_ hs_ => Or.elim hs_ (fun hs_ => (hk_.1.2.2.2.1) hs_) (fun e_ => (hk_.2) e_))) (fun k_ hk_ => ⟨hk_.1.1.1, hk_.1.1.2.1, hk_.1.1.2.2.1, hk_.1.1.2.2.2.2, fun e_ => Or.elim (ho0.1 k_ e_.symm) (fun hs_ => hk_.2.1 (by first | exact hs_ | exact .inl hs_)) (fun hn_ => Nat.not_le.2 hk_.2.2 hn_)⟩)); replace HO376 := Aside0.mk (Kd.R_mono (ok' := fun k_ => some k_ ≠ (.slice Ao47 t360.length co47 : Value).ownBlock ∧ some k_ ≠ (.slice Ao38 y365.length co38 : Value).ownBlock ∧ some k_ ≠ (v380 : Value).ownBlock ∧ some k_ ≠ (v409 : Value).ownBlock ∧ some k_ ≠ (v414 : Value).ownBlock) (Kd.R_keptB ((IsS131.apart HI359.out HO376.out (by decide))) hkp (fun k_ hk_ hs_ => Or.elim hs_ (fun hs_ => (hk_.1.2.2.2.1) hs_) (fun e_ => (hk_.2) e_))) (fun k_ hk_ => ⟨hk_.1.1.1, hk_.1.1.2.1, hk_.1.1.2.2.1, hk_.1.1.2.2.2.2, fun e_ => Or.elim (ho0.1 k_ e_.symm) (fun hs_ => hk_.2.1 (by first | exact hs_ | exact .inl hs_)) (fun hn_ => Nat.not_le.2 hk_.2.2 hn_)⟩)); replace HO381 := Aside0.mk (Kd.R_mono (ok' := fun k_ => some k_ ≠ (.slice Ao47 t360.length co47 : Value).ownBlock ∧ some k_ ≠ (.slice Ao38 y365.length co38 : Value).ownBlock ∧ some k_ ≠ (.slice Ao44 t374.length co44 : Value).ownBlock ∧ some k_ ≠ (v409 : Value).ownBlock ∧ some k_ ≠ (v414 : Value).ownBlock) (Kd.R_keptB ((IsS131.apart HI359.out HO381.out (by decide))) hkp (fun k_ hk_ hs_ => Or.elim hs_ (fun hs_ => (hk_.1.2.2.2.1) hs_) (fun e_ => (hk_.2) e_))) (fun k_ hk_ => ⟨hk_.1.1.1, hk_.1.1.2.1, hk_.1.1.2.2.1, hk_.1.1.2.2.2.2, fun e_ => Or.elim (ho0.1 k_ e_.symm) (fun hs_ => hk_.2.1 (by first | exact hs_ | exact .inl hs_)) (fun hn_ => Nat.not_le.2 hk_.2.2 hn_)⟩)); replace HO410 := Aside0.mk (Kd.R_mono (ok' := fun k_ => some k_ ≠ (.slice Ao47 t360.length co47 : Value).ownBlock ∧ some k_ ≠ (.slice Ao38 y365.length co38 : Value).ownBlock ∧ some k_ ≠ (.slice Ao44 t374.length co44 : Value).ownBlock ∧ some k_ ≠ (v380 : Value).ownBlock ∧ some k_ ≠ (v414 : Value).ownBlock) (Kd.R_keptB ((IsS131.apart HI359.out HO410.out (by decide))) hkp (fun k_ hk_ hs_ => Or.elim hs_ (fun hs_ => (hk_.1.2.2.2.2) hs_) (fun e_ => (hk_.2) e_))) (fun k_ hk_ => ⟨hk_.1.1.1, hk_.1.1.2.1, hk_.1.1.2.2.1, hk_.1.1.2.2.2.1, fun e_ => Or.elim (ho0.1 k_ e_.symm) (fun hs_ => hk_.2.1 (by first | exact hs_ | exact .inl hs_)) (fun hn_ => Nat.not_le.2 hk_.2.2 hn_)⟩)); replace HI359 := Aside0.mk (hi); replace HB := Aside0.mk (hb); clear HO402; (try clear hb); (try clear hkp); (try clear ho0)))
    go_ret2
    exact ⟨_, _, er_, by (with_reducible repeat (first | apply Kd.R_alloc | apply Kd.R_drewN | apply Kd.R_drew)); exact Kd.R_mono HO410.out (fun _ hk => hk.2.2.2.2), by (with_reducible repeat (first | apply Kd.R_alloc | apply Kd.R_drewN | apply Kd.R_drew)); exact Kd.R_mono HO415.out (fun _ hk => hk.2.2.2.2), IsS131.hb_⟩
   ·rw [if_neg c29] at H
    have c29b0 : (t382 == 1) = false := beq_eq_false_iff_ne.mpr c29
    have c29b1 : (t382 != 1) = true := bne_iff_ne.mpr c29
    obtain ⟨t418, A53, H⟩ := bnd_ H
    have HC54 := Aside0.mk H
    clear H
    go_enter Try.func64, Try.ntmps64
    go_upto_region 5 with (first | ((with_reducible refine gate_callee (f := 102) rfl ?_); refine goesL_ (some 8) rfl rfl Try.func102 (by kernel_rfl) rfl #[.slice A0 l0.length c0] rfl arg_ ?_; (with_reducible refine (spec_l01From.calls k _ _ l0 t356 t357 t358 w _ ?side1 ?side2 ?side3 A2.out).mono ?_); (case side1 => exact hb_); (case side2 => exact HR0.out); (case side3 => exact HC0.out); rintro e w55 ⟨g359, rfl, hi, hb, hb2⟩; refine ⟨_, rfl, ?_⟩; replace HB := Aside0.mk (hb); have HI359 := Aside0.mk (hi); (try clear hb); (try clear hb2); (try clear hk); (try clear hi)) | ((with_reducible refine gate_callee (f := 162) rfl ?_); refine goesL_ (some 10) rfl rfl Try.func162 (by kernel_rfl) rfl #[.pointer (some ⟨g359, 0, none⟩), .int .i64 8] rfl arg_ ?_; (with_reducible refine (spec_l01DrawPoly.calls k g359 t356 t357 t358 8 t360 t363 t364 w _ ?side1 ?side2 A3.out).mono ?_); (case side1 => exact IsS131.go_); (case side2 => exact IsS131.hb_); rintro e w56 ⟨v361, rfl, ho0, hi, hb, hk⟩; refine ⟨_, rfl, ?_⟩; have HO362 := Aside0.mk (Kd.R_lower ho0 (below_size IsS131.hb_)); replace HB := Aside0.mk (hb); replace HI359 := Aside0.mk (hi); (try clear hb); (try clear hb2); (try clear hk); (try clear hi); (try clear ho0)) | ((with_reducible refine gate_dst (N := 12) rfl ?_); (try (refine gate_guard (by rfl) ?_; dsimp only)); refine Kd.R_lit (Kd.int .i64) _ 2 ?hg (N := 12) ?hd (xs := ([1, 1, (-1)] : List Int)) (inner := [.int .i64 1, .int .i64 1, .int .i64 (-1)]) (ok := fun _ => True) (okp := fun _ => True) ?hr ?hp (fun _ hk => hk) trivial (Below.refl _ _) (Nat.le_refl _) (by simp) ?_; (case hd => rfl); (case hg => rfl); (case hr => first | (go_simp; done) | (go_simp; rfl)); (case hp => exact (Reps.one (show Kd.M (Kd.int .i64) _ _ _ 1 [.int .i64 1] from rfl) (Reps.one (show Kd.M (Kd.int .i64) _ _ _ 1 [.int .i64 1] from rfl) (Reps.one (show Kd.M (Kd.int .i64) _ _ _ (-1) [.int .i64 (-1)] from rfl) (Reps.none _ _))))); intro v366 w57 ho58 hb hg_ hnew_; clear hg_ hnew_; (first | rw [← Ny365.out] at ho58 | (simp only [Int.reduceToNat] at ho58; rw [← Ny365.out] at ho58)); have HO367 := Aside0.mk (Kd.R_lower (Kd.R_new' ho58 (Kd.R_lt (Kd.R_below HO362.out bgo_))) (below_size IsS131.hb_)); replace HO362 := Aside0.mk (Kd.R_elder' (Kd.R_below HO362.out bgo_) (Kd.R_base ho58) hb); replace HB := Aside0.mk (below_step IsS131.hb_ hb); replace HI359 := Aside0.mk (IsS131.below IsS131.go_ hb); clear hb ho58; obtain ⟨Ao59, co59, eo59⟩ := Kd.R_slice HO367.out; subst eo59) | ((with_reducible refine gate_callee (f := 144) rfl ?_); refine goesL_ (some 13) rfl rfl Try.func144 (by kernel_rfl) rfl #[.pointer (some ⟨g359, 0, none⟩), .slice Ao59 y365.length co59] rfl arg_ ?_; (with_reducible refine (spec_l01Pick.calls g359 t356 t363 t364 _ _ y365 t368 t369 t370 w _ ?side1 ?side2 ?side3 ?side4 ?side5 A4.out).mono ?_); (case side1 => exact IsS131.go_); (case side2 => exact IsS131.hb_); (case side3 => exact Kd.C_below (Kd.R_reads' HO367.out).2.2 bgo_); (case side4 => exact (Kd.R_reads' HO367.out).2.1); (case side5 => exact far_slice (IsS131.own_ne HI359.out HO367.out (by decide))); rintro e w60 ⟨rfl, hi, hb, hk⟩; refine ⟨_, rfl, ?_⟩; replace HO362 := Aside0.mk (Kd.R_mono (Kd.R_keep (IsS131.apart (show IsS131 w _ g359 t356 t363 t364 from IsS131.go_) (Kd.R_below HO362.out bgo_) (by decide)) hk (fun _ h => h.2)) (fun _ h => h.1)); replace HO367 := Aside0.mk (Kd.R_mono (Kd.R_keep (IsS131.apart (show IsS131 w _ g359 t356 t363 t364 from IsS131.go_) (Kd.R_below HO367.out bgo_) (by decide)) hk (fun _ h => h.2)) (fun _ h => h.1)); replace HB := Aside0.mk (hb); replace HI359 := Aside0.mk (hi); (try clear hb); (try clear hb2); (try clear hk); (try clear hi)) | ((with_reducible refine gate_dst (N := 14) rfl ?_); (try (refine gate_guard (by rfl) ?_; dsimp only)); refine Kd.R_lit (Kd.int .i64) _ 2 ?hg (N := 14) ?hd (xs := ([t368] : List Int)) (inner := [.int .i64 t368]) (ok := fun _ => True) (okp := fun _ => True) ?hr ?hp (fun _ hk => hk) trivial (Below.refl _ _) (Nat.le_refl _) (by simp) ?_; (case hd => rfl); (case hg => rfl); (case hr => first | (go_simp; done) | (go_simp; rfl)); (case hp => exact (Reps.one (show Kd.M (Kd.int .i64) _ _ _ t368 [.int .i64 t368] from rfl) (Reps.none _ _))); intro v372 w61 ho62 hb hg_ hnew_; clear hg_ hnew_; (first | rw [← Ny371.out] at ho62 | (simp only [Int.reduceToNat] at ho62; rw [← Ny371.out] at ho62)); have HO373 := Aside0.mk (Kd.R_lower (Kd.R_new' (Kd.R_new' ho62 (Kd.R_lt (Kd.R_below HO362.out bgo_))) (Kd.R_lt (Kd.R_below HO367.out bgo_))) (below_size IsS131.hb_)); replace HO362 := Aside0.mk (Kd.R_elder' (Kd.R_below HO362.out bgo_) (Kd.R_base ho62) hb); replace HO367 := Aside0.mk (Kd.R_elder' (Kd.R_below HO367.out bgo_) (Kd.R_base ho62) hb); replace HB := Aside0.mk (below_step IsS131.hb_ hb); replace HI359 := Aside0.mk (IsS131.below IsS131.go_ hb); clear hb ho62) | ((with_reducible refine gate_callee (f := 162) rfl ?_); refine goesL_ (some 16) rfl rfl Try.func162 (by kernel_rfl) rfl #[.pointer (some ⟨g359, 0, none⟩), .int .i64 5] rfl arg_ ?_; (with_reducible refine (spec_l01DrawPoly.calls k g359 t356 t369 t370 5 t374 t377 t378 w _ ?side1 ?side2 A5.out).mono ?_); (case side1 => exact IsS131.go_); (case side2 => exact IsS131.hb_); rintro e w63 ⟨v375, rfl, ho0, hi, hb, hk⟩; refine ⟨_, rfl, ?_⟩; have HO376 := Aside0.mk (Kd.R_lower (Kd.R_new' (Kd.R_new' (Kd.R_new' ho0 (Kd.R_lt (Kd.R_below HO362.out bgo_))) (Kd.R_lt (Kd.R_below HO367.out bgo_))) (Kd.R_lt (Kd.R_below HO373.out bgo_))) (below_size IsS131.hb_)); replace HO362 := Aside0.mk (Kd.R_mono (Kd.R_told (Kd.R_oldK (IsS131.apart (show IsS131 w _ g359 t356 t369 t370 from IsS131.go_) (Kd.R_below HO362.out bgo_) (by decide)) hk) (Kd.R_base ho0)) (fun _ h_ => h_.1)); replace HO367 := Aside0.mk (Kd.R_mono (Kd.R_told (Kd.R_oldK (IsS131.apart (show IsS131 w _ g359 t356 t369 t370 from IsS131.go_) (Kd.R_below HO367.out bgo_) (by decide)) hk) (Kd.R_base ho0)) (fun _ h_ => h_.1)); replace HO373 := Aside0.mk (Kd.R_mono (Kd.R_told (Kd.R_oldK (IsS131.apart (show IsS131 w _ g359 t356 t369 t370 from IsS131.go_) (Kd.R_below HO373.out bgo_) (by decide)) hk) (Kd.R_base ho0)) (fun _ h_ => h_.1)); replace HB := Aside0.mk (hb); replace HI359 := Aside0.mk (hi); (try clear hb); (try clear hb2); (try clear hk); (try clear hi); (try clear ho0); obtain ⟨Ao65, co65, eo65⟩ := Kd.R_slice HO376.out; subst eo65) | ((with_reducible refine gate_builtin (b := .append) (xs := #[.tmp 14, .tmp 16]) rfl ?_); (try (refine gate_guard (by rfl) ?_; dsimp only)); at_builtin; refine Kd.R_append_rows (Kd.int .i64) (w0 := w) w.heap.size rfl (.tmp 14) (.tmp 16) 29 2 (.int .i64 0) 8 rfl Try.underlying29 info2 rfl (by decide) (by omega) v372 y371 t374 _ _ _ (fun k_ => some k_ ≠ (v361 : Value).ownBlock ∧ some k_ ≠ (.slice Ao59 y365.length co59 : Value).ownBlock ∧ some k_ ≠ (.slice Ao65 t374.length co65 : Value).ownBlock) (fun _ => False) rfl rfl ?aO ?aR (fun _ _ h => h) (fun _ h => h.elim) ?aF ?aB ?aS ?aL ?_; (case aR => repeat (first | exact (Kd.R_reads' HO376.out).2.2 | (with_reducible refine Kd.C_alloc ?_ _) | (with_reducible refine Kd.C_drewN ?_ _) | (with_reducible refine Kd.C_drew ?_))); (case aB => exact IsS131.hb_); (case aF => exact (fun k_ hk => ⟨Kd.fresh' (Kd.R_lt (Kd.R_below HO362.out bgo_)) k_ hk, Kd.fresh' (Kd.R_lt (Kd.R_below HO367.out bgo_)) k_ hk, Kd.fresh' (Kd.R_lt (Kd.R_below HO376.out bgo_)) k_ hk⟩)); (case aO => exact (by (with_reducible repeat (first | apply Kd.R_alloc | apply Kd.R_drewN | apply Kd.R_drew)); exact Kd.R_mono HO373.out (fun _ hk => ⟨hk.1.1.2, ⟨hk.1.2, hk.2⟩⟩))); (case aS => exact (below_size IsS131.hb_)); (case aL => have := LMc6.out; omega); intro v380 w64 ho hb hg hat; rw [← Ny379.out] at ho; replace HI359 := Aside0.mk (IsS131.grown IsS131.go_ hg (IsS131.own_ne HI359.out HO373.out (by decide))); replace HO362 := Aside0.mk (Kd.R_after (ok := (fun k_ => some k_ ≠ (.slice Ao59 y365.length co59 : Value).ownBlock ∧ some k_ ≠ (.slice Ao65 t374.length co65 : Value).ownBlock)) (by (with_reducible repeat (first | apply Kd.R_alloc | apply Kd.R_drewN | apply Kd.R_drew)); exact Kd.R_mono HO362.out (fun _ hk => ⟨⟨hk.1.1.2, hk.2⟩, hk.1.2⟩)) hg hat); replace HO367 := Aside0.mk (Kd.R_after (ok := (fun k_ => some k_ ≠ (v361 : Value).ownBlock ∧ some k_ ≠ (.slice Ao65 t374.length co65 : Value).ownBlock)) (by (with_reducible repeat (first | apply Kd.R_alloc | apply Kd.R_drewN | apply Kd.R_drew)); exact Kd.R_mono HO367.out (fun _ hk => ⟨⟨hk.1.1.2, hk.2⟩, hk.1.2⟩)) hg hat); replace HO376 := Aside0.mk (Kd.R_after (ok := (fun k_ => some k_ ≠ (v361 : Value).ownBlock ∧ some k_ ≠ (.slice Ao59 y365.length co59 : Value).ownBlock)) (by (with_reducible repeat (first | apply Kd.R_alloc | apply Kd.R_drewN | apply Kd.R_drew)); exact Kd.R_mono HO376.out (fun _ hk => ⟨⟨hk.1.1.2, hk.1.2⟩, hk.2⟩)) hg hat); replace HB := Aside0.mk (hb); have HO381 := Aside0.mk (ho); clear HO373; clear ho hb hg hat) | ((with_reducible refine gate_callee (f := 171) rfl ?_); refine goesL_ (some 19) rfl rfl Try.func171 (by kernel_rfl) rfl #[.pointer (some ⟨g359, 0, none⟩), .int .i64 5] rfl arg_ ?_; (with_reducible refine (spec_l01Next.calls g359 t356 t377 t378 5 t382 t383 t384 w _ ?side1 ?side2 A7.out).mono ?_); (case side1 => exact IsS131.go_); (case side2 => exact IsS131.hb_); rintro e w66 ⟨rfl, hi, hb, hk⟩; refine ⟨_, rfl, ?_⟩; replace HO362 := Aside0.mk (Kd.R_mono (Kd.R_keep (IsS131.apart (show IsS131 w _ g359 t356 t377 t378 from IsS131.go_) (Kd.R_below HO362.out bgo_) (by decide)) hk (fun _ h => h.2)) (fun _ h => h.1)); replace HO367 := Aside0.mk (Kd.R_mono (Kd.R_keep (IsS131.apart (show IsS131 w _ g359 t356 t377 t378 from IsS131.go_) (Kd.R_below HO367.out bgo_) (by decide)) hk (fun _ h => h.2)) (fun _ h => h.1)); replace HO376 := Aside0.mk (Kd.R_mono (Kd.R_keep (IsS131.apart (show IsS131 w _ g359 t356 t377 t378 from IsS131.go_) (Kd.R_below HO376.out bgo_) (by decide)) hk (fun _ h => h.2)) (fun _ h => h.1)); replace HO381 := Aside0.mk (Kd.R_mono (Kd.R_keep (IsS131.apart (show IsS131 w _ g359 t356 t377 t378 from IsS131.go_) (Kd.R_below HO381.out bgo_) (by decide)) hk (fun _ h => h.2)) (fun _ h => h.1)); replace HB := Aside0.mk (hb); replace HI359 := Aside0.mk (hi); (try clear hb); (try clear hb2); (try clear hk); (try clear hi); obtain ⟨Ao67, co67, eo67⟩ := Kd.R_slice HO362.out; subst eo67; obtain ⟨Ao68, co68, eo68⟩ := Kd.R_slice HO381.out; subst eo68) | ((with_reducible refine gate_callee (f := 172) rfl ?_); refine goesL_ (some 22) rfl rfl Try.func172 (by kernel_rfl) rfl #[.slice Ao67 t360.length co67, .slice Ao68 y379.length co68] rfl arg_ ?_; (with_reducible refine (spec_l01Times.calls k _ _ t360 _ _ y379 t418 _ ?side1 ?side2 ?side3 ?side4 A53.out).mono ?_); (case side1 => exact Kd.C_below (Kd.R_reads' HO362.out).2.2 bgo_); (case side2 => exact (Kd.R_reads' HO362.out).2.1); (case side3 => exact Kd.C_below (Kd.R_reads' HO381.out).2.2 bgo_); (case side4 => exact (Kd.R_reads' HO381.out).2.1); rintro e w69 ⟨v419, rfl, ho0, hb⟩; refine ⟨_, rfl, ?_⟩; have HO420 := Aside0.mk (Kd.R_lower (Kd.R_new' (Kd.R_new' (Kd.R_new' (Kd.R_new' ho0 (Kd.R_lt (Kd.R_below HO362.out bgo_))) (Kd.R_lt (Kd.R_below HO367.out bgo_))) (Kd.R_lt (Kd.R_below HO376.out bgo_))) (Kd.R_lt (Kd.R_below HO381.out bgo_))) (below_size IsS131.hb_)); replace HO362 := Aside0.mk (Kd.R_elder' (Kd.R_below HO362.out bgo_) (Kd.R_base ho0) hb); replace HO367 := Aside0.mk (Kd.R_elder' (Kd.R_below HO367.out bgo_) (Kd.R_base ho0) hb); replace HO376 := Aside0.mk (Kd.R_elder' (Kd.R_below HO376.out bgo_) (Kd.R_base ho0) hb); replace HO381 := Aside0.mk (Kd.R_elder' (Kd.R_below HO381.out bgo_) (Kd.R_base ho0) hb); replace HB := Aside0.mk (below_step IsS131.hb_ hb); replace HI359 := Aside0.mk (IsS131.below IsS131.go_ hb); (try clear hb); (try clear hb2); (try clear hk); (try clear hi); (try clear ho0)))
    (try simp only [Act.put, List.setIfInBounds_toArray, List.set_cons_zero, List.set_cons_succ])
    go_cut [30] (fun v30 wc => ∃ (kq : Nat) (x30_53 : Bool) (x360001_53 : Int) (x360002_53 : Int), v30 = .bool x30_53 ∧ Aside0 (spec_DrawDivideWhole.j0 kq t418 y379 x30_53 t356 x360001_53 x360002_53 = some (r1, r2)) ∧ Aside0 (kq ≤ k) ∧ Aside0 (Kd.R (Kd.int .i64) 2 wc w.heap.size (fun k_ => some k_ ≠ ((.slice Ao68 y379.length co68) : Value).ownBlock) v419 t418) ∧ Aside0 (Kd.R (Kd.int .i64) 2 wc w.heap.size (fun k_ => some k_ ≠ (v419 : Value).ownBlock) (.slice Ao68 y379.length co68) y379) ∧ Aside0 (IsS131 w wc g359 t356 x360001_53 x360002_53) ∧ Aside0 (Below w.heap.size w wc))
    case first =>
     have H := HC54.out
     clear HC54
     obtain ⟨⟨t421, t422, t423⟩, A70, H⟩ := bnd_ H
     dsimp only at H
     by_cases c71 : t421 = 0
     ·rw [if_pos c71] at H
      have c71b0 : (t421 == 0) = true := beq_iff_eq.mpr c71
      have c71b1 : (t421 != 0) = false := bne_eq_false_iff_eq.mpr c71
      clear c71
      (first | rw [c71b0] | (simp only [i64_w, i32_w]; rw [c71b0]) | skip)
      have H' := Aside0.mk H
      clear H
      go_wp2_with (first | ((with_reducible refine gate_callee (f := 171) rfl ?_); refine goesL_ (some 24) rfl rfl Try.func171 (by kernel_rfl) rfl #[.pointer (some ⟨g359, 0, none⟩), .int .i64 4] rfl arg_ ?_; (with_reducible refine (spec_l01Next.calls g359 t356 t383 t384 4 t421 t422 t423 w _ ?side1 ?side2 A70.out).mono ?_); (case side1 => exact IsS131.go_); (case side2 => exact IsS131.hb_); rintro e w72 ⟨rfl, hi, hb, hk⟩; refine ⟨_, rfl, ?_⟩; replace HO362 := Aside0.mk (Kd.R_mono (Kd.R_keep (IsS131.apart (show IsS131 w _ g359 t356 t383 t384 from IsS131.go_) (Kd.R_below HO362.out bgo_) (by decide)) hk (fun _ h => h.2)) (fun _ h => h.1)); replace HO367 := Aside0.mk (Kd.R_mono (Kd.R_keep (IsS131.apart (show IsS131 w _ g359 t356 t383 t384 from IsS131.go_) (Kd.R_below HO367.out bgo_) (by decide)) hk (fun _ h => h.2)) (fun _ h => h.1)); replace HO376 := Aside0.mk (Kd.R_mono (Kd.R_keep (IsS131.apart (show IsS131 w _ g359 t356 t383 t384 from IsS131.go_) (Kd.R_below HO376.out bgo_) (by decide)) hk (fun _ h => h.2)) (fun _ h => h.1)); replace HO381 := Aside0.mk (Kd.R_mono (Kd.R_keep (IsS131.apart (show IsS131 w _ g359 t356 t383 t384 from IsS131.go_) (Kd.R_below HO381.out bgo_) (by decide)) hk (fun _ h => h.2)) (fun _ h => h.1)); replace HO420 := Aside0.mk (Kd.R_mono (Kd.R_keep (IsS131.apart (show IsS131 w _ g359 t356 t383 t384 from IsS131.go_) (Kd.R_below HO420.out bgo_) (by decide)) hk (fun _ h => h.2)) (fun _ h => h.1)); replace HB := Aside0.mk (hb); replace HI359 := Aside0.mk (hi); (try clear hb); (try clear hb2); (try clear hk); (try clear hi); obtain ⟨Ao73, co73, eo73⟩ := Kd.R_slice HO420.out; subst eo73))
      go_meet
      case rel => exact ⟨_, (decide ((t418.length : Int) > 0)), (t422), (t423), es_, H', ⟨by first | omega | exact Nat.le_refl _⟩, ⟨by (with_reducible repeat (first | apply Kd.R_alloc | apply Kd.R_drewN | apply Kd.R_drew)); exact Kd.R_mono HO420.out (fun _ hk => hk.2)⟩, ⟨by (with_reducible repeat (first | apply Kd.R_alloc | apply Kd.R_drewN | apply Kd.R_drew)); exact Kd.R_mono HO381.out (fun _ hk => hk.2)⟩, ⟨IsS131.go_⟩, ⟨IsS131.hb_⟩⟩
     ·rw [if_neg c71] at H
      have c71b0 : (t421 == 0) = false := beq_eq_false_iff_ne.mpr c71
      have c71b1 : (t421 != 0) = true := bne_iff_ne.mpr c71
      (first | rw [c71b0] | (simp only [i64_w, i32_w]; rw [c71b0]) | skip)
      have H' := Aside0.mk H
      clear H
      go_wp2_with (first | ((with_reducible refine gate_callee (f := 171) rfl ?_); refine goesL_ (some 24) rfl rfl Try.func171 (by kernel_rfl) rfl #[.pointer (some ⟨g359, 0, none⟩), .int .i64 4] rfl arg_ ?_; (with_reducible refine (spec_l01Next.calls g359 t356 t383 t384 4 t421 t422 t423 w _ ?side1 ?side2 A70.out).mono ?_); (case side1 => exact IsS131.go_); (case side2 => exact IsS131.hb_); rintro e w74 ⟨rfl, hi, hb, hk⟩; refine ⟨_, rfl, ?_⟩; replace HO362 := Aside0.mk (Kd.R_mono (Kd.R_keep (IsS131.apart (show IsS131 w _ g359 t356 t383 t384 from IsS131.go_) (Kd.R_below HO362.out bgo_) (by decide)) hk (fun _ h => h.2)) (fun _ h => h.1)); replace HO367 := Aside0.mk (Kd.R_mono (Kd.R_keep (IsS131.apart (show IsS131 w _ g359 t356 t383 t384 from IsS131.go_) (Kd.R_below HO367.out bgo_) (by decide)) hk (fun _ h => h.2)) (fun _ h => h.1)); replace HO376 := Aside0.mk (Kd.R_mono (Kd.R_keep (IsS131.apart (show IsS131 w _ g359 t356 t383 t384 from IsS131.go_) (Kd.R_below HO376.out bgo_) (by decide)) hk (fun _ h => h.2)) (fun _ h => h.1)); replace HO381 := Aside0.mk (Kd.R_mono (Kd.R_keep (IsS131.apart (show IsS131 w _ g359 t356 t383 t384 from IsS131.go_) (Kd.R_below HO381.out bgo_) (by decide)) hk (fun _ h => h.2)) (fun _ h => h.1)); replace HO420 := Aside0.mk (Kd.R_mono (Kd.R_keep (IsS131.apart (show IsS131 w _ g359 t356 t383 t384 from IsS131.go_) (Kd.R_below HO420.out bgo_) (by decide)) hk (fun _ h => h.2)) (fun _ h => h.1)); replace HB := Aside0.mk (hb); replace HI359 := Aside0.mk (hi); (try clear hb); (try clear hb2); (try clear hk); (try clear hi)))
      go_meet
      case rel => exact ⟨_, (false), (t422), (t423), es_, H', ⟨by first | omega | exact Nat.le_refl _⟩, ⟨by (with_reducible repeat (first | apply Kd.R_alloc | apply Kd.R_drewN | apply Kd.R_drew)); exact Kd.R_mono HO420.out (fun _ hk => hk.2)⟩, ⟨by (with_reducible repeat (first | apply Kd.R_alloc | apply Kd.R_drewN | apply Kd.R_drew)); exact Kd.R_mono HO381.out (fun _ hk => hk.2)⟩, ⟨IsS131.go_⟩, ⟨IsS131.hb_⟩⟩
    case rest =>
     clear HC54
     obtain ⟨kq, x30_53, x360001_53, x360002_53, rfl, HA, HJ53, HO_5, HO_6, HI359, HB⟩ := hcut
     cases kq with
     | zero => exact absurd HA.out (by simp [spec_DrawDivideWhole.j0])
     | succ kj53 =>
      have H := HA.out
      clear HA
      simp only [spec_DrawDivideWhole.j0] at H
      by_cases c75 : x30_53 = true
      ·subst c75
       have H1 : ((spec_l01Next.f t356 x360001_53 x360002_53 3).bind fun bt427 => ((spec_l01Add.f kj53 t418 (([0, 1] : List Int)) (wrap64 (bt427.1 - 1))).bind fun t430 => ((spec_l01Rough.f kj53 t356 bt427.2.1 bt427.2.2 t430).bind fun bt433 => ((spec_l01Rough.f kj53 t356 bt433.2.1 bt433.2.2 y379).bind fun bt438 => (some (bt433.1, bt438.1)))))) = some (r1, r2) := by rw [if_pos rfl] at H; exact H
       clear H
       have H := H1
       clear H1
       obtain ⟨y424, Ny424, H⟩ : ∃ y424 : List Int, Aside0 (y424 = (([0, 1] : List Int))) ∧ ((spec_l01Next.f t356 x360001_53 x360002_53 3).bind fun bt427 => ((spec_l01Add.f kj53 t418 y424 (wrap64 (bt427.1 - 1))).bind fun t430 => ((spec_l01Rough.f kj53 t356 bt427.2.1 bt427.2.2 t430).bind fun bt433 => ((spec_l01Rough.f kj53 t356 bt433.2.1 bt433.2.2 y379).bind fun bt438 => (some (bt433.1, bt438.1)))))) = some (r1, r2) := ⟨_, ⟨rfl⟩, H⟩
       obtain ⟨⟨t427, t428, t429⟩, A76, H⟩ := bnd_ H
       dsimp only at H
       obtain ⟨t430, A77, H⟩ := bnd_ H
       obtain ⟨⟨t433, t436, t437⟩, A78, H⟩ := bnd_ H
       dsimp only at H
       obtain ⟨⟨t438, t441, t442⟩, A79, H⟩ := bnd_ H
       dsimp only at H
       simp only [Option.some.injEq, Prod.mk.injEq] at H
       obtain ⟨rfl, rfl⟩ := H
       go_wp2_with (first | ((with_reducible refine gate_dst (N := 32) rfl ?_); (try (refine gate_guard (by rfl) ?_; dsimp only)); refine Kd.R_lit (Kd.int .i64) _ 2 ?hg (N := 32) ?hd (xs := ([0, 1] : List Int)) (inner := [.int .i64 0, .int .i64 1]) (ok := fun _ => True) (okp := fun _ => True) ?hr ?hp (fun _ hk => hk) trivial (Below.refl _ _) (Nat.le_refl _) (by simp) ?_; (case hd => rfl); (case hg => rfl); (case hr => first | (go_simp; done) | (go_simp; rfl)); (case hp => exact (Reps.one (show Kd.M (Kd.int .i64) _ _ _ 0 [.int .i64 0] from rfl) (Reps.one (show Kd.M (Kd.int .i64) _ _ _ 1 [.int .i64 1] from rfl) (Reps.none _ _)))); intro v425 w80 ho81 hb hg_ hnew_; clear hg_ hnew_; (first | rw [← Ny424.out] at ho81 | (simp only [Int.reduceToNat] at ho81; rw [← Ny424.out] at ho81)); have HO426 := Aside0.mk (Kd.R_lower (Kd.R_new' (Kd.R_new' ho81 (Kd.R_lt (Kd.R_below HO_5.out bgo_))) (Kd.R_lt (Kd.R_below HO_6.out bgo_))) (below_size IsS131.hb_)); replace HO_5 := Aside0.mk (Kd.R_elder' (Kd.R_below HO_5.out bgo_) (Kd.R_base ho81) hb); replace HO_6 := Aside0.mk (Kd.R_elder' (Kd.R_below HO_6.out bgo_) (Kd.R_base ho81) hb); replace HB := Aside0.mk (below_step IsS131.hb_ hb); replace HI359 := Aside0.mk (IsS131.below IsS131.go_ hb); clear hb ho81) | ((with_reducible refine gate_callee (f := 171) rfl ?_); refine goesL_ (some 34) rfl rfl Try.func171 (by kernel_rfl) rfl #[.pointer (some ⟨g359, 0, none⟩), .int .i64 3] rfl arg_ ?_; (with_reducible refine (spec_l01Next.calls g359 t356 x360001_53 x360002_53 3 t427 t428 t429 w _ ?side1 ?side2 A76.out).mono ?_); (case side1 => exact IsS131.go_); (case side2 => exact IsS131.hb_); rintro e w82 ⟨rfl, hi, hb, hk⟩; refine ⟨_, rfl, ?_⟩; replace HO_5 := Aside0.mk (Kd.R_mono (Kd.R_keep (IsS131.apart (show IsS131 w _ g359 t356 x360001_53 x360002_53 from IsS131.go_) (Kd.R_below HO_5.out bgo_) (by decide)) hk (fun _ h => h.2)) (fun _ h => h.1)); replace HO_6 := Aside0.mk (Kd.R_mono (Kd.R_keep (IsS131.apart (show IsS131 w _ g359 t356 x360001_53 x360002_53 from IsS131.go_) (Kd.R_below HO_6.out bgo_) (by decide)) hk (fun _ h => h.2)) (fun _ h => h.1)); replace HO426 := Aside0.mk (Kd.R_mono (Kd.R_keep (IsS131.apart (show IsS131 w _ g359 t356 x360001_53 x360002_53 from IsS131.go_) (Kd.R_below HO426.out bgo_) (by decide)) hk (fun _ h => h.2)) (fun _ h => h.1)); replace HB := Aside0.mk (hb); replace HI359 := Aside0.mk (hi); (try clear hb); (try clear hb2); (try clear hk); (try clear hi); obtain ⟨Ao83, co83, eo83⟩ := Kd.R_slice HO_5.out; subst eo83; obtain ⟨Ao84, co84, eo84⟩ := Kd.R_slice HO426.out; subst eo84) | ((with_reducible refine gate_callee (f := 173) rfl ?_); refine goesL_ (some 36) rfl rfl Try.func173 (by kernel_rfl) rfl #[.slice Ao83 t418.length co83, .slice Ao84 y424.length co84, .int .i64 (wrap64 (t427 - 1))] rfl arg_ ?_; (with_reducible refine (spec_l01Add.calls kj53 _ _ t418 _ _ y424 (wrap64 (t427 - 1)) t430 _ ?side1 ?side2 ?side3 ?side4 A77.out).mono ?_); (case side1 => exact Kd.C_below (Kd.R_reads' HO_5.out).2.2 bgo_); (case side2 => exact (Kd.R_reads' HO_5.out).2.1); (case side3 => exact Kd.C_below (Kd.R_reads' HO426.out).2.2 bgo_); (case side4 => exact (Kd.R_reads' HO426.out).2.1); rintro e w85 ⟨v431, rfl, ho0, hb⟩; refine ⟨_, rfl, ?_⟩; have HO432 := Aside0.mk (Kd.R_lower (Kd.R_new' (Kd.R_new' (Kd.R_new' ho0 (Kd.R_lt (Kd.R_below HO_5.out bgo_))) (Kd.R_lt (Kd.R_below HO_6.out bgo_))) (Kd.R_lt (Kd.R_below HO426.out bgo_))) (below_size IsS131.hb_)); replace HO_5 := Aside0.mk (Kd.R_elder' (Kd.R_below HO_5.out bgo_) (Kd.R_base ho0) hb); replace HO_6 := Aside0.mk (Kd.R_elder' (Kd.R_below HO_6.out bgo_) (Kd.R_base ho0) hb); replace HO426 := Aside0.mk (Kd.R_elder' (Kd.R_below HO426.out bgo_) (Kd.R_base ho0) hb); replace HB := Aside0.mk (below_step IsS131.hb_ hb); replace HI359 := Aside0.mk (IsS131.below IsS131.go_ hb); (try clear hb); (try clear hb2); (try clear hk); (try clear hi); (try clear ho0); obtain ⟨Ao86, co86, eo86⟩ := Kd.R_slice HO432.out; subst eo86) | ((with_reducible refine gate_callee (f := 161) rfl ?_); refine goesL_ (some 50) rfl rfl Try.func161 (by kernel_rfl) rfl #[.pointer (some ⟨g359, 0, none⟩), .slice Ao86 t430.length co86] rfl arg_ ?_; (with_reducible refine (spec_l01Rough.calls kj53 g359 t356 t428 t429 (fun k_ => some k_ = (.slice Ao86 t430.length co86 : Value).ownBlock) (.slice Ao86 t430.length co86) t430 t433 t436 t437 w _ ?side1 ?side2 ?side3 A78.out).mono ?_); (case side1 => exact IsS131.go_); (case side2 => exact IsS131.hb_); (case side3 => exact Kd.R_tight rfl HO432.out); rintro e w87 ⟨v434, rfl, ho0, hi, hb, hkp⟩; refine ⟨_, rfl, ?_⟩; have HO435 := Aside0.mk (Kd.R_mono (ok' := fun k_ => some k_ ≠ (.slice Ao83 t418.length co83 : Value).ownBlock ∧ some k_ ≠ (.slice Ao68 y379.length co68 : Value).ownBlock ∧ some k_ ≠ (.slice Ao84 y424.length co84 : Value).ownBlock) ho0 (fun k_ hk_ => ⟨Or.elim hk_ (fun hs_ => fun e_ => ((((IsS131.apart HI359.out HO_5.out (by decide))).1 k_ e_.symm).1.2) hs_) (fun hn_ => (Kd.fresh' (Kd.R_lt (Kd.R_below HO_5.out bgo_)) k_ hn_)), Or.elim hk_ (fun hs_ => fun e_ => ((((IsS131.apart HI359.out HO_6.out (by decide))).1 k_ e_.symm).1.2) hs_) (fun hn_ => (Kd.fresh' (Kd.R_lt (Kd.R_below HO_6.out bgo_)) k_ hn_)), Or.elim hk_ (fun hs_ => fun e_ => ((((IsS131.apart HI359.out HO426.out (by decide))).1 k_ e_.symm).1.2) hs_) (fun hn_ => (Kd.fresh' (Kd.R_lt (Kd.R_below HO426.out bgo_)) k_ hn_))⟩)); replace HO_5 := Aside0.mk (Kd.R_mono (ok' := fun k_ => some k_ ≠ (.slice Ao68 y379.length co68 : Value).ownBlock ∧ some k_ ≠ (.slice Ao84 y424.length co84 : Value).ownBlock ∧ some k_ ≠ (v434 : Value).ownBlock) (Kd.R_keptB ((IsS131.apart HI359.out HO_5.out (by decide))) hkp (fun k_ hk_ hs_ => Or.elim hs_ (fun hs_ => (hk_.1.2) hs_) (fun e_ => (hk_.2) e_))) (fun k_ hk_ => ⟨hk_.1.1.1.1, hk_.1.1.1.2, fun e_ => Or.elim (ho0.1 k_ e_.symm) (fun hs_ => hk_.2.1 (by first | exact hs_ | exact .inl hs_)) (fun hn_ => Nat.not_le.2 hk_.2.2 hn_)⟩)); replace HO_6 := Aside0.mk (Kd.R_mono (ok' := fun k_ => some k_ ≠ (.slice Ao83 t418.length co83 : Value).ownBlock ∧ some k_ ≠ (.slice Ao84 y424.length co84 : Value).ownBlock ∧ some k_ ≠ (v434 : Value).ownBlock) (Kd.R_keptB ((IsS131.apart HI359.out HO_6.out (by decide))) hkp (fun k_ hk_ hs_ => Or.elim hs_ (fun hs_ => (hk_.1.2) hs_) (fun e_ => (hk_.2) e_))) (fun k_ hk_ => ⟨hk_.1.1.1.1, hk_.1.1.1.2, fun e_ => Or.elim (ho0.1 k_ e_.symm) (fun hs_ => hk_.2.1 (by first | exact hs_ | exact .inl hs_)) (fun hn_ => Nat.not_le.2 hk_.2.2 hn_)⟩)); replace HO426 := Aside0.mk (Kd.R_mono (ok' := fun k_ => some k_ ≠ (.slice Ao83 t418.length co83 : Value).ownBlock ∧ some k_ ≠ (.slice Ao68 y379.length co68 : Value).ownBlock ∧ some k_ ≠ (v434 : Value).ownBlock) (Kd.R_keptB ((IsS131.apart HI359.out HO426.out (by decide))) hkp (fun k_ hk_ hs_ => Or.elim hs_ (fun hs_ => (hk_.1.2) hs_) (fun e_ => (hk_.2) e_))) (fun k_ hk_ => ⟨hk_.1.1.1.1.2, hk_.1.1.1.2, fun e_ => Or.elim (ho0.1 k_ e_.symm) (fun hs_ => hk_.2.1 (by first | exact hs_ | exact .inl hs_)) (fun hn_ => Nat.not_le.2 hk_.2.2 hn_)⟩)); replace HI359 := Aside0.mk (hi); replace HB := Aside0.mk (hb); clear HO432; (try clear hb); (try clear hkp); (try clear ho0)) | ((with_reducible refine gate_callee (f := 161) rfl ?_); refine goesL_ (some 53) rfl rfl Try.func161 (by kernel_rfl) rfl #[.pointer (some ⟨g359, 0, none⟩), .slice Ao68 y379.length co68] rfl arg_ ?_; (with_reducible refine (spec_l01Rough.calls kj53 g359 t356 t436 t437 (fun k_ => some k_ = (.slice Ao68 y379.length co68 : Value).ownBlock) (.slice Ao68 y379.length co68) y379 t438 t441 t442 w _ ?side1 ?side2 ?side3 A79.out).mono ?_); (case side1 => exact IsS131.go_); (case side2 => exact IsS131.hb_); (case side3 => exact Kd.R_tight rfl HO_6.out); rintro e w88 ⟨v439, rfl, ho0, hi, hb, hkp⟩; refine ⟨_, rfl, ?_⟩; have HO440 := Aside0.mk (Kd.R_mono (ok' := fun k_ => some k_ ≠ (.slice Ao83 t418.length co83 : Value).ownBlock ∧ some k_ ≠ (.slice Ao84 y424.length co84 : Value).ownBlock ∧ some k_ ≠ (v434 : Value).ownBlock) ho0 (fun k_ hk_ => ⟨Or.elim hk_ (fun hs_ => fun e_ => ((((IsS131.apart HI359.out HO_5.out (by decide))).1 k_ e_.symm).1.1) hs_) (fun hn_ => (Kd.fresh' (Kd.R_lt (Kd.R_below HO_5.out bgo_)) k_ hn_)), Or.elim hk_ (fun hs_ => fun e_ => ((((IsS131.apart HI359.out HO426.out (by decide))).1 k_ e_.symm).1.2.1) hs_) (fun hn_ => (Kd.fresh' (Kd.R_lt (Kd.R_below HO426.out bgo_)) k_ hn_)), Or.elim hk_ (fun hs_ => fun e_ => ((((IsS131.apart HI359.out HO435.out (by decide))).1 k_ e_.symm).1.2.1) hs_) (fun hn_ => (Kd.fresh' (Kd.R_lt (Kd.R_below HO435.out bgo_)) k_ hn_))⟩)); replace HO_5 := Aside0.mk (Kd.R_mono (ok' := fun k_ => some k_ ≠ (.slice Ao84 y424.length co84 : Value).ownBlock ∧ some k_ ≠ (v434 : Value).ownBlock ∧ some k_ ≠ (v439 : Value).ownBlock) (Kd.R_keptB ((IsS131.apart HI359.out HO_5.out (by decide))) hkp (fun k_ hk_ hs_ => Or.elim hs_ (fun hs_ => (hk_.1.1) hs_) (fun e_ => (hk_.2) e_))) (fun k_ hk_ => ⟨hk_.1.1.2.1, hk_.1.1.2.2, fun e_ => Or.elim (ho0.1 k_ e_.symm) (fun hs_ => hk_.2.1 (by first | exact hs_ | exact .inl hs_)) (fun hn_ => Nat.not_le.2 hk_.2.2 hn_)⟩)); replace HO426 := Aside0.mk (Kd.R_mono (ok' := fun k_ => some k_ ≠ (.slice Ao83 t418.length co83 : Value).ownBlock ∧ some k_ ≠ (v434 : Value).ownBlock ∧ some k_ ≠ (v439 : Value).ownBlock) (Kd.R_keptB ((IsS131.apart HI359.out HO426.out (by decide))) hkp (fun k_ hk_ hs_ => Or.elim hs_ (fun hs_ => (hk_.1.2.1) hs_) (fun e_ => (hk_.2) e_))) (fun k_ hk_ => ⟨hk_.1.1.1, hk_.1.1.2.2, fun e_ => Or.elim (ho0.1 k_ e_.symm) (fun hs_ => hk_.2.1 (by first | exact hs_ | exact .inl hs_)) (fun hn_ => Nat.not_le.2 hk_.2.2 hn_)⟩)); replace HO435 := Aside0.mk (Kd.R_mono (ok' := fun k_ => some k_ ≠ (.slice Ao83 t418.length co83 : Value).ownBlock ∧ some k_ ≠ (.slice Ao84 y424.length co84 : Value).ownBlock ∧ some k_ ≠ (v439 : Value).ownBlock) (Kd.R_keptB ((IsS131.apart HI359.out HO435.out (by decide))) hkp (fun k_ hk_ hs_ => Or.elim hs_ (fun hs_ => (hk_.1.2.1) hs_) (fun e_ => (hk_.2) e_))) (fun k_ hk_ => ⟨hk_.1.1.1, hk_.1.1.2.2, fun e_ => Or.elim (ho0.1 k_ e_.symm) (fun hs_ => hk_.2.1 (by first | exact hs_ | exact .inl hs_)) (fun hn_ => Nat.not_le.2 hk_.2.2 hn_)⟩)); replace HI359 := Aside0.mk (hi); replace HB := Aside0.mk (hb); clear HO_6; (try clear hb); (try clear hkp); (try clear ho0)))
       go_ret2
       exact ⟨_, _, er_, by (with_reducible repeat (first | apply Kd.R_alloc | apply Kd.R_drewN | apply Kd.R_drew)); exact Kd.R_mono HO435.out (fun _ hk => hk.2.2), by (with_reducible repeat (first | apply Kd.R_alloc | apply Kd.R_drewN | apply Kd.R_drew)); exact Kd.R_mono HO440.out (fun _ hk => hk.2.2), IsS131.hb_⟩
      ·replace c75 := Bool.eq_false_iff.mpr c75
       subst c75
       have H1 : ((spec_l01Rough.f kj53 t356 x360001_53 x360002_53 t418).bind fun bt443 => ((spec_l01Rough.f kj53 t356 bt443.2.1 bt443.2.2 y379).bind fun bt448 => (some (bt443.1, bt448.1)))) = some (r1, r2) := by rw [if_neg (show ¬ (false = true) by decide)] at H; exact H
       clear H
       have H := H1
       clear H1
       obtain ⟨⟨t443, t446, t447⟩, A89, H⟩ := bnd_ H
       dsimp only at H
       obtain ⟨⟨t448, t451, t452⟩, A90, H⟩ := bnd_ H
       dsimp only at H
       simp only [Option.some.injEq, Prod.mk.injEq] at H
       obtain ⟨rfl, rfl⟩ := H
       obtain ⟨Ao91, co91, eo91⟩ := Kd.R_slice HO_5.out
       subst eo91
       go_wp2_with (first | ((with_reducible refine gate_callee (f := 161) rfl ?_); refine goesL_ (some 50) rfl rfl Try.func161 (by kernel_rfl) rfl #[.pointer (some ⟨g359, 0, none⟩), .slice Ao91 t418.length co91] rfl arg_ ?_; (with_reducible refine (spec_l01Rough.calls kj53 g359 t356 x360001_53 x360002_53 (fun k_ => some k_ = (.slice Ao91 t418.length co91 : Value).ownBlock) (.slice Ao91 t418.length co91) t418 t443 t446 t447 w _ ?side1 ?side2 ?side3 A89.out).mono ?_); (case side1 => exact IsS131.go_); (case side2 => exact IsS131.hb_); (case side3 => exact Kd.R_tight rfl HO_5.out); rintro e w92 ⟨v444, rfl, ho0, hi, hb, hkp⟩; refine ⟨_, rfl, ?_⟩; have HO445 := Aside0.mk (Kd.R_mono (ok' := fun k_ => some k_ ≠ (.slice Ao68 y379.length co68 : Value).ownBlock) ho0 (fun k_ hk_ => Or.elim hk_ (fun hs_ => fun e_ => ((((IsS131.apart HI359.out HO_6.out (by decide))).1 k_ e_.symm).1) hs_) (fun hn_ => (Kd.fresh' (Kd.R_lt (Kd.R_below HO_6.out bgo_)) k_ hn_)))); replace HO_6 := Aside0.mk (Kd.R_mono (ok' := fun k_ => some k_ ≠ (v444 : Value).ownBlock) (Kd.R_keptB ((IsS131.apart HI359.out HO_6.out (by decide))) hkp (fun k_ hk_ hs_ => Or.elim hs_ (fun hs_ => (hk_.1) hs_) (fun e_ => (hk_.2) e_))) (fun k_ hk_ => fun e_ => Or.elim (ho0.1 k_ e_.symm) (fun hs_ => hk_.2.1 (by first | exact hs_ | exact .inl hs_)) (fun hn_ => Nat.not_le.2 hk_.2.2 hn_))); replace HI359 := Aside0.mk (hi); replace HB := Aside0.mk (hb); clear HO_5; (try clear hb); (try clear hkp); (try clear ho0)) | ((with_reducible refine gate_callee (f := 161) rfl ?_); refine goesL_ (some 53) rfl rfl Try.func161 (by kernel_rfl) rfl #[.pointer (some ⟨g359, 0, none⟩), .slice Ao68 y379.length co68] rfl arg_ ?_; (with_reducible refine (spec_l01Rough.calls kj53 g359 t356 t446 t447 (fun k_ => some k_ = (.slice Ao68 y379.length co68 : Value).ownBlock) (.slice Ao68 y379.length co68) y379 t448 t451 t452 w _ ?side1 ?side2 ?side3 A90.out).mono ?_); (case side1 => exact IsS131.go_); (case side2 => exact IsS131.hb_); (case side3 => exact Kd.R_tight rfl HO_6.out); rintro e w93 ⟨v449, rfl, ho0, hi, hb, hkp⟩; refine ⟨_, rfl, ?_⟩; have HO450 := Aside0.mk (Kd.R_mono (ok' := fun k_ => some k_ ≠ (v444 : Value).ownBlock) ho0 (fun k_ hk_ => Or.elim hk_ (fun hs_ => fun e_ => ((((IsS131.apart HI359.out HO445.out (by decide))).1 k_ e_.symm).1) hs_) (fun hn_ => (Kd.fresh' (Kd.R_lt (Kd.R_below HO445.out bgo_)) k_ hn_)))); replace HO445 := Aside0.mk (Kd.R_mono (ok' := fun k_ => some k_ ≠ (v449 : Value).ownBlock) (Kd.R_keptB ((IsS131.apart HI359.out HO445.out (by decide))) hkp (fun k_ hk_ hs_ => Or.elim hs_ (fun hs_ => (hk_.1) hs_) (fun e_ => (hk_.2) e_))) (fun k_ hk_ => fun e_ => Or.elim (ho0.1 k_ e_.symm) (fun hs_ => hk_.2.1 (by first | exact hs_ | exact .inl hs_)) (fun hn_ => Nat.not_le.2 hk_.2.2 hn_))); replace HI359 := Aside0.mk (hi); replace HB := Aside0.mk (hb); clear HO_6; (try clear hb); (try clear hkp); (try clear ho0)))
       go_ret2
       exact ⟨_, _, er_, (Kd.R_below HO445.out bgo_), (Kd.R_below HO450.out bgo_), IsS131.hb_⟩
 ·rw [if_neg c6] at H
  exact absurd H (by simp)

end Go.Proofs.Ytkadhadceongiaa.G
