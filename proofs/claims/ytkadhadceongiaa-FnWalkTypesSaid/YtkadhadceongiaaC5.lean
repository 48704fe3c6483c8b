/- The printed functions that this law reaches, and their contracts: part 5. -/
-- printed by this repo's wip/printer out of the kit's print with its own changes
import Derived.Test.YtkadhadceongiaaC4
namespace Go.Proofs.Ytkadhadceongiaa.G
open Go.RowKit Go.Proofs.YtkadhadceongiaaW.PrintWords Go.Proofs.YtkadhadceongiaaW.PrintLast Go.Proofs.YtkadhadceongiaaW.PrintMore
attribute [local go_sem] max2_int min2_int max_two min_two max_three min_three max_four min_four   -- for this text's walks alone
set_option linter.unusedVariables false
set_option linter.unusedSimpArgs false

/-! ### laws_FnWalkTypes: function 3 -/
mutual
def laws_FnWalkTypes.j0 : Nat → List Int → List Int → Int → Bool → Int → List (List Int) → Int → List (List Int) → Option (Bool)
 | 0, _, _, _, _, _, _, _, _ => none
 | k + 1, x4, x5, x6, x43, x647000, x647001, x647002, x647003 => if x43 = true then (some false) else ((impl_TypeOfWalk.f k x647000 x647001 x647002 x647003 x4).bind fun bt656 => ((spec_TypeOfWalk.f k x647000 x647001 x647002 x647003 x4).bind fun bt660 => (if bt656.2 = bt660.2 then ((laws_likeInts.f k bt656.1 bt660.1).bind fun t664 => (laws_FnWalkTypes.j1 k x4 x5 x6 bt656.1 bt656.2 (!t664) x647000 x647001 x647002 x647003)) else (laws_FnWalkTypes.j1 k x4 x5 x6 bt656.1 bt656.2 true x647000 x647001 x647002 x647003))))
def laws_FnWalkTypes.j1 : Nat → List Int → List Int → Int → List Int → Int → Bool → Int → List (List Int) → Int → List (List Int) → Option (Bool)
 | 0, _, _, _, _, _, _, _, _, _, _ => none
 | k + 1, x4, x5, x6, x9, x10, x64, x647000, x647001, x647002, x647003 => if x64 = true then (some false) else (if x6 = 0 then (if x10 = 0 then ((laws_sum.f k x9).bind fun t665 => (laws_FnWalkTypes.j2 k x4 x5 (t665 != x647002) x647000 x647001 x647002 x647003)) else (laws_FnWalkTypes.j2 k x4 x5 true x647000 x647001 x647002 x647003)) else (if x10 = x6 then (some ((x5.length : Int) == 0)) else (some false)))
def laws_FnWalkTypes.j2 : Nat → List Int → List Int → Bool → Int → List (List Int) → Int → List (List Int) → Option (Bool)
 | 0, _, _, _, _, _, _, _ => none
 | k + 1, x4, x5, x83, x647000, x647001, x647002, x647003 => if x83 = true then (some false) else (if (x4.length : Int) > 10 then (some true) else ((some (([] : List Int) : List Int)).bind fun y666 => (if y666.length + x4.length < 17592186044416 then ((some (y666 ++ x4 : List Int)).bind fun y669 => (if y669.length + x4.length < 17592186044416 then ((impl_PermutationOfWalk.f k x647000 x647001 x647002 x647003 (y669 ++ x4)).bind fun bt675 => (if bt675.2 = 0 then (laws_FnWalkTypes.l0 k x5 bt675.1 0) else (some false))) else (none))) else (none))))
def laws_FnWalkTypes.l0 : Nat → List Int → List Int → Int → Option (Bool)
 | 0, _, _, _ => none
 | k + 1, x5, x13, x15 => if x15 < (x5.length : Int) then (if 0 ≤ x15 then (if x15 < (x13.length : Int) then (if 0 ≤ (rd x5 x15) then (if (rd x5 x15) < (x5.length : Int) then (if (rd x13 x15) = (rd x5 (rd x5 x15)) then (laws_FnWalkTypes.l0 k x5 x13 (wrap64 (x15 + 1))) else (some false)) else (none)) else (none)) else (none)) else (none)) else (some true)
end
def laws_FnWalkTypes.f (k : Nat) (l0 : List Int) : Option (Bool) := (laws_big.f l0).bind fun t634 => (if t634 = true then (some true) else ((spec_DrawPermutationOfWalk.f k l0).bind fun bt635 => ((impl_PermutationOfWalk.f k bt635.1 bt635.2.1 bt635.2.2.1 bt635.2.2.2.1 bt635.2.2.2.2).bind fun bt647 => ((spec_PermutationOfWalk.f k bt635.1 bt635.2.1 bt635.2.2.1 bt635.2.2.2.1 bt635.2.2.2.2).bind fun bt651 => (if bt647.2 = bt651.2 then ((laws_likeInts.f k bt647.1 bt651.1).bind fun t655 => (laws_FnWalkTypes.j0 k bt635.2.2.2.2 bt647.1 bt647.2 (!t655) bt635.1 bt635.2.1 bt635.2.2.1 bt635.2.2.2.1)) else (laws_FnWalkTypes.j0 k bt635.2.2.2.2 bt647.1 bt647.2 true bt635.1 bt635.2.1 bt635.2.2.1 bt635.2.2.2.1))))))
def laws_FnWalkTypes.T14 : Bool × List (List Nat × List Nat) := (true, [([], []), ([0], [0]), ([1], [1]), ([2], [2]), ([3, 2, 2], [2, 3]), ([2], [2]), ([5, 2], [2, 5]), ([4, 6, 2], [2, 4, 6]), ([2, 7], [2, 7])])
def laws_FnWalkTypes.B14 : List Nat := [0, 1, 3, 7, 15, 7, 39, 127, 255]
theorem laws_FnWalkTypes.tab14 : rtab .any (opsOf Try.f3 14) = laws_FnWalkTypes.T14 := by kernel_rfl
theorem laws_FnWalkTypes.bits14 : waitsOk laws_FnWalkTypes.T14.2 laws_FnWalkTypes.B14 = true := by kernel_rfl
def laws_FnWalkTypes.T18 : Bool × List (List Nat × List Nat) := (true, [([], []), ([], []), ([], []), ([1, 2], [1, 2]), ([], []), ([3, 4, 3], [3, 4]), ([0, 5, 5], [0, 5]), ([6], [6]), ([7], [7]), ([7], [7]), ([8, 6, 0, 1, 2, 3, 4, 5, 6, 7, 8], [8]), ([9, 10, 0, 1, 2, 3, 4, 5, 6, 7, 8, 9, 10], [9])])
def laws_FnWalkTypes.B18 : List Nat := [0, 0, 0, 6, 0, 30, 63, 127, 255, 255, 511, 2047]
theorem laws_FnWalkTypes.tab18 : rtab .any (opsOf Try.f3 18) = laws_FnWalkTypes.T18 := by kernel_rfl
theorem laws_FnWalkTypes.bits18 : waitsOk laws_FnWalkTypes.T18.2 laws_FnWalkTypes.B18 = true := by kernel_rfl
def laws_FnWalkTypes.T24 : Bool × List (List Nat × List Nat) := (true, [([], []), ([], []), ([0, 1], [0, 1]), ([2], [2]), ([], []), ([], []), ([], []), ([5, 6], [5, 6]), ([7], [7]), ([4, 8], [4, 8]), ([9], [9]), ([3, 10], [3, 10])])
def laws_FnWalkTypes.B24 : List Nat := [0, 0, 3, 7, 0, 0, 0, 96, 224, 496, 1008, 2047]
theorem laws_FnWalkTypes.tab24 : rtab .any (opsOf Try.f3 24) = laws_FnWalkTypes.T24 := by kernel_rfl
theorem laws_FnWalkTypes.bits24 : waitsOk laws_FnWalkTypes.T24.2 laws_FnWalkTypes.B24 = true := by kernel_rfl
theorem laws_FnWalkTypes.j0_no {k : Nat} {a0 : List Int} {a1 : List Int} {a2 : Int} {a4 : Int} {a5 : List (List Int)} {a6 : Int} {a7 : List (List Int)} : ¬ laws_FnWalkTypes.j0 k a0 a1 a2 true a4 a5 a6 a7 = some true := by cases k <;> simp [laws_FnWalkTypes.j0]
theorem laws_FnWalkTypes.j1_no {k : Nat} {a0 : List Int} {a1 : List Int} {a2 : Int} {a3 : List Int} {a4 : Int} {a6 : Int} {a7 : List (List Int)} {a8 : Int} {a9 : List (List Int)} : ¬ laws_FnWalkTypes.j1 k a0 a1 a2 a3 a4 true a6 a7 a8 a9 = some true := by cases k <;> simp [laws_FnWalkTypes.j1]
theorem laws_FnWalkTypes.j2_no {k : Nat} {a0 : List Int} {a1 : List Int} {a3 : Int} {a4 : List (List Int)} {a5 : Int} {a6 : List (List Int)} : ¬ laws_FnWalkTypes.j2 k a0 a1 true a3 a4 a5 a6 = some true := by cases k <;> simp [laws_FnWalkTypes.j2]
set_option maxHeartbeats 8000000 in
set_option maxRecDepth 100000 in
theorem laws_FnWalkTypes.calls (k : Nat) (A0 : Option Addr) (c0 : Nat) (l0 : List Int) (w : World) (hr0 : Kd.C (Kd.int .u8) w A0 l0.length l0) (hc0 : l0.length ≤ c0) (h : laws_FnWalkTypes.f k l0 = some true) :
  Calls Try.prog 3 #[.slice A0 l0.length c0] w fun e w' => e = .returned (.bool true) ∧ Below w.heap.size w w' := by
 have hu28 := Try.underlying28
 have HR0 := m_ hr0
 have HC0 := m_ hc0
 clear hr0 hc0
 have HB := m_ (Below.refl w.heap.size w)
 have H : ((laws_big.f l0).bind fun t634 => (if t634 = true then (some true) else ((spec_DrawPermutationOfWalk.f k l0).bind fun bt635 => ((impl_PermutationOfWalk.f k bt635.1 bt635.2.1 bt635.2.2.1 bt635.2.2.2.1 bt635.2.2.2.2).bind fun bt647 => ((spec_PermutationOfWalk.f k bt635.1 bt635.2.1 bt635.2.2.1 bt635.2.2.2.1 bt635.2.2.2.2).bind fun bt651 => (if bt647.2 = bt651.2 then ((laws_likeInts.f k bt647.1 bt651.1).bind fun t655 => (laws_FnWalkTypes.j0 k bt635.2.2.2.2 bt647.1 bt647.2 (!t655) bt635.1 bt635.2.1 bt635.2.2.1 bt635.2.2.2.1)) else (laws_FnWalkTypes.j0 k bt635.2.2.2.2 bt647.1 bt647.2 true bt635.1 bt635.2.1 bt635.2.2.1 bt635.2.2.2.1))))))) = some true := h
 clear h
 obtain ⟨t634, A2, H⟩ := bnd_ H
 by_cases c3 : t634 = true
 ·subst c3
  have H1 : (some true) = some true := rfl
  clear H
  have H := H1
  clear H1
  have H := Option.some.inj H
  go_enter Try.func3, Try.ntmps3
  go_wp2_with (first | ((with_reducible refine gate_callee (f := 9) rfl ?_); refine gl_ (some 17) Try.func9 #[.slice A0 l0.length c0] ?_; (with_reducible refine (laws_big.calls _ _ l0 true _ ?side1 ?side2 A2.out).mono ?_); (case side1 => exact Kd.C_below HR0.out bgo_); (case side2 => exact HC0.out); rintro e w' ⟨rfl, ⟨nd, rfl⟩⟩; refine ⟨_, rfl, ?_⟩))
  go_ret
  exact ⟨er_, hb_⟩
 ·replace c3 := Bool.eq_false_iff.mpr c3
  subst c3
  have H1 : ((spec_DrawPermutationOfWalk.f k l0).bind fun bt635 => ((impl_PermutationOfWalk.f k bt635.1 bt635.2.1 bt635.2.2.1 bt635.2.2.2.1 bt635.2.2.2.2).bind fun bt647 => ((spec_PermutationOfWalk.f k bt635.1 bt635.2.1 bt635.2.2.1 bt635.2.2.2.1 bt635.2.2.2.2).bind fun bt651 => (if bt647.2 = bt651.2 then ((laws_likeInts.f k bt647.1 bt651.1).bind fun t655 => (laws_FnWalkTypes.j0 k bt635.2.2.2.2 bt647.1 bt647.2 (!t655) bt635.1 bt635.2.1 bt635.2.2.1 bt635.2.2.2.1)) else (laws_FnWalkTypes.j0 k bt635.2.2.2.2 bt647.1 bt647.2 true bt635.1 bt635.2.1 bt635.2.2.1 bt635.2.2.2.1))))) = some true := by rw [if_neg (show ¬ (false = true) by decide)] at H; exact H
  clear H
  have H := H1
  clear H1
  obtain ⟨⟨t635, t636, t639, t640, t643⟩, A4, H⟩ := bnd_ H
  dsimp only at H
  obtain ⟨⟨t647, t650⟩, A5, H⟩ := bnd_ H
  dsimp only at H
  obtain ⟨⟨t651, t654⟩, A6, H⟩ := bnd_ H
  dsimp only at H
  have HC7 := m_ H
  clear H
  go_enter Try.func3, Try.ntmps3
  go_upto_region 6 with (first | ((with_reducible refine gate_callee (f := 9) rfl ?_); refine gl_ (some 17) Try.func9 #[.slice A0 l0.length c0] ?_; (with_reducible refine (laws_big.calls _ _ l0 false _ ?side1 ?side2 A2.out).mono ?_); (case side1 => exact Kd.C_below HR0.out bgo_); (case side2 => exact HC0.out); rintro e w' ⟨rfl, ⟨nd, rfl⟩⟩; refine ⟨_, rfl, ?_⟩) | ((with_reducible refine gate_callee (f := 10) rfl ?_); refine gl_ (some 20) Try.func10 #[.slice A0 l0.length c0] ?_; (with_reducible refine (spec_DrawPermutationOfWalk.calls k _ _ l0 t635 t636 t639 t640 t643 _ ?side1 ?side2 A4.out).mono ?_); (case side1 => exact Kd.C_below HR0.out bgo_); (case side2 => exact HC0.out); rintro e w8 ⟨v637, v641, v644, rfl, ho0, ho1, ho2, hb⟩; refine ⟨_, rfl, ?_⟩; have HO638 := m_ (Kd.V_lower (Kd.V_mono (ok' := fun k_ => some k_ ≠ (v641 : Value).ownBlock ∧ some k_ ≠ (v644 : Value).ownBlock) ho0 (fun k_ hk_ => ⟨hk_.2.1, hk_.2.2⟩)) (below_size hb_)); have HO642 := m_ (Kd.N_lower (Kd.N_mono (ok' := fun k_ => some k_ ≠ (v644 : Value).ownBlock) ho1 (fun k_ hk_ => hk_.2)) (below_size hb_)); have HO645 := m_ (Kd.R_lower (Kd.R_mono (ok' := fun k_ => True) ho2 (fun _ hk_ => trivial)) (below_size hb_)); replace HB := m_ (below_step hb_ hb); clear hb; (try clear ho0); (try clear ho1); (try clear ho2)) | ((with_reducible refine gate_dst (N := 3) rfl ?_); (try (refine gate_guard (by rfl) ?_; dsimp only)); refine bx_ (N := 3) (cs := #[.int .i64 0, .slice none 0 0, .int .i64 0, .slice none 0 0]) (t := 28) ?_; intro gb646 hg w9 hbox hb; replace HO638 := m_ (Kd.V_below (Kd.V_elderB (Kd.V_below HO638.out bgo_) gb646 (Nat.le_of_eq hg.symm)) hb); replace HO642 := m_ (Kd.N_below (Kd.N_elderB (Kd.N_below HO642.out bgo_) gb646 (Nat.le_of_eq hg.symm)) hb); replace HO645 := m_ (Kd.R_below (Kd.R_below HO645.out bgo_) hb); have BK646 := m_ (hbox); have GW646 := m_ ((by rw [hg]; exact (below_size hb_) : w.heap.size ≤ gb646)); have GE646 := m_ ((by rw [hg]; exact (below_size hb_) : w.heap.size ≤ gb646)); replace HB := m_ (below_step hb_ hb); clear hb hbox hg; have hcz10_0 := bc0_ BK646.out; have hcz10_1 := bc1_ BK646.out; have hcz10_2 := bc2_ BK646.out; have hcz10_3 := bc3_ BK646.out; have hfz10_0 := blk_frozen BK646.out 0; have hfz10_1 := blk_frozen BK646.out 1; have hfz10_2 := blk_frozen BK646.out 2; have hfz10_3 := blk_frozen BK646.out 3; obtain ⟨Ao11, co11, eo11⟩ := Kd.V_slice HO638.out; subst eo11; obtain ⟨Ao12, co12, eo12⟩ := Kd.N_slice HO642.out; subst eo12; obtain ⟨Ao13, co13, eo13⟩ := Kd.R_slice HO645.out; subst eo13) | ((with_reducible refine gate_callee (f := 11) rfl ?_); refine gl_ (some 26) Try.func11 #[.agg #[.int .i64 t635, .slice Ao11 t636.length co11, .int .i64 t639, .slice Ao12 t640.length co12], .slice Ao13 t643.length co13] ?_; (with_reducible refine (impl_PermutationOfWalk.calls k t635 _ _ t636 t639 _ _ t640 _ _ t643 t647 t650 _ ?side1 ?side2 ?side3 ?side4 ?side5 ?side6 A5.out).mono ?_); (case side1 => refine (Kd.V_reads' (e := 29) (base := w.heap.size) (ok := fun k_ => ((some k_ ≠ (.slice Ao12 t640.length co12 : Value).ownBlock ∧ some k_ ≠ (.slice Ao13 t643.length co13 : Value).ownBlock) ∧ k_ ≠ gb646)) (n := t636.length) (c := co11) ?_).2.2; exact (by (with_reducible repeat (first | apply Kd.V_alloc | apply Kd.V_drewN | apply Kd.V_drew)); exact (Kd.V_mono (Kd.V_far (p := ⟨gb646, 3, none⟩) (Kd.V_far (p := ⟨gb646, 2, none⟩) (Kd.V_far (p := ⟨gb646, 1, none⟩) (Kd.V_far (p := ⟨gb646, 0, none⟩) (Kd.V_mono HO638.out (fun k_ hk => (⟨hk, hk.2⟩ : _ ∧ k_ ≠ gb646))) (fun _ hk => hk.2) (.int .i64 t635)) (fun _ hk => hk.2) (.slice Ao11 t636.length co11)) (fun _ hk => hk.2) (.int .i64 t639)) (fun _ hk => hk.2) (.slice Ao12 t640.length co12)) (fun _ h_ => h_.1)))); (case side2 => exact (Kd.V_reads' HO638.out).2.1); (case side3 => refine (Kd.N_reads' (e := 29) (base := w.heap.size) (ok := fun k_ => (some k_ ≠ (.slice Ao13 t643.length co13 : Value).ownBlock ∧ k_ ≠ gb646)) (n := t640.length) (c := co12) ?_).2.2; exact (by (with_reducible repeat (first | apply Kd.N_alloc | apply Kd.N_drewN | apply Kd.N_drew)); exact (Kd.N_mono (Kd.N_far (p := ⟨gb646, 3, none⟩) (Kd.N_far (p := ⟨gb646, 2, none⟩) (Kd.N_far (p := ⟨gb646, 1, none⟩) (Kd.N_far (p := ⟨gb646, 0, none⟩) (Kd.N_mono HO642.out (fun k_ hk => (⟨hk, hk.2⟩ : _ ∧ k_ ≠ gb646))) (fun _ hk => hk.2) (.int .i64 t635)) (fun _ hk => hk.2) (.slice Ao11 t636.length co11)) (fun _ hk => hk.2) (.int .i64 t639)) (fun _ hk => hk.2) (.slice Ao12 t640.length co12)) (fun _ h_ => h_.1)))); (case side4 => exact (Kd.N_reads' HO642.out).2.1); (case side5 => refine (Kd.R_reads' (e := 2) (base := w.heap.size) (ok := fun k_ => True) (n := t643.length) (c := co13) ?_).2.2; exact (by (with_reducible repeat (first | apply Kd.R_alloc | apply Kd.R_drewN | apply Kd.R_drew)); exact (Kd.R_mono (Kd.R_far (p := ⟨gb646, 3, none⟩) (Kd.R_far (p := ⟨gb646, 2, none⟩) (Kd.R_far (p := ⟨gb646, 1, none⟩) (Kd.R_far (p := ⟨gb646, 0, none⟩) (Kd.R_types HO645.out BK646.out (by decide)) (fun _ hk => hk.2) (.int .i64 t635)) (fun _ hk => hk.2) (.slice Ao11 t636.length co11)) (fun _ hk => hk.2) (.int .i64 t639)) (fun _ hk => hk.2) (.slice Ao12 t640.length co12)) (fun _ h_ => h_.1)))); (case side6 => exact (Kd.R_reads' HO645.out).2.1); rintro e w14 ⟨v648, rfl, ho0, hb⟩; refine ⟨_, rfl, ?_⟩; replace HO638 := m_ (Kd.V_elder' (by (with_reducible repeat (first | apply Kd.V_alloc | apply Kd.V_drewN | apply Kd.V_drew)); exact (Kd.V_mono (Kd.V_far (p := ⟨gb646, 3, none⟩) (Kd.V_far (p := ⟨gb646, 2, none⟩) (Kd.V_far (p := ⟨gb646, 1, none⟩) (Kd.V_far (p := ⟨gb646, 0, none⟩) (Kd.V_mono HO638.out (fun k_ hk => (⟨hk, hk.2⟩ : _ ∧ k_ ≠ gb646))) (fun _ hk => hk.2) (.int .i64 t635)) (fun _ hk => hk.2) (.slice Ao11 t636.length co11)) (fun _ hk => hk.2) (.int .i64 t639)) (fun _ hk => hk.2) (.slice Ao12 t640.length co12)) (fun _ h_ => h_.1))) (Kd.R_base ho0) hb); replace HO642 := m_ (Kd.N_elder' (by (with_reducible repeat (first | apply Kd.N_alloc | apply Kd.N_drewN | apply Kd.N_drew)); exact (Kd.N_mono (Kd.N_far (p := ⟨gb646, 3, none⟩) (Kd.N_far (p := ⟨gb646, 2, none⟩) (Kd.N_far (p := ⟨gb646, 1, none⟩) (Kd.N_far (p := ⟨gb646, 0, none⟩) (Kd.N_mono HO642.out (fun k_ hk => (⟨hk, hk.2⟩ : _ ∧ k_ ≠ gb646))) (fun _ hk => hk.2) (.int .i64 t635)) (fun _ hk => hk.2) (.slice Ao11 t636.length co11)) (fun _ hk => hk.2) (.int .i64 t639)) (fun _ hk => hk.2) (.slice Ao12 t640.length co12)) (fun _ h_ => h_.1))) (Kd.R_base ho0) hb); have HO649 := m_ (Kd.R_lower (Kd.R_new' ho0 (Kd.R_lt (by (with_reducible repeat (first | apply Kd.R_alloc | apply Kd.R_drewN | apply Kd.R_drew)); exact (Kd.R_mono (Kd.R_far (p := ⟨gb646, 3, none⟩) (Kd.R_far (p := ⟨gb646, 2, none⟩) (Kd.R_far (p := ⟨gb646, 1, none⟩) (Kd.R_far (p := ⟨gb646, 0, none⟩) (Kd.R_types HO645.out BK646.out (by decide)) (fun _ hk => hk.2) (.int .i64 t635)) (fun _ hk => hk.2) (.slice Ao11 t636.length co11)) (fun _ hk => hk.2) (.int .i64 t639)) (fun _ hk => hk.2) (.slice Ao12 t640.length co12)) (fun _ h_ => h_.1))))) (below_size hbs_)); replace HO645 := m_ (Kd.R_elder' (by (with_reducible repeat (first | apply Kd.R_alloc | apply Kd.R_drewN | apply Kd.R_drew)); exact (Kd.R_mono (Kd.R_far (p := ⟨gb646, 3, none⟩) (Kd.R_far (p := ⟨gb646, 2, none⟩) (Kd.R_far (p := ⟨gb646, 1, none⟩) (Kd.R_far (p := ⟨gb646, 0, none⟩) (Kd.R_types HO645.out BK646.out (by decide)) (fun _ hk => hk.2) (.int .i64 t635)) (fun _ hk => hk.2) (.slice Ao11 t636.length co11)) (fun _ hk => hk.2) (.int .i64 t639)) (fun _ hk => hk.2) (.slice Ao12 t640.length co12)) (fun _ h_ => h_.1))) (Kd.R_base ho0) hb); replace BK646 := m_ (blk_below (g := gb646) (o := .cells #[.int .i64 t635, .slice Ao11 t636.length co11, .int .i64 t639, .slice Ao12 t640.length co12] 28 (0, 0)) (by (with_reducible repeat (first | refine blk_drewN ?_ _ | refine blk_drew ?_ | refine blk_alloc ?_ _)); refine blk_put (cs := #[.int .i64 t635, .slice Ao11 t636.length co11, .int .i64 t639, .slice none 0 0]) ?_ 3 _ rfl; (with_reducible repeat (first | refine blk_drewN ?_ _ | refine blk_drew ?_ | refine blk_alloc ?_ _)); refine blk_put (cs := #[.int .i64 t635, .slice Ao11 t636.length co11, .int .i64 0, .slice none 0 0]) ?_ 2 _ rfl; (with_reducible repeat (first | refine blk_drewN ?_ _ | refine blk_drew ?_ | refine blk_alloc ?_ _)); refine blk_put (cs := #[.int .i64 t635, .slice none 0 0, .int .i64 0, .slice none 0 0]) ?_ 1 _ rfl; (with_reducible repeat (first | refine blk_drewN ?_ _ | refine blk_drew ?_ | refine blk_alloc ?_ _)); refine blk_put (cs := #[.int .i64 0, .slice none 0 0, .int .i64 0, .slice none 0 0]) ?_ 0 _ rfl; (with_reducible repeat (first | refine blk_drewN ?_ _ | refine blk_drew ?_ | refine blk_alloc ?_ _)); exact BK646.out) hb); replace HB := m_ (below_step hbs_ hb); clear hb; (try clear ho0); have hcz15_0 := bc0_ BK646.out; have hcz15_1 := bc1_ BK646.out; have hcz15_2 := bc2_ BK646.out; have hcz15_3 := bc3_ BK646.out; have hfz15_0 := blk_frozen BK646.out 0; have hfz15_1 := blk_frozen BK646.out 1; have hfz15_2 := blk_frozen BK646.out 2; have hfz15_3 := blk_frozen BK646.out 3) | ((with_reducible refine gate_callee (f := 12) rfl ?_); refine gl_ (some 32) Try.func12 #[.agg #[.int .i64 t635, .slice Ao11 t636.length co11, .int .i64 t639, .slice Ao12 t640.length co12], .slice Ao13 t643.length co13] ?_; (with_reducible refine (spec_PermutationOfWalk.calls k t635 _ _ t636 t639 _ _ t640 _ _ t643 t651 t654 _ ?side1 ?side2 ?side3 ?side4 ?side5 ?side6 A6.out).mono ?_); (case side1 => exact Kd.C_below (Kd.V_reads' HO638.out).2.2 bgo_); (case side2 => exact (Kd.V_reads' HO638.out).2.1); (case side3 => exact Kd.C_below (Kd.N_reads' HO642.out).2.2 bgo_); (case side4 => exact (Kd.N_reads' HO642.out).2.1); (case side5 => exact Kd.C_below (Kd.R_reads' HO645.out).2.2 bgo_); (case side6 => exact (Kd.R_reads' HO645.out).2.1); rintro e w16 ⟨v652, rfl, ho0, hb⟩; refine ⟨_, rfl, ?_⟩; replace HO638 := m_ (Kd.V_elder' (Kd.V_below HO638.out bgo_) (Kd.R_base ho0) hb); replace HO642 := m_ (Kd.N_elder' (Kd.N_below HO642.out bgo_) (Kd.R_base ho0) hb); have HO653 := m_ (Kd.R_lower (Kd.R_new' (Kd.R_new' ho0 (Kd.R_lt (Kd.R_below HO645.out bgo_))) (Kd.R_lt (Kd.R_below HO649.out bgo_))) (below_size hbs_)); replace HO645 := m_ (Kd.R_elder' (Kd.R_below HO645.out bgo_) (Kd.R_base ho0) hb); replace HO649 := m_ (Kd.R_elder' (Kd.R_below HO649.out bgo_) (Kd.R_base ho0) hb); replace BK646 := m_ (bb_ BK646.out hb); replace HB := m_ (below_step hbs_ hb); clear hb; (try clear ho0)))
  (try simp only [Act.put, List.setIfInBounds_toArray, List.set_cons_zero, List.set_cons_succ])
  go_cut [43] (fun v43 wc => ∃ (kq : Nat) (x43_6 : Bool), v43 = .bool x43_6 ∧ Aside0 (laws_FnWalkTypes.j0 kq t643 t647 t650 x43_6 t635 t636 t639 t640 = some true) ∧ Aside0 (kq ≤ k) ∧ Aside0 (Kd.R (Kd.int .i64) 2 wc w.heap.size (fun k_ => some k_ ≠ (v648 : Value).ownBlock) (.slice Ao13 t643.length co13) t643) ∧ Aside0 (Kd.R (Kd.int .i64) 2 wc w.heap.size (fun k_ => some k_ ≠ ((.slice Ao13 t643.length co13) : Value).ownBlock) v648 t647) ∧ Aside0 (Kd.V (Kd.slice 2 (Kd.int .i64)) 29 wc w.heap.size (fun k_ => some k_ ≠ ((.slice Ao13 t643.length co13) : Value).ownBlock ∧ some k_ ≠ (v648 : Value).ownBlock ∧ some k_ ≠ ((.slice Ao12 t640.length co12) : Value).ownBlock ∧ k_ ≠ gb646) (.slice Ao11 t636.length co11) t636) ∧ Aside0 (Kd.N (Kd.slice 2 (Kd.int .i64)) 29 wc w.heap.size (fun k_ => some k_ ≠ ((.slice Ao13 t643.length co13) : Value).ownBlock ∧ some k_ ≠ (v648 : Value).ownBlock ∧ k_ ≠ gb646) (.slice Ao12 t640.length co12) t640) ∧ Aside0 (wc.heap[gb646]? = some (.cells #[.int .i64 t635, (.slice Ao11 t636.length co11), .int .i64 t639, (.slice Ao12 t640.length co12)] 28 (0, 0))) ∧ Aside0 (Below w.heap.size w wc))
  case first => as_aux_lemma =>
   have H := HC7.out
   clear HC7
   by_cases c17 : t650 = t654
   ·rw [if_pos c17] at H
    have c17b0 : (t650 == t654) = true := beq_iff_eq.mpr c17
    have c17b1 : (t650 != t654) = false := bne_eq_false_iff_eq.mpr c17
    clear c17
    (first | rw [c17b0] | (simp only [i64_w, i32_w]; rw [c17b0]) | skip)
    obtain ⟨t655, A18, H⟩ := bnd_ H
    have H' := m_ H
    clear H
    obtain ⟨Ao19, co19, eo19⟩ := Kd.R_slice HO649.out
    subst eo19
    obtain ⟨Ao20, co20, eo20⟩ := Kd.R_slice HO653.out
    subst eo20
    go_wp2_with (first | (go_at_call 13; (with_reducible refine (laws_likeInts.calls k _ _ t647 _ _ t651 t655 _ ?side1 ?side2 ?side3 ?side4 A18.out).mono ?_); (case side1 => exact Kd.C_below (Kd.R_reads' HO649.out).2.2 bgo_); (case side2 => exact (Kd.R_reads' HO649.out).2.1); (case side3 => exact Kd.C_below (Kd.R_reads' HO653.out).2.2 bgo_); (case side4 => exact (Kd.R_reads' HO653.out).2.1); rintro e w' ⟨rfl, ⟨nd, rfl⟩⟩))
    go_meet
    case rel => exact ⟨_, (!t655), es_, H', ⟨by first | omega | exact Nat.le_refl _⟩, ⟨by (with_reducible repeat (first | apply Kd.R_alloc | apply Kd.R_drewN | apply Kd.R_drew)); exact Kd.R_mono HO645.out (fun _ hk => hk.1.2)⟩, ⟨by (with_reducible repeat (first | apply Kd.R_alloc | apply Kd.R_drewN | apply Kd.R_drew)); exact Kd.R_mono HO649.out (fun _ hk => hk.1.2)⟩, ⟨by (with_reducible repeat (first | apply Kd.V_alloc | apply Kd.V_drewN | apply Kd.V_drew)); exact Kd.V_mono HO638.out (fun _ hk => ⟨hk.1.1.1.2, ⟨hk.1.2, ⟨hk.1.1.1.1, hk.1.1.2⟩⟩⟩)⟩, ⟨by (with_reducible repeat (first | apply Kd.N_alloc | apply Kd.N_drewN | apply Kd.N_drew)); exact Kd.N_mono HO642.out (fun _ hk => ⟨hk.1.1.1, ⟨hk.1.2, hk.1.1.2⟩⟩)⟩, ⟨blk_below BK646.out bgo_⟩, ⟨hbs_⟩⟩
   ·rw [if_neg c17] at H
    exact absurd H laws_FnWalkTypes.j0_no
  case rest => as_aux_lemma =>
   clear HC7
   obtain ⟨kq, x43_6, rfl, HA, HJ6, HO_4, HO_5, HO_647001, HO_647003, BK646, HB⟩ := hcut
   cases kq with
   | zero => exact absurd HA.out (by simp [laws_FnWalkTypes.j0])
   | succ kj6 =>
    have H := HA.out
    clear HA
    simp only [laws_FnWalkTypes.j0] at H
    by_cases c21 : x43_6 = true
    ·subst c21
     have H1 : (some false) = some true := by rw [if_pos rfl] at H; exact H
     exact absurd (Option.some.inj H1) Bool.false_ne_true
    ·replace c21 := Bool.eq_false_iff.mpr c21
     subst c21
     have H1 : ((impl_TypeOfWalk.f kj6 t635 t636 t639 t640 t643).bind fun bt656 => ((spec_TypeOfWalk.f kj6 t635 t636 t639 t640 t643).bind fun bt660 => (if bt656.2 = bt660.2 then ((laws_likeInts.f kj6 bt656.1 bt660.1).bind fun t664 => (laws_FnWalkTypes.j1 kj6 t643 t647 t650 bt656.1 bt656.2 (!t664) t635 t636 t639 t640)) else (laws_FnWalkTypes.j1 kj6 t643 t647 t650 bt656.1 bt656.2 true t635 t636 t639 t640)))) = some true := by rw [if_neg (show ¬ (false = true) by decide)] at H; exact H
     clear H
     have H := H1
     clear H1
     obtain ⟨⟨t656, t659⟩, A22, H⟩ := bnd_ H
     dsimp only at H
     obtain ⟨⟨t660, t663⟩, A23, H⟩ := bnd_ H
     dsimp only at H
     have HC24 := m_ H
     clear H
     have hcz25_0 := bc0_ BK646.out
     have hcz25_1 := bc1_ BK646.out
     have hcz25_2 := bc2_ BK646.out
     have hcz25_3 := bc3_ BK646.out
     have hfz25_0 := blk_frozen BK646.out 0
     have hfz25_1 := blk_frozen BK646.out 1
     have hfz25_2 := blk_frozen BK646.out 2
     have hfz25_3 := blk_frozen BK646.out 3
     go_upto_region 10 with (first | ((with_reducible refine gate_callee (f := 14) rfl ?_); refine gl_ (some 47) Try.func14 #[.agg #[.int .i64 t635, .slice Ao11 t636.length co11, .int .i64 t639, .slice Ao12 t640.length co12], .slice Ao13 t643.length co13] ?_; (with_reducible refine (impl_TypeOfWalk.calls kj6 t635 _ _ t636 t639 _ _ t640 _ _ t643 t656 t659 _ ?side1 ?side2 ?side3 ?side4 ?side5 ?side6 A22.out).mono ?_); (case side1 => exact Kd.C_below (Kd.V_reads' HO_647001.out).2.2 bgo_); (case side2 => exact (Kd.V_reads' HO_647001.out).2.1); (case side3 => exact Kd.C_below (Kd.N_reads' HO_647003.out).2.2 bgo_); (case side4 => exact (Kd.N_reads' HO_647003.out).2.1); (case side5 => exact Kd.C_below (Kd.R_reads' HO_4.out).2.2 bgo_); (case side6 => exact (Kd.R_reads' HO_4.out).2.1); rintro e w26 ⟨v657, rfl, ho0, hb⟩; refine ⟨_, rfl, ?_⟩; replace HO_647001 := m_ (Kd.V_elder' (Kd.V_below HO_647001.out bgo_) (Kd.R_base ho0) hb); replace HO_647003 := m_ (Kd.N_elder' (Kd.N_below HO_647003.out bgo_) (Kd.R_base ho0) hb); have HO658 := m_ (Kd.R_lower (Kd.R_new' (Kd.R_new' ho0 (Kd.R_lt (Kd.R_below HO_4.out bgo_))) (Kd.R_lt (Kd.R_below HO_5.out bgo_))) (below_size hbs_)); replace HO_4 := m_ (Kd.R_elder' (Kd.R_below HO_4.out bgo_) (Kd.R_base ho0) hb); replace HO_5 := m_ (Kd.R_elder' (Kd.R_below HO_5.out bgo_) (Kd.R_base ho0) hb); replace BK646 := m_ (bb_ BK646.out hb); replace HB := m_ (below_step hbs_ hb); clear hb; (try clear ho0); have hcz27_0 := bc0_ BK646.out; have hcz27_1 := bc1_ BK646.out; have hcz27_2 := bc2_ BK646.out; have hcz27_3 := bc3_ BK646.out; have hfz27_0 := blk_frozen BK646.out 0; have hfz27_1 := blk_frozen BK646.out 1; have hfz27_2 := blk_frozen BK646.out 2; have hfz27_3 := blk_frozen BK646.out 3) | ((with_reducible refine gate_callee (f := 15) rfl ?_); refine gl_ (some 53) Try.func15 #[.agg #[.int .i64 t635, .slice Ao11 t636.length co11, .int .i64 t639, .slice Ao12 t640.length co12], .slice Ao13 t643.length co13] ?_; (with_reducible refine (spec_TypeOfWalk.calls kj6 t635 _ _ t636 t639 _ _ t640 _ _ t643 t660 t663 _ ?side1 ?side2 ?side3 ?side4 ?side5 ?side6 A23.out).mono ?_); (case side1 => exact Kd.C_below (Kd.V_reads' HO_647001.out).2.2 bgo_); (case side2 => exact (Kd.V_reads' HO_647001.out).2.1); (case side3 => exact Kd.C_below (Kd.N_reads' HO_647003.out).2.2 bgo_); (case side4 => exact (Kd.N_reads' HO_647003.out).2.1); (case side5 => exact Kd.C_below (Kd.R_reads' HO_4.out).2.2 bgo_); (case side6 => exact (Kd.R_reads' HO_4.out).2.1); rintro e w28 ⟨v661, rfl, ho0, hb⟩; refine ⟨_, rfl, ?_⟩; replace HO_647001 := m_ (Kd.V_elder' (Kd.V_below HO_647001.out bgo_) (Kd.R_base ho0) hb); replace HO_647003 := m_ (Kd.N_elder' (Kd.N_below HO_647003.out bgo_) (Kd.R_base ho0) hb); have HO662 := m_ (Kd.R_lower (Kd.R_new' (Kd.R_new' (Kd.R_new' ho0 (Kd.R_lt (Kd.R_below HO_4.out bgo_))) (Kd.R_lt (Kd.R_below HO_5.out bgo_))) (Kd.R_lt (Kd.R_below HO658.out bgo_))) (below_size hbs_)); replace HO_4 := m_ (Kd.R_elder' (Kd.R_below HO_4.out bgo_) (Kd.R_base ho0) hb); replace HO_5 := m_ (Kd.R_elder' (Kd.R_below HO_5.out bgo_) (Kd.R_base ho0) hb); replace HO658 := m_ (Kd.R_elder' (Kd.R_below HO658.out bgo_) (Kd.R_base ho0) hb); replace BK646 := m_ (bb_ BK646.out hb); replace HB := m_ (below_step hbs_ hb); clear hb; (try clear ho0)))
     (try simp only [Act.put, List.setIfInBounds_toArray, List.set_cons_zero, List.set_cons_succ])
     go_cut [64] (fun v64 wc => ∃ (kq : Nat) (x64_23 : Bool), v64 = .bool x64_23 ∧ Aside0 (laws_FnWalkTypes.j1 kq t643 t647 t650 t656 t659 x64_23 t635 t636 t639 t640 = some true) ∧ Aside0 (kq ≤ kj6) ∧ Aside0 (Kd.R (Kd.int .i64) 2 wc w.heap.size (fun k_ => some k_ ≠ (v648 : Value).ownBlock ∧ some k_ ≠ (v657 : Value).ownBlock) (.slice Ao13 t643.length co13) t643) ∧ Aside0 (Kd.R (Kd.int .i64) 2 wc w.heap.size (fun k_ => some k_ ≠ ((.slice Ao13 t643.length co13) : Value).ownBlock ∧ some k_ ≠ (v657 : Value).ownBlock) v648 t647) ∧ Aside0 (Kd.R (Kd.int .i64) 2 wc w.heap.size (fun k_ => some k_ ≠ ((.slice Ao13 t643.length co13) : Value).ownBlock ∧ some k_ ≠ (v648 : Value).ownBlock) v657 t656) ∧ Aside0 (Kd.V (Kd.slice 2 (Kd.int .i64)) 29 wc w.heap.size (fun k_ => some k_ ≠ ((.slice Ao13 t643.length co13) : Value).ownBlock ∧ some k_ ≠ (v648 : Value).ownBlock ∧ some k_ ≠ (v657 : Value).ownBlock ∧ some k_ ≠ ((.slice Ao12 t640.length co12) : Value).ownBlock ∧ k_ ≠ gb646) (.slice Ao11 t636.length co11) t636) ∧ Aside0 (Kd.N (Kd.slice 2 (Kd.int .i64)) 29 wc w.heap.size (fun k_ => some k_ ≠ ((.slice Ao13 t643.length co13) : Value).ownBlock ∧ some k_ ≠ (v648 : Value).ownBlock ∧ some k_ ≠ (v657 : Value).ownBlock ∧ k_ ≠ gb646) (.slice Ao12 t640.length co12) t640) ∧ Aside0 (wc.heap[gb646]? = some (.cells #[.int .i64 t635, (.slice Ao11 t636.length co11), .int .i64 t639, (.slice Ao12 t640.length co12)] 28 (0, 0))) ∧ Aside0 (Below w.heap.size w wc))
     case first => as_aux_lemma =>
      have H := HC24.out
      clear HC24
      by_cases c29 : t659 = t663
      ·rw [if_pos c29] at H
       have c29b0 : (t659 == t663) = true := beq_iff_eq.mpr c29
       have c29b1 : (t659 != t663) = false := bne_eq_false_iff_eq.mpr c29
       clear c29
       (first | rw [c29b0] | (simp only [i64_w, i32_w]; rw [c29b0]) | skip)
       obtain ⟨t664, A30, H⟩ := bnd_ H
       have H' := m_ H
       clear H
       obtain ⟨Ao31, co31, eo31⟩ := Kd.R_slice HO658.out
       subst eo31
       obtain ⟨Ao32, co32, eo32⟩ := Kd.R_slice HO662.out
       subst eo32
       go_wp2_with (first | (go_at_call 13; (with_reducible refine (laws_likeInts.calls kj6 _ _ t656 _ _ t660 t664 _ ?side1 ?side2 ?side3 ?side4 A30.out).mono ?_); (case side1 => exact Kd.C_below (Kd.R_reads' HO658.out).2.2 bgo_); (case side2 => exact (Kd.R_reads' HO658.out).2.1); (case side3 => exact Kd.C_below (Kd.R_reads' HO662.out).2.2 bgo_); (case side4 => exact (Kd.R_reads' HO662.out).2.1); rintro e w' ⟨rfl, ⟨nd, rfl⟩⟩))
       go_meet
       case rel => exact ⟨_, (!t664), es_, H', ⟨by have := HJ6.out; first | omega | exact Nat.le_refl _⟩, ⟨by (with_reducible repeat (first | apply Kd.R_alloc | apply Kd.R_drewN | apply Kd.R_drew)); exact Kd.R_mono HO_4.out (fun _ hk => ⟨hk.1.1, hk.1.2⟩)⟩, ⟨by (with_reducible repeat (first | apply Kd.R_alloc | apply Kd.R_drewN | apply Kd.R_drew)); exact Kd.R_mono HO_5.out (fun _ hk => ⟨hk.1.1, hk.1.2⟩)⟩, ⟨by (with_reducible repeat (first | apply Kd.R_alloc | apply Kd.R_drewN | apply Kd.R_drew)); exact Kd.R_mono HO658.out (fun _ hk => ⟨hk.1.1.2, hk.1.2⟩)⟩, ⟨by (with_reducible repeat (first | apply Kd.V_alloc | apply Kd.V_drewN | apply Kd.V_drew)); exact Kd.V_mono HO_647001.out (fun _ hk => ⟨hk.1.1.1, ⟨hk.1.1.2.1, ⟨hk.1.2, ⟨hk.1.1.2.2.1, hk.1.1.2.2.2⟩⟩⟩⟩)⟩, ⟨by (with_reducible repeat (first | apply Kd.N_alloc | apply Kd.N_drewN | apply Kd.N_drew)); exact Kd.N_mono HO_647003.out (fun _ hk => ⟨hk.1.1.1, ⟨hk.1.1.2.1, ⟨hk.1.2, hk.1.1.2.2⟩⟩⟩)⟩, ⟨blk_below BK646.out bgo_⟩, ⟨hbs_⟩⟩
      ·rw [if_neg c29] at H
       exact absurd H laws_FnWalkTypes.j1_no
     case rest => as_aux_lemma =>
      clear HC24
      obtain ⟨kq, x64_23, rfl, HA, HJ23, HO_4, HO_5, HO_9, HO_647001, HO_647003, BK646, HB⟩ := hcut
      cases kq with
      | zero => exact absurd HA.out (by simp [laws_FnWalkTypes.j1])
      | succ kj23 =>
       have H := HA.out
       clear HA
       simp only [laws_FnWalkTypes.j1] at H
       by_cases c33 : x64_23 = true
       ·subst c33
        have H1 : (some false) = some true := by rw [if_pos rfl] at H; exact H
        exact absurd (Option.some.inj H1) Bool.false_ne_true
       ·replace c33 := Bool.eq_false_iff.mpr c33
        subst c33
        have H1 : (if t650 = 0 then (if t659 = 0 then ((laws_sum.f kj23 t656).bind fun t665 => (laws_FnWalkTypes.j2 kj23 t643 t647 (t665 != t639) t635 t636 t639 t640)) else (laws_FnWalkTypes.j2 kj23 t643 t647 true t635 t636 t639 t640)) else (if t659 = t650 then (some ((t647.length : Int) == 0)) else (some false))) = some true := by rw [if_neg (show ¬ (false = true) by decide)] at H; exact H
        clear H
        have H := H1
        clear H1
        by_cases c34 : t650 = 0
        ·rw [if_pos c34] at H
         have c34b0 : (t650 == 0) = true := beq_iff_eq.mpr c34
         have c34b1 : (t650 != 0) = false := bne_eq_false_iff_eq.mpr c34
         clear c34
         have HC35 := m_ H
         clear H
         go_upto_region 14 with (fail)
         go_cut [83] (fun v83 wc => ∃ (kq : Nat) (x83_34 : Bool), v83 = .bool x83_34 ∧ Aside0 (laws_FnWalkTypes.j2 kq t643 t647 x83_34 t635 t636 t639 t640 = some true) ∧ Aside0 (kq ≤ kj23) ∧ Aside0 (Kd.R (Kd.int .i64) 2 wc w.heap.size (fun k_ => some k_ ≠ (v648 : Value).ownBlock) (.slice Ao13 t643.length co13) t643) ∧ Aside0 (Kd.R (Kd.int .i64) 2 wc w.heap.size (fun k_ => some k_ ≠ ((.slice Ao13 t643.length co13) : Value).ownBlock) v648 t647) ∧ Aside0 (Kd.V (Kd.slice 2 (Kd.int .i64)) 29 wc w.heap.size (fun k_ => some k_ ≠ ((.slice Ao13 t643.length co13) : Value).ownBlock ∧ some k_ ≠ (v648 : Value).ownBlock ∧ some k_ ≠ ((.slice Ao12 t640.length co12) : Value).ownBlock ∧ k_ ≠ gb646) (.slice Ao11 t636.length co11) t636) ∧ Aside0 (Kd.N (Kd.slice 2 (Kd.int .i64)) 29 wc w.heap.size (fun k_ => some k_ ≠ ((.slice Ao13 t643.length co13) : Value).ownBlock ∧ some k_ ≠ (v648 : Value).ownBlock ∧ k_ ≠ gb646) (.slice Ao12 t640.length co12) t640) ∧ Aside0 (wc.heap[gb646]? = some (.cells #[.int .i64 t635, (.slice Ao11 t636.length co11), .int .i64 t639, (.slice Ao12 t640.length co12)] 28 (0, 0))) ∧ Aside0 (Below w.heap.size w wc))
         case first => as_aux_lemma =>
          have H := HC35.out
          clear HC35
          by_cases c36 : t659 = 0
          ·rw [if_pos c36] at H
           have c36b0 : (t659 == 0) = true := beq_iff_eq.mpr c36
           have c36b1 : (t659 != 0) = false := bne_eq_false_iff_eq.mpr c36
           clear c36
           (first | rw [c36b0] | (simp only [i64_w, i32_w]; rw [c36b0]) | skip)
           obtain ⟨t665, A37, H⟩ := bnd_ H
           have H' := m_ H
           clear H
           try go_wp2
           replace HO_4 := m_ (Kd.R_drew HO_4.out)
           replace HO_5 := m_ (Kd.R_drew HO_5.out)
           replace HO_9 := m_ (Kd.R_drew HO_9.out)
           replace HO_647001 := m_ (Kd.V_drew HO_647001.out)
           replace HO_647003 := m_ (Kd.N_drew HO_647003.out)
           replace BK646 := m_ (blk_drew BK646.out)
           replace HB := m_ (below_drew1 HB.out)
           obtain ⟨Ao39, co39, eo39⟩ := Kd.R_slice HO_9.out
           subst eo39
           refine start_ (n := 9) (S := fun w' => w'.cell? ⟨gb646, 0, none⟩ = some (.int .i64 t635) ∧ w'.cell? ⟨gb646, 1, none⟩ = some (.slice Ao11 t636.length co11) ∧ w'.cell? ⟨gb646, 2, none⟩ = some (.int .i64 t639) ∧ w'.cell? ⟨gb646, 3, none⟩ = some (.slice Ao12 t640.length co12)) (ds := []) #[false, false, false, false, false, false, false, false, false] (by kernel_rfl) rfl rfl ⟨bc0_ BK646.out, bc1_ BK646.out, bc2_ BK646.out, bc3_ BK646.out⟩ (fun hHeld => ?_); refine with_tabW laws_FnWalkTypes.tab14 laws_FnWalkTypes.bits14 (fun HT_ HW_ => ?_)
           generalize wc.drew = w38 at HO_4 HO_5 HO_9 HO_647001 HO_647003 BK646 HB hHeld ⊢
           refine pk_ 0 9 75 1 ?_
           refine pk_ 1 9 76 3 ?_
           refine pk_ 2 9 77 7 ?_
           refine pk_ 3 9 78 15 ?_
           refine pk_ 5 9 80 47 ?_
           refine tk_ 6 9 81 111 hHeld ?_
           refine on_ 4 9 (some 79) 127 (fun K hK => ?_)
           refine goes_ Try.func16 (by kernel_rfl) rfl #[.slice Ao39 t656.length co39] (by rfl) rfl rfl arg_ ?_
           with_reducible refine (laws_sum.calls kj23 _ _ t656 t665 _ ?side1 ?side2 A37.out).mono ?_
           (case side1 => exact Kd.C_below (Kd.R_reads' HO_9.out).2.2 bgo_)
           (case side2 => exact (Kd.R_reads' HO_9.out).2.1)
           rintro e w' ⟨rfl, ⟨nd, rfl⟩⟩
           refine ⟨_, rfl, ?_⟩
           refine hK.out _ _ ⟨bc0_ BK646.out, bc1_ BK646.out, bc2_ BK646.out, bc3_ BK646.out⟩ (fun hHeld => ?_)
           clear hK K
           refine nm_ ?_
           refine pk_ 7 9 82 255 ?_
           refine pk_ 8 9 83 511 ?_
           refine done_ (done_of HT_.out (by kernel_rfl)) ?_
           try go_wp2
           go_meet
           case rel => exact ⟨_, ((t665 != t639)), es_, H', ⟨by have := HJ6.out; have := HJ23.out; first | omega | exact Nat.le_refl _⟩, ⟨by (with_reducible repeat (first | apply Kd.R_alloc | apply Kd.R_drewN | apply Kd.R_drew)); exact Kd.R_mono HO_4.out (fun _ hk => hk.1)⟩, ⟨by (with_reducible repeat (first | apply Kd.R_alloc | apply Kd.R_drewN | apply Kd.R_drew)); exact Kd.R_mono HO_5.out (fun _ hk => hk.1)⟩, ⟨by (with_reducible repeat (first | apply Kd.V_alloc | apply Kd.V_drewN | apply Kd.V_drew)); exact Kd.V_mono HO_647001.out (fun _ hk => ⟨hk.1, ⟨hk.2.1, ⟨hk.2.2.2.1, hk.2.2.2.2⟩⟩⟩)⟩, ⟨by (with_reducible repeat (first | apply Kd.N_alloc | apply Kd.N_drewN | apply Kd.N_drew)); exact Kd.N_mono HO_647003.out (fun _ hk => ⟨hk.1, ⟨hk.2.1, hk.2.2.2⟩⟩)⟩, ⟨blk_below BK646.out bgo_⟩, ⟨hbs_⟩⟩
          ·rw [if_neg c36] at H
           exact absurd H laws_FnWalkTypes.j2_no
         case rest => as_aux_lemma =>
          clear HC35
          obtain ⟨kq, x83_34, rfl, HA, HJ34, HO_4, HO_5, HO_647001, HO_647003, BK646, HB⟩ := hcut
          cases kq with
          | zero => exact absurd HA.out (by simp [laws_FnWalkTypes.j2])
          | succ kj34 =>
           have H := HA.out
           clear HA
           simp only [laws_FnWalkTypes.j2] at H
           by_cases c41 : x83_34 = true
           ·subst c41
            have H1 : (some false) = some true := by rw [if_pos rfl] at H; exact H
            exact absurd (Option.some.inj H1) Bool.false_ne_true
           ·replace c41 := Bool.eq_false_iff.mpr c41
            subst c41
            have H1 : (if (t643.length : Int) > 10 then (some true) else ((some (([] : List Int) : List Int)).bind fun y666 => (if y666.length + t643.length < 17592186044416 then ((some (y666 ++ t643 : List Int)).bind fun y669 => (if y669.length + t643.length < 17592186044416 then ((impl_PermutationOfWalk.f kj34 t635 t636 t639 t640 (y669 ++ t643)).bind fun bt675 => (if bt675.2 = 0 then (laws_FnWalkTypes.l0 kj34 t647 bt675.1 0) else (some false))) else (none))) else (none)))) = some true := by rw [if_neg (show ¬ (false = true) by decide)] at H; exact H
            clear H
            have H := H1
            clear H1
            by_cases c42 : (t643.length : Int) > 10
            ·rw [if_pos c42] at H
             have c42b0 := decide_eq_true c42
             have c42b1 : decide (10 < t643.length) = true := decide_eq_true (by omega)
             clear c42
             have H := Option.some.inj H
             go_wp2
             go_ret
             exact ⟨er_, hbs_⟩
            ·rw [if_neg c42] at H
             have c42b0 := decide_eq_false c42
             have c42b1 : decide (10 < t643.length) = false := decide_eq_false (by omega)
             clear c42
             obtain ⟨y666, Ny666, H⟩ : ∃ y666 : List Int, Aside0 (y666 = (([] : List Int))) ∧ (if y666.length + t643.length < 17592186044416 then ((some (y666 ++ t643 : List Int)).bind fun y669 => (if y669.length + t643.length < 17592186044416 then ((impl_PermutationOfWalk.f kj34 t635 t636 t639 t640 (y669 ++ t643)).bind fun bt675 => (if bt675.2 = 0 then (laws_FnWalkTypes.l0 kj34 t647 bt675.1 0) else (some false))) else (none))) else (none)) = some true := ⟨_, ⟨rfl⟩, H⟩
             obtain ⟨c43, H⟩ := itn_ H
             have LMc43 := m_ c43
             clear c43
             obtain ⟨y669, Ny669, H⟩ : ∃ y669 : List Int, Aside0 (y669 = (y666 ++ t643)) ∧ (if y669.length + t643.length < 17592186044416 then ((impl_PermutationOfWalk.f kj34 t635 t636 t639 t640 (y669 ++ t643)).bind fun bt675 => (if bt675.2 = 0 then (laws_FnWalkTypes.l0 kj34 t647 bt675.1 0) else (some false))) else (none)) = some true := ⟨_, ⟨rfl⟩, H⟩
             obtain ⟨c44, H⟩ := itn_ H
             have LMc44 := m_ c44
             clear c44
             obtain ⟨y672, Ny672, H⟩ : ∃ y672 : List Int, Aside0 (y672 = (y669 ++ t643)) ∧ ((impl_PermutationOfWalk.f kj34 t635 t636 t639 t640 y672).bind fun bt675 => (if bt675.2 = 0 then (laws_FnWalkTypes.l0 kj34 t647 bt675.1 0) else (some false))) = some true := ⟨_, ⟨rfl⟩, H⟩
             obtain ⟨⟨t675, t678⟩, A45, H⟩ := bnd_ H
             dsimp only at H
             by_cases c46 : t678 = 0
             ·rw [if_pos c46] at H
              have c46b0 : (t678 == 0) = true := beq_iff_eq.mpr c46
              have c46b1 : (t678 != 0) = false := bne_eq_false_iff_eq.mpr c46
              clear c46
              have H' := m_ H
              clear H
              try go_wp2
              replace HO_4 := m_ (Kd.R_drew HO_4.out)
              replace HO_5 := m_ (Kd.R_drew HO_5.out)
              replace HO_647001 := m_ (Kd.V_drew HO_647001.out)
              replace HO_647003 := m_ (Kd.N_drew HO_647003.out)
              replace BK646 := m_ (blk_drew BK646.out)
              replace HB := m_ (below_drew1 HB.out)
              refine start_ (n := 12) (S := fun w' => w'.cell? ⟨gb646, 0, none⟩ = some (.int .i64 t635) ∧ w'.cell? ⟨gb646, 1, none⟩ = some (.slice Ao11 t636.length co11) ∧ w'.cell? ⟨gb646, 2, none⟩ = some (.int .i64 t639) ∧ w'.cell? ⟨gb646, 3, none⟩ = some (.slice Ao12 t640.length co12)) (ds := []) #[false, false, false, false, false, false, false, false, false, false, false, false] (by kernel_rfl) rfl rfl ⟨bc0_ BK646.out, bc1_ BK646.out, bc2_ BK646.out, bc3_ BK646.out⟩ (fun hHeld => ?_); refine with_tabW laws_FnWalkTypes.tab18 laws_FnWalkTypes.bits18 (fun HT_ HW_ => ?_)
              generalize wc.drew = w47 at HO_4 HO_5 HO_647001 HO_647003 BK646 HB hHeld ⊢
              refine pk_ 2 12 90 4 ?_
              refine pk_ 4 12 92 20 ?_
              refine tk_ 0 12 88 21 hHeld ?_
              refine on_ 1 12 (some 89) 23 (fun K hK => ?_)
              refine Kd.R_lit_step (Kd.int .i64) _ 2 ?hg (N := 89) ?hd (xs := ([] : List Int)) (inner := []) (ok := fun _ => True) (okp := fun _ => True) ?hr ?hp (fun _ hk => hk) trivial (Below.refl _ _) (Nat.le_refl _) (by simp) ?_; (case hd => rfl); (case hg => rfl); (case hr => first | (go_simp; done) | (go_simp; rfl)); (case hp => exact (Reps.none _ _))
              intro v667 w48 ho49 hb hg_ hnew_
              clear hg_ hnew_
              rw [← Ny666.out] at ho49
              replace HO_647001 := m_ (Kd.V_elder' (Kd.V_below HO_647001.out bgo_) (Kd.R_base ho49) hb)
              replace HO_647003 := m_ (Kd.N_elder' (Kd.N_below HO_647003.out bgo_) (Kd.R_base ho49) hb)
              have HO668 := m_ (Kd.R_lower (Kd.R_new' (Kd.R_new' ho49 (Kd.R_lt (Kd.R_below HO_4.out bgo_))) (Kd.R_lt (Kd.R_below HO_5.out bgo_))) (below_size hbs_))
              replace HO_4 := m_ (Kd.R_elder' (Kd.R_below HO_4.out bgo_) (Kd.R_base ho49) hb)
              replace HO_5 := m_ (Kd.R_elder' (Kd.R_below HO_5.out bgo_) (Kd.R_base ho49) hb)
              replace BK646 := m_ (bb_ BK646.out hb)
              replace HB := m_ (below_step hbs_ hb)
              clear hb ho49
              refine hK.out _ _ ⟨bc0_ BK646.out, bc1_ BK646.out, bc2_ BK646.out, bc3_ BK646.out⟩ (fun hHeld => ?_)
              clear hK K
              refine nm_ ?_
              refine on_ 3 12 (some 91) 31 (fun K hK => ?_)
              refine Kd.R_append_rows_step (Kd.int .i64) (w0 := w) w.heap.size (by rfl) (.tmp 89) (.tmp 90) 29 2 (.int .i64 0) 8 rfl Try.underlying29 info2 rfl (by decide) (by omega) v667 y666 t643 _ _ _ (fun k_ => some k_ ≠ (.slice Ao13 t643.length co13 : Value).ownBlock ∧ some k_ ≠ (v648 : Value).ownBlock) (fun _ => False) rfl rfl ?aO ?aR (fun _ _ h => h) (fun _ h => h.elim) ?aF ?aB ?aS ?aL ?_
              (case aR => repeat (first | exact (Kd.R_reads' HO_4.out).2.2 | (with_reducible refine Kd.C_alloc ?_ _) | (with_reducible refine Kd.C_drewN ?_ _) | (with_reducible refine Kd.C_drew ?_)))
              (case aB => exact hbs_)
              (case aF => exact (fun k_ hk => ⟨Kd.fresh' (Kd.R_lt (Kd.R_below HO_4.out bgo_)) k_ hk, Kd.fresh' (Kd.R_lt (Kd.R_below HO_5.out bgo_)) k_ hk⟩))
              (case aO => exact (Kd.R_below (Kd.R_mono HO668.out (fun _ hk => ⟨hk.1.2, hk.2⟩)) bgo_))
              (case aS => exact (below_size hbs_))
              (case aL => have := LMc43.out; omega)
              intro v670 w50 ho hb hg hat
              rw [← Ny669.out] at ho
              replace HO_4 := m_ (Kd.R_after (ok := (fun k_ => some k_ ≠ (v648 : Value).ownBlock)) (Kd.R_below HO_4.out bgo_) hg hat)
              replace HO_5 := m_ (Kd.R_after (ok := (fun k_ => some k_ ≠ (.slice Ao13 t643.length co13 : Value).ownBlock)) (Kd.R_below HO_5.out bgo_) hg hat)
              replace HO_647001 := m_ (Kd.V_afterv (ok := (fun k_ => some k_ ≠ (.slice Ao13 t643.length co13 : Value).ownBlock ∧ some k_ ≠ (v648 : Value).ownBlock ∧ some k_ ≠ (.slice Ao12 t640.length co12 : Value).ownBlock ∧ k_ ≠ gb646)) (Kd.V_below HO_647001.out bgo_) hg hat)
              replace HO_647003 := m_ (Kd.N_afterv (ok := (fun k_ => some k_ ≠ (.slice Ao13 t643.length co13 : Value).ownBlock ∧ some k_ ≠ (v648 : Value).ownBlock ∧ k_ ≠ gb646)) (Kd.N_below HO_647003.out bgo_) hg hat)
              replace BK646 := m_ (blk_grown (blk_below BK646.out bgo_) hg (Kd.R_ne HO668.out BK646.out (by decide)))
              replace HB := m_ (hb)
              have HO671 := m_ (ho)
              (try clear HO668)
              clear ho hb hg hat
              refine hK.out _ _ ⟨bc0_ BK646.out, bc1_ BK646.out, bc2_ BK646.out, bc3_ BK646.out⟩ (fun hHeld => ?_)
              clear hK K
              refine nm_ ?_
              refine on_ 5 12 (some 93) 63 (fun K hK => ?_)
              refine Kd.R_append_rows_step (Kd.int .i64) (w0 := w) w.heap.size (by rfl) (.tmp 91) (.tmp 92) 29 2 (.int .i64 0) 8 rfl Try.underlying29 info2 rfl (by decide) (by omega) v670 y669 t643 _ _ _ (fun k_ => some k_ ≠ (.slice Ao13 t643.length co13 : Value).ownBlock ∧ some k_ ≠ (v648 : Value).ownBlock) (fun _ => False) rfl rfl ?aO ?aR (fun _ _ h => h) (fun _ h => h.elim) ?aF ?aB ?aS ?aL ?_
              (case aR => repeat (first | exact (Kd.R_reads' HO_4.out).2.2 | (with_reducible refine Kd.C_alloc ?_ _) | (with_reducible refine Kd.C_drewN ?_ _) | (with_reducible refine Kd.C_drew ?_)))
              (case aB => exact hbs_)
              (case aF => exact (fun k_ hk => ⟨Kd.fresh' (Kd.R_lt (Kd.R_below HO_4.out bgo_)) k_ hk, Kd.fresh' (Kd.R_lt (Kd.R_below HO_5.out bgo_)) k_ hk⟩))
              (case aO => exact (Kd.R_below HO671.out bgo_))
              (case aS => exact (below_size hbs_))
              (case aL => have := LMc44.out; omega)
              intro v673 w51 ho hb hg hat
              rw [← Ny672.out] at ho
              replace HO_4 := m_ (Kd.R_after (ok := (fun k_ => some k_ ≠ (v648 : Value).ownBlock)) (Kd.R_below HO_4.out bgo_) hg hat)
              replace HO_5 := m_ (Kd.R_after (ok := (fun k_ => some k_ ≠ (.slice Ao13 t643.length co13 : Value).ownBlock)) (Kd.R_below HO_5.out bgo_) hg hat)
              replace HO_647001 := m_ (Kd.V_afterv (ok := (fun k_ => some k_ ≠ (.slice Ao13 t643.length co13 : Value).ownBlock ∧ some k_ ≠ (v648 : Value).ownBlock ∧ some k_ ≠ (.slice Ao12 t640.length co12 : Value).ownBlock ∧ k_ ≠ gb646)) (Kd.V_below HO_647001.out bgo_) hg hat)
              replace HO_647003 := m_ (Kd.N_afterv (ok := (fun k_ => some k_ ≠ (.slice Ao13 t643.length co13 : Value).ownBlock ∧ some k_ ≠ (v648 : Value).ownBlock ∧ k_ ≠ gb646)) (Kd.N_below HO_647003.out bgo_) hg hat)
              replace BK646 := m_ (blk_grown (blk_below BK646.out bgo_) hg (Kd.R_ne HO671.out BK646.out (by decide)))
              replace HB := m_ (hb)
              have HO674 := m_ (ho)
              (try clear HO671)
              clear ho hb hg hat
              obtain ⟨Ao52, co52, eo52⟩ := Kd.R_slice HO674.out
              subst eo52
              refine hK.out _ _ ⟨bc0_ BK646.out, bc1_ BK646.out, bc2_ BK646.out, bc3_ BK646.out⟩ (fun hHeld => ?_)
              clear hK K
              refine nm_ ?_
              refine on_ 6 12 (some 94) 127 (fun K hK => ?_)
              refine goes_ Try.func11 (by kernel_rfl) rfl #[.agg #[.int .i64 t635, .slice Ao11 t636.length co11, .int .i64 t639, .slice Ao12 t640.length co12], .slice Ao52 y672.length co52] (by rfl) rfl rfl arg_ ?_
              with_reducible refine (impl_PermutationOfWalk.calls kj34 t635 _ _ t636 t639 _ _ t640 _ _ y672 t675 t678 _ ?side1 ?side2 ?side3 ?side4 ?side5 ?side6 A45.out).mono ?_
              (case side1 => exact Kd.C_below (Kd.V_reads' HO_647001.out).2.2 bgo_)
              (case side2 => exact (Kd.V_reads' HO_647001.out).2.1)
              (case side3 => exact Kd.C_below (Kd.N_reads' HO_647003.out).2.2 bgo_)
              (case side4 => exact (Kd.N_reads' HO_647003.out).2.1)
              (case side5 => exact Kd.C_below (Kd.R_reads' HO674.out).2.2 bgo_)
              (case side6 => exact (Kd.R_reads' HO674.out).2.1)
              rintro e w53 ⟨v676, rfl, ho0, hb⟩
              refine ⟨_, rfl, ?_⟩
              replace HO_647001 := m_ (Kd.V_elder' (Kd.V_below HO_647001.out bgo_) (Kd.R_base ho0) hb)
              replace HO_647003 := m_ (Kd.N_elder' (Kd.N_below HO_647003.out bgo_) (Kd.R_base ho0) hb)
              have HO677 := m_ (Kd.R_lower (Kd.R_new' (Kd.R_new' (Kd.R_new' ho0 (Kd.R_lt (Kd.R_below HO_4.out bgo_))) (Kd.R_lt (Kd.R_below HO_5.out bgo_))) (Kd.R_lt (Kd.R_below HO674.out bgo_))) (below_size hbs_))
              replace HO_4 := m_ (Kd.R_elder' (Kd.R_below HO_4.out bgo_) (Kd.R_base ho0) hb)
              replace HO_5 := m_ (Kd.R_elder' (Kd.R_below HO_5.out bgo_) (Kd.R_base ho0) hb)
              replace HO674 := m_ (Kd.R_elder' (Kd.R_below HO674.out bgo_) (Kd.R_base ho0) hb)
              replace BK646 := m_ (bb_ BK646.out hb)
              replace HB := m_ (below_step hbs_ hb)
              (try clear ho0)
              refine hK.out _ _ ⟨bc0_ BK646.out, bc1_ BK646.out, bc2_ BK646.out, bc3_ BK646.out⟩ (fun hHeld => ?_)
              clear hK K
              refine nm_ ?_
              refine pk_ 7 12 87 255 ?_
              refine pk_ 8 12 95 511 ?_
              refine pk_ 9 12 96 1023 ?_
              refine pk_ 10 12 13 2047 ?_
              refine pk_ 11 12 14 4095 ?_
              refine done_ (done_of HT_.out (by kernel_rfl)) ?_
              try go_wp2
              go_loopg [15] kj34 (fun kq v15 w' => ∃ (x15_4 : Int), v15 = .int .i64 x15_4 ∧ Aside0 (laws_FnWalkTypes.l0 kq t647 t675 x15_4 = some true) ∧ Aside0 (kq ≤ kj34) ∧ Aside0 (Kd.R (Kd.int .i64) 2 w' w.heap.size (fun k_ => some k_ ≠ (v676 : Value).ownBlock) v648 t647) ∧ Aside0 (Kd.R (Kd.int .i64) 2 w' w.heap.size (fun k_ => some k_ ≠ (v648 : Value).ownBlock) v676 t675) ∧ Aside0 (Kd.V (Kd.slice 2 (Kd.int .i64)) 29 w' w.heap.size (fun k_ => some k_ ≠ (v648 : Value).ownBlock ∧ some k_ ≠ (v676 : Value).ownBlock ∧ some k_ ≠ ((.slice Ao12 t640.length co12) : Value).ownBlock ∧ k_ ≠ gb646) (.slice Ao11 t636.length co11) t636) ∧ Aside0 (Kd.N (Kd.slice 2 (Kd.int .i64)) 29 w' w.heap.size (fun k_ => some k_ ≠ (v648 : Value).ownBlock ∧ some k_ ≠ (v676 : Value).ownBlock ∧ k_ ≠ gb646) (.slice Ao12 t640.length co12) t640) ∧ Aside0 (w'.heap[gb646]? = some (.cells #[.int .i64 t635, (.slice Ao11 t636.length co11), .int .i64 t639, (.slice Ao12 t640.length co12)] 28 (0, 0))) ∧ Aside0 (Below w.heap.size w w'))
              case atStart => exact ⟨(0), es_, H', ⟨Nat.le_refl _⟩, ⟨by (with_reducible repeat (first | apply Kd.R_alloc | apply Kd.R_drewN | apply Kd.R_drew)); exact Kd.R_mono HO_5.out (fun _ hk => hk.2)⟩, ⟨by (with_reducible repeat (first | apply Kd.R_alloc | apply Kd.R_drewN | apply Kd.R_drew)); exact Kd.R_mono HO677.out (fun _ hk => hk.1.2)⟩, ⟨by (with_reducible repeat (first | apply Kd.V_alloc | apply Kd.V_drewN | apply Kd.V_drew)); exact Kd.V_mono HO_647001.out (fun _ hk => ⟨hk.1.1.2.1, ⟨hk.2, ⟨hk.1.1.2.2.1, hk.1.1.2.2.2⟩⟩⟩)⟩, ⟨by (with_reducible repeat (first | apply Kd.N_alloc | apply Kd.N_drewN | apply Kd.N_drew)); exact Kd.N_mono HO_647003.out (fun _ hk => ⟨hk.1.1.2.1, ⟨hk.2, hk.1.1.2.2⟩⟩)⟩, ⟨blk_below BK646.out bgo_⟩, ⟨hbs_⟩⟩
              case round =>
               clear H'
               obtain ⟨x15_4, rfl, HA, HK4, HO_5, HO_13, HO_647001, HO_647003, BK646, HB⟩ := hrel
               cases gk with
               | zero => exact absurd HA.out (by simp [laws_FnWalkTypes.l0])
               | succ k4 =>
                have H := HA.out
                clear HA
                simp only [laws_FnWalkTypes.l0] at H
                by_cases c54 : x15_4 < (t647.length : Int)
                ·rw [if_pos c54] at H
                 have c54b0 := decide_eq_true c54
                 clear c54
                 obtain ⟨c55, H⟩ := itn_ H
                 have c55b0 := decide_eq_true c55
                 clear c55
                 obtain ⟨c56, H⟩ := itn_ H
                 have c56b0 := decide_eq_true c56
                 clear c56
                 obtain ⟨c57, H⟩ := itn_ H
                 have c57b0 := decide_eq_true c57
                 clear c57
                 obtain ⟨c58, H⟩ := itn_ H
                 have c58b0 := decide_eq_true c58
                 clear c58
                 by_cases c59 : (rd t675 x15_4) = (rd t647 (rd t647 x15_4))
                 ·rw [if_pos c59] at H
                  have c59b0 : ((rd t675 x15_4) == (rd t647 (rd t647 x15_4))) = true := beq_iff_eq.mpr c59
                  have c59b1 : ((rd t675 x15_4) != (rd t647 (rd t647 x15_4))) = false := bne_eq_false_iff_eq.mpr c59
                  clear c59
                  have H' := m_ H
                  clear H
                  obtain ⟨Ao60, co60, eo60⟩ := Kd.R_slice HO_5.out
                  subst eo60
                  try go_wp2
                  replace HO_5 := m_ (Kd.R_drew HO_5.out)
                  replace HO_13 := m_ (Kd.R_drew HO_13.out)
                  replace HO_647001 := m_ (Kd.V_drew HO_647001.out)
                  replace HO_647003 := m_ (Kd.N_drew HO_647003.out)
                  replace BK646 := m_ (blk_drew BK646.out)
                  replace HB := m_ (below_drew1 HB.out)
                  obtain ⟨Ao62, co62, eo62⟩ := Kd.R_slice HO_13.out
                  subst eo62
                  have p679 : 0 ≤ (x15_4 : Int) := od_
                  have q679 : x15_4 < (t675.length : Int) := od_
                  obtain ⟨ad679, e679, hx679_0⟩ := Kd.at_int (Kd.R_reads' HO_13.out).2.2 x15_4 p679 q679
                  cases e679
                  replace p679 := eq_true p679
                  replace q679 := eq_true q679
                  have p680 : 0 ≤ (x15_4 : Int) := od_
                  have q680 : x15_4 < (t647.length : Int) := od_
                  obtain ⟨ad680, e680, hx680_0⟩ := Kd.at_int (Kd.R_reads' HO_5.out).2.2 x15_4 p680 q680
                  cases e680
                  replace p680 := eq_true p680
                  replace q680 := eq_true q680
                  have p681 : 0 ≤ ((rd t647 x15_4) : Int) := od_
                  have q681 : (rd t647 x15_4) < (t647.length : Int) := od_
                  obtain ⟨ad681, e681, hx681_0⟩ := Kd.at_int (Kd.R_reads' HO_5.out).2.2 (rd t647 x15_4) p681 q681
                  obtain rfl : ad680 = ad681 := (by injection e681)
                  replace p681 := eq_true p681
                  replace q681 := eq_true q681
                  refine start_ (n := 12) (S := fun w' => w'.cell? (ad679.add (x15_4).toNat) = some (.int .i64 (rd t675 x15_4)) ∧ w'.cell? (ad680.add (x15_4).toNat) = some (.int .i64 (rd t647 x15_4)) ∧ w'.cell? (ad680.add ((rd t647 x15_4)).toNat) = some (.int .i64 (rd t647 (rd t647 x15_4)))) (ds := []) #[false, false, false, false, false, false, false, false, false, false, false, false] (by kernel_rfl) rfl rfl ⟨hx679_0, hx680_0, hx681_0⟩ (fun hHeld => ?_); refine with_tabW laws_FnWalkTypes.tab24 laws_FnWalkTypes.bits24 (fun HT_ HW_ => ?_)
                  generalize wr.drew = w61 at HO_5 HO_13 HO_647001 HO_647003 BK646 HB hx679_0 hx680_0 hx681_0 hHeld ⊢
                  refine pk_ 0 12 105 1 ?_
                  refine pk_ 1 12 106 3 ?_
                  refine pk_ 2 12 107 7 ?_
                  refine pk_ 4 12 109 23 ?_
                  refine pk_ 5 12 110 55 ?_
                  refine pk_ 6 12 111 119 ?_
                  refine pk_ 7 12 112 247 ?_
                  refine tk_ 3 12 108 255 hHeld ?_
                  refine tk_ 8 12 113 511 hHeld ?_
                  refine pk_ 9 12 114 1023 ?_
                  refine tk_ 10 12 115 2047 hHeld ?_
                  refine pk_ 11 12 116 4095 ?_
                  refine done_ (done_of HT_.out (by kernel_rfl)) ?_
                  try go_wp2
                  go_roundg k4
                  case measure => have := HJ6.out; have := HJ23.out; have := HJ34.out; have := HK4.out; omega
                  case rel => exact ⟨(wrap64 (x15_4 + 1)), es_, H', ⟨by have := HJ6.out; have := HJ23.out; have := HJ34.out; have := HK4.out; omega⟩, ⟨Kd.R_below HO_5.out bgo_⟩, ⟨Kd.R_below HO_13.out bgo_⟩, ⟨Kd.V_below HO_647001.out bgo_⟩, ⟨Kd.N_below HO_647003.out bgo_⟩, ⟨blk_below BK646.out bgo_⟩, ⟨hbs_⟩⟩
                 ·rw [if_neg c59] at H
                  exact absurd (Option.some.inj H) Bool.false_ne_true
                ·rw [if_neg c54] at H
                 have c54b0 := decide_eq_false c54
                 clear c54
                 have H := Option.some.inj H
                 obtain ⟨Ao66, co66, eo66⟩ := Kd.R_slice HO_5.out
                 subst eo66
                 go_wp2
                 go_ret
                 exact ⟨er_, hbs_⟩
             ·rw [if_neg c46] at H
              exact absurd (Option.some.inj H) Bool.false_ne_true
        ·rw [if_neg c34] at H
         have c34b0 : (t650 == 0) = false := beq_eq_false_iff_ne.mpr c34
         have c34b1 : (t650 != 0) = true := bne_iff_ne.mpr c34
         by_cases c74 : t659 = t650
         ·rw [if_pos c74] at H
          have c74b0 : (t659 == t650) = true := beq_iff_eq.mpr c74
          have c74b1 : (t659 != t650) = false := bne_eq_false_iff_eq.mpr c74
          clear c74
          have H := Option.some.inj H
          obtain ⟨Ao75, co75, eo75⟩ := Kd.R_slice HO_5.out
          subst eo75
          go_wp2
          go_ret
          exact ⟨er_, hbs_⟩
         ·rw [if_neg c74] at H
          exact absurd (Option.some.inj H) Bool.false_ne_true
/-- THE ONE PURE STATEMENT of laws_FnWalkTypes: yours. -/
def laws_FnWalkTypes.Pure : Prop := ∀ (l0 : List Int), l0.length ≤ maxLen → (∀ y ∈ l0, (Lit.int .u8 y).wf = true) → ∃ k, laws_FnWalkTypes.f k l0 = some true
theorem laws_FnWalkTypes.walk (P : laws_FnWalkTypes.Pure) (A0 : Option Addr) (c0 : Nat) (l0 : List Int) (w : World) (hm0 : l0.length ≤ maxLen) (hw0 : (∀ y ∈ l0, (Lit.int .u8 y).wf = true)) (hr0 : Kd.C (Kd.int .u8) w A0 l0.length l0) (hc0 : l0.length ≤ c0) :
  Calls Try.prog 3 #[.slice A0 l0.length c0] w fun e w' => e = .returned (.bool true) ∧ Below w.heap.size w w' := by
 obtain ⟨k, h⟩ := P l0 hm0 hw0
 refine (laws_FnWalkTypes.calls k _ _ l0 w hr0 hc0 h).mono ?_
 rintro e w' ⟨rfl, hd⟩
 exact ⟨rfl, hd⟩

end Go.Proofs.Ytkadhadceongiaa.G
