/- The printed functions that this law reaches, and their contracts: part 4. -/
-- printed by this repo's wip/printer out of the kit's print with its own changes
import Derived.Test.YtkadhadceongiaaC3
namespace Go.Proofs.Ytkadhadceongiaa.G
open Go.RowKit Go.Proofs.YtkadhadceongiaaW.PrintWords Go.Proofs.YtkadhadceongiaaW.PrintLast Go.Proofs.YtkadhadceongiaaW.PrintMore
attribute [local go_sem] max2_int min2_int max_two min_two max_three min_three max_four min_four   -- for this text's walks alone
set_option linter.unusedVariables false
set_option linter.unusedSimpArgs false

/-! ### laws_FnWholePolynomials: function 6 -/
mutual
def laws_FnWholePolynomials.j0 : Nat → List Int → List Int → List Int → List Int → Int → Bool → Option (Bool)
 | 0, _, _, _, _, _, _ => none
 | k + 1, x0, x3, x4, x5, x6, x86 => if x86 = true then (some false) else (if x6 = 0 then ((impl_ValueOfWhole.f k x3 (-1)).bind fun bt805 => ((impl_ValueOfWhole.f k x4 (-1)).bind fun bt807 => ((impl_ValueOfWhole.f k x5 (-1)).bind fun bt809 => (if bt805.1 < 1000000 then (if bt805.1 > (-1000000) then (if bt807.1 < 1000000 then (laws_FnWholePolynomials.j1 k x0 x3 x4 x5 bt805.1 bt805.2 bt807.1 bt807.2 bt809.1 bt809.2 (decide (bt807.1 > (-1000000)))) else (laws_FnWholePolynomials.j1 k x0 x3 x4 x5 bt805.1 bt805.2 bt807.1 bt807.2 bt809.1 bt809.2 false)) else (laws_FnWholePolynomials.j1 k x0 x3 x4 x5 bt805.1 bt805.2 bt807.1 bt807.2 bt809.1 bt809.2 false)) else (laws_FnWholePolynomials.j1 k x0 x3 x4 x5 bt805.1 bt805.2 bt807.1 bt807.2 bt809.1 bt809.2 false))))) else (laws_FnWholePolynomials.j4 k x0))
def laws_FnWholePolynomials.j4 : Nat → List Int → Option (Bool)
 | 0, _ => none
 | k + 1, x0 => (spec_DrawDivideWhole.f k x0).bind fun bt818 => ((impl_DivideWhole.f k bt818.1 bt818.2).bind fun bt824 => ((spec_DivideWhole.f k bt818.1 bt818.2).bind fun bt828 => (if bt824.2 = bt828.2 then ((laws_likeInts.f k bt824.1 bt828.1).bind fun t832 => (laws_FnWholePolynomials.j5 k x0 bt818.1 bt818.2 bt824.1 bt824.2 (!t832))) else (laws_FnWholePolynomials.j5 k x0 bt818.1 bt818.2 bt824.1 bt824.2 true))))
def laws_FnWholePolynomials.j5 : Nat → List Int → List Int → List Int → List Int → Int → Bool → Option (Bool)
 | 0, _, _, _, _, _, _ => none
 | k + 1, x0, x18, x19, x20, x21, x196 => if x196 = true then (some false) else (if x21 = 0 then ((impl_MultiplyWhole.f k x20 x19).bind fun bt833 => (if bt833.2 = 0 then ((laws_likeInts.f k bt833.1 x18).bind fun t837 => (if t837 = true then (laws_FnWholePolynomials.j6 k x0) else (some false))) else (laws_FnWholePolynomials.j6 k x0))) else (laws_FnWholePolynomials.j6 k x0))
def laws_FnWholePolynomials.j6 : Nat → List Int → Option (Bool)
 | 0, _ => none
 | k + 1, x0 => (spec_DrawDeterminantWhole.f k x0).bind fun t838 => ((impl_DeterminantWhole.f k t838).bind fun bt841 => ((spec_DeterminantWhole.f k t838).bind fun bt845 => (if bt841.2 = bt845.2 then ((laws_likeInts.f k bt841.1 bt845.1).bind fun t849 => (laws_FnWholePolynomials.j7 k x0 t838 bt841.1 bt841.2 (!t849))) else (laws_FnWholePolynomials.j7 k x0 t838 bt841.1 bt841.2 true))))
def laws_FnWholePolynomials.j7 : Nat → List Int → List (List Int) → List Int → Int → Bool → Option (Bool)
 | 0, _, _, _, _, _ => none
 | k + 1, x0, x26, x27, x28, x233 => if x233 = true then (some false) else (if x28 = 0 then (laws_FnWholePolynomials.l0 k x0 x26 x27 0 0 0) else (laws_FnWholePolynomials.j9 k x0))
def laws_FnWholePolynomials.j9 : Nat → List Int → Option (Bool)
 | 0, _ => none
 | k + 1, x0 => (spec_DrawAddWhole.f k x0).bind fun bt855 => ((impl_AddWhole.f k bt855.1 bt855.2.1 bt855.2.2).bind fun bt862 => ((spec_AddWhole.f k bt855.1 bt855.2.1 bt855.2.2).bind fun bt866 => ((spec_DrawValueOfWhole.f k x0).bind fun bt870 => ((impl_ValueOfWhole.f k bt870.1 bt870.2).bind fun bt874 => ((spec_ValueOfWhole.f k bt870.1 bt870.2).bind fun bt876 => ((spec_DrawDerivativeOfWhole.f k x0).bind fun t878 => ((impl_DerivativeOfWhole.f k t878).bind fun bt881 => ((spec_DerivativeOfWhole.f k t878).bind fun bt885 => (if bt862.2 = bt866.2 then ((laws_likeInts.f k bt862.1 bt866.1).bind fun t889 => (if t889 = true then (if bt874.2 = bt876.2 then (if bt874.1 = bt876.1 then (if bt881.2 = bt885.2 then ((laws_likeInts.f k bt881.1 bt885.1).bind fun t890 => (some t890)) else (some false)) else (some false)) else (some false)) else (some false))) else (some false))))))))))
def laws_FnWholePolynomials.l0 : Nat → List Int → List (List Int) → List Int → Int → Int → Int → Option (Bool)
 | 0, _, _, _, _, _, _ => none
 | k + 1, x0, x26, x27, x31, x32, x33 => if x33 < (x26.length : Int) then (if 0 ≤ x33 then (if x33 < ((rd_L2 x26 x33).length : Int) then (laws_FnWholePolynomials.l0 k x0 x26 x27 (wrap64 (x31 + (rd (rd_L2 x26 x33) x33))) x32 (wrap64 (x33 + 1))) else (none)) else (none)) else (if (x27.length : Int) > 1 then (if 1 < (x27.length : Int) then (if (x27.length : Int) < 1 then (some false) else (if 0 < (x27.length : Int) then (if (rd x27 0) = 1 then (if (rd x27 1) = (wrap64 (-x31)) then (laws_FnWholePolynomials.j9 k x0) else (some false)) else (some false)) else (none))) else (none)) else (if (x27.length : Int) < 1 then (some false) else (if 0 < (x27.length : Int) then (if (rd x27 0) = 1 then (if x32 = (wrap64 (-x31)) then (laws_FnWholePolynomials.j9 k x0) else (some false)) else (some false)) else (none))))
def laws_FnWholePolynomials.j1 : Nat → List Int → List Int → List Int → List Int → Int → Int → Int → Int → Int → Int → Bool → Option (Bool)
 | 0, _, _, _, _, _, _, _, _, _, _, _ => none
 | k + 1, x0, x3, x4, x5, x9, x10, x11, x12, x13, x14, x15 => if x10 = 0 then (if x12 = 0 then (if x14 = 0 then (if x15 = true then (laws_FnWholePolynomials.j2 k x0 x3 x4 x5 ((wrap64 (x9 * x11)) != x13)) else (laws_FnWholePolynomials.j2 k x0 x3 x4 x5 false)) else (laws_FnWholePolynomials.j2 k x0 x3 x4 x5 false)) else (laws_FnWholePolynomials.j2 k x0 x3 x4 x5 false)) else (laws_FnWholePolynomials.j2 k x0 x3 x4 x5 false)
def laws_FnWholePolynomials.j2 : Nat → List Int → List Int → List Int → List Int → Bool → Option (Bool)
 | 0, _, _, _, _, _ => none
 | k + 1, x0, x3, x4, x5, x137 => if x137 = true then (some false) else (if (x4.length : Int) > 0 then (if 0 < (x4.length : Int) then (if (rd x4 0) = 1 then (laws_FnWholePolynomials.j3 k x0 x3 x4 x5 true) else (laws_FnWholePolynomials.j3 k x0 x3 x4 x5 ((rd x4 0) == (-1)))) else (none)) else (laws_FnWholePolynomials.j3 k x0 x3 x4 x5 false))
def laws_FnWholePolynomials.j3 : Nat → List Int → List Int → List Int → List Int → Bool → Option (Bool)
 | 0, _, _, _, _, _ => none
 | k + 1, x0, x3, x4, x5, x152 => if x152 = true then ((impl_DivideWhole.f k x5 x4).bind fun bt813 => (if bt813.2 = 0 then ((laws_likeInts.f k bt813.1 x3).bind fun t817 => (if t817 = true then (if bt813.2 = 4 then (some false) else (laws_FnWholePolynomials.j4 k x0)) else (some false))) else (if bt813.2 = 4 then (some false) else (laws_FnWholePolynomials.j4 k x0)))) else (laws_FnWholePolynomials.j4 k x0)
end
def laws_FnWholePolynomials.f (k : Nat) (l0 : List Int) : Option (Bool) := (laws_big.f l0).bind fun t787 => (if t787 = true then (some true) else ((spec_DrawMultiplyWhole.f k l0).bind fun bt788 => ((impl_MultiplyWhole.f k bt788.1 bt788.2).bind fun bt794 => ((spec_MultiplyWhole.f k bt788.1 bt788.2).bind fun bt798 => (if bt794.2 = bt798.2 then ((laws_likeInts.f k bt794.1 bt798.1).bind fun t802 => (if t802 = true then ((impl_IsWhole.f k bt788.1).bind fun t803 => ((spec_IsWhole.f k bt788.1).bind fun t804 => (laws_FnWholePolynomials.j0 k l0 bt788.1 bt788.2 bt794.1 bt794.2 (t803 != t804)))) else (laws_FnWholePolynomials.j0 k l0 bt788.1 bt788.2 bt794.1 bt794.2 true))) else (laws_FnWholePolynomials.j0 k l0 bt788.1 bt788.2 bt794.1 bt794.2 true))))))
theorem laws_FnWholePolynomials.j0_no {k : Nat} {a0 : List Int} {a1 : List Int} {a2 : List Int} {a3 : List Int} {a4 : Int} : ¬ laws_FnWholePolynomials.j0 k a0 a1 a2 a3 a4 true = some true := by cases k <;> simp [laws_FnWholePolynomials.j0]
theorem laws_FnWholePolynomials.j5_no {k : Nat} {a0 : List Int} {a1 : List Int} {a2 : List Int} {a3 : List Int} {a4 : Int} : ¬ laws_FnWholePolynomials.j5 k a0 a1 a2 a3 a4 true = some true := by cases k <;> simp [laws_FnWholePolynomials.j5]
theorem laws_FnWholePolynomials.j7_no {k : Nat} {a0 : List Int} {a1 : List (List Int)} {a2 : List Int} {a3 : Int} : ¬ laws_FnWholePolynomials.j7 k a0 a1 a2 a3 true = some true := by cases k <;> simp [laws_FnWholePolynomials.j7]
theorem laws_FnWholePolynomials.j2_no {k : Nat} {a0 : List Int} {a1 : List Int} {a2 : List Int} {a3 : List Int} : ¬ laws_FnWholePolynomials.j2 k a0 a1 a2 a3 true = some true := by cases k <;> simp [laws_FnWholePolynomials.j2]
set_option maxHeartbeats 8000000 in
set_option maxRecDepth 100000 in
theorem laws_FnWholePolynomials.calls (k : Nat) (A0 : Option Addr) (c0 : Nat) (l0 : List Int) (w : World) (hr0 : Kd.C (Kd.int .u8) w A0 l0.length l0) (hc0 : l0.length ≤ c0) (h : laws_FnWholePolynomials.f k l0 = some true) :
  Calls Try.prog 6 #[.slice A0 l0.length c0] w fun e w' => e = .returned (.bool true) ∧ Below w.heap.size w w' := by
 have HR0 := Aside0.mk hr0
 have HC0 := Aside0.mk hc0
 clear hr0 hc0
 have HB := Aside0.mk (Below.refl w.heap.size w)
 have H : ((laws_big.f l0).bind fun t787 => (if t787 = true then (some true) else ((spec_DrawMultiplyWhole.f k l0).bind fun bt788 => ((impl_MultiplyWhole.f k bt788.1 bt788.2).bind fun bt794 => ((spec_MultiplyWhole.f k bt788.1 bt788.2).bind fun bt798 => (if bt794.2 = bt798.2 then ((laws_likeInts.f k bt794.1 bt798.1).bind fun t802 => (if t802 = true then ((impl_IsWhole.f k bt788.1).bind fun t803 => ((spec_IsWhole.f k bt788.1).bind fun t804 => (laws_FnWholePolynomials.j0 k l0 bt788.1 bt788.2 bt794.1 bt794.2 (t803 != t804)))) else (laws_FnWholePolynomials.j0 k l0 bt788.1 bt788.2 bt794.1 bt794.2 true))) else (laws_FnWholePolynomials.j0 k l0 bt788.1 bt788.2 bt794.1 bt794.2 true))))))) = some true := h
 clear h
 obtain ⟨t787, A2, H⟩ := bnd_ H
 by_cases c3 : t787 = true
 ·subst c3
  have H1 : (some true) = some true := rfl
  clear H
  have H := H1
  clear H1
  have H := Option.some.inj H
  go_enter Try.func6, Try.ntmps6
  go_wp2_with (first | ((with_reducible refine gate_callee (f := 9) rfl ?_); refine goesL_ (some 53) rfl rfl Try.func9 (by kernel_rfl) rfl #[.slice A0 l0.length c0] rfl arg_ ?_; (with_reducible refine (laws_big.calls _ _ l0 true _ ?side1 ?side2 A2.out).mono ?_); (case side1 => exact Kd.C_below HR0.out bgo_); (case side2 => exact HC0.out); rintro e w' ⟨rfl, ⟨nd, rfl⟩⟩; refine ⟨_, rfl, ?_⟩))
  go_ret
  exact ⟨er_, hb_⟩
 ·replace c3 := Bool.eq_false_iff.mpr c3
  subst c3
  have H1 : ((spec_DrawMultiplyWhole.f k l0).bind fun bt788 => ((impl_MultiplyWhole.f k bt788.1 bt788.2).bind fun bt794 => ((spec_MultiplyWhole.f k bt788.1 bt788.2).bind fun bt798 => (if bt794.2 = bt798.2 then ((laws_likeInts.f k bt794.1 bt798.1).bind fun t802 => (if t802 = true then ((impl_IsWhole.f k bt788.1).bind fun t803 => ((spec_IsWhole.f k bt788.1).bind fun t804 => (laws_FnWholePolynomials.j0 k l0 bt788.1 bt788.2 bt794.1 bt794.2 (t803 != t804)))) else (laws_FnWholePolynomials.j0 k l0 bt788.1 bt788.2 bt794.1 bt794.2 true))) else (laws_FnWholePolynomials.j0 k l0 bt788.1 bt788.2 bt794.1 bt794.2 true))))) = some true := by rw [if_neg (show ¬ (false = true) by decide)] at H; exact H
  clear H
  have H := H1
  clear H1
  obtain ⟨⟨t788, t789⟩, A4, H⟩ := bnd_ H
  dsimp only at H
  obtain ⟨⟨t794, t797⟩, A5, H⟩ := bnd_ H
  dsimp only at H
  obtain ⟨⟨t798, t799⟩, A6, H⟩ := bnd_ H
  dsimp only at H
  have HC7 := Aside0.mk H
  clear H
  go_enter Try.func6, Try.ntmps6
  go_upto_region 6 with (first | ((with_reducible refine gate_callee (f := 9) rfl ?_); refine goesL_ (some 53) rfl rfl Try.func9 (by kernel_rfl) rfl #[.slice A0 l0.length c0] rfl arg_ ?_; (with_reducible refine (laws_big.calls _ _ l0 false _ ?side1 ?side2 A2.out).mono ?_); (case side1 => exact Kd.C_below HR0.out bgo_); (case side2 => exact HC0.out); rintro e w' ⟨rfl, ⟨nd, rfl⟩⟩; refine ⟨_, rfl, ?_⟩) | ((with_reducible refine gate_callee (f := 57) rfl ?_); refine goesL_ (some 56) rfl rfl Try.func57 (by kernel_rfl) rfl #[.slice A0 l0.length c0] rfl arg_ ?_; (with_reducible refine (spec_DrawMultiplyWhole.calls k _ _ l0 t788 t789 _ ?side1 ?side2 A4.out).mono ?_); (case side1 => exact Kd.C_below HR0.out bgo_); (case side2 => exact HC0.out); rintro e w8 ⟨v790, v792, rfl, ho0, ho1, hb⟩; refine ⟨_, rfl, ?_⟩; have HO791 := Aside0.mk (Kd.R_lower ho0 (below_size hb_)); have HO793 := Aside0.mk (Kd.R_lower ho1 (below_size hb_)); replace HB := Aside0.mk (below_step hb_ hb); (try clear hb); (try clear hb2); (try clear hk); (try clear hi); (try clear ho0); (try clear ho1); obtain ⟨Ao9, co9, eo9⟩ := Kd.R_slice HO791.out; subst eo9; obtain ⟨Ao10, co10, eo10⟩ := Kd.R_slice HO793.out; subst eo10) | ((with_reducible refine gate_callee (f := 58) rfl ?_); refine goesL_ (some 62) rfl rfl Try.func58 (by kernel_rfl) rfl #[.slice Ao9 t788.length co9, .slice Ao10 t789.length co10] rfl arg_ ?_; (with_reducible refine (impl_MultiplyWhole.calls k (fun k_ => some k_ = (.slice Ao9 t788.length co9 : Value).ownBlock) _ _ t788 (fun k_ => some k_ = (.slice Ao10 t789.length co10 : Value).ownBlock) _ _ t789 t794 t797 _ ?side1 ?side2 A5.out).mono ?_); (case side1 => exact Kd.R_V (Kd.R_tight rfl (HO791.out))); (case side2 => exact Kd.R_V (Kd.R_tight rfl (HO793.out))); rintro e w11 ⟨v795, rfl, ho0, hb⟩; refine ⟨_, rfl, ?_⟩; have HO796 := Aside0.mk (Kd.R_lower (Kd.R_new' (Kd.R_new' (Kd.R_mono (ok' := fun k_ => True) ho0 (fun _ hk_ => trivial)) (Kd.R_lt (Kd.R_below HO791.out bgo_))) (Kd.R_lt (Kd.R_below HO793.out bgo_))) (below_size hb_)); replace HO791 := Aside0.mk (Kd.R_elder' (Kd.R_below HO791.out bgo_) (Kd.R_base ho0) hb); replace HO793 := Aside0.mk (Kd.R_elder' (Kd.R_below HO793.out bgo_) (Kd.R_base ho0) hb); replace HB := Aside0.mk (below_step hb_ hb); (try clear hb); (try clear hb2); (try clear hk); (try clear hi); (try clear ho0)) | ((with_reducible refine gate_callee (f := 59) rfl ?_); refine goesL_ (some 68) rfl rfl Try.func59 (by kernel_rfl) rfl #[.slice Ao9 t788.length co9, .slice Ao10 t789.length co10] rfl arg_ ?_; (with_reducible refine (spec_MultiplyWhole.calls k _ _ t788 _ _ t789 t798 t799 _ ?side1 ?side2 ?side3 ?side4 A6.out).mono ?_); (case side1 => exact Kd.C_below (Kd.R_reads' HO791.out).2.2 bgo_); (case side2 => exact (Kd.R_reads' HO791.out).2.1); (case side3 => exact Kd.C_below (Kd.R_reads' HO793.out).2.2 bgo_); (case side4 => exact (Kd.R_reads' HO793.out).2.1); rintro e w12 ⟨v800, rfl, ho0, hb⟩; refine ⟨_, rfl, ?_⟩; have HO801 := Aside0.mk (Kd.R_lower (Kd.R_new' (Kd.R_new' (Kd.R_new' ho0 (Kd.R_lt (Kd.R_below HO791.out bgo_))) (Kd.R_lt (Kd.R_below HO793.out bgo_))) (Kd.R_lt (Kd.R_below HO796.out bgo_))) (below_size hb_)); replace HO791 := Aside0.mk (Kd.R_elder' (Kd.R_below HO791.out bgo_) (Kd.R_base ho0) hb); replace HO793 := Aside0.mk (Kd.R_elder' (Kd.R_below HO793.out bgo_) (Kd.R_base ho0) hb); replace HO796 := Aside0.mk (Kd.R_elder' (Kd.R_below HO796.out bgo_) (Kd.R_base ho0) hb); replace HB := Aside0.mk (below_step hb_ hb); (try clear hb); (try clear hb2); (try clear hk); (try clear hi); (try clear ho0)))
  (try simp only [Act.put, List.setIfInBounds_toArray, List.set_cons_zero, List.set_cons_succ])
  go_cut [86] (fun v86 wc => ∃ (kq : Nat) (x86_6 : Bool), v86 = .bool x86_6 ∧ Aside0 (laws_FnWholePolynomials.j0 kq l0 t788 t789 t794 t797 x86_6 = some true) ∧ Aside0 (kq ≤ k) ∧ Aside0 (Kd.R (Kd.int .i64) 2 wc w.heap.size (fun k_ => some k_ ≠ ((.slice Ao10 t789.length co10) : Value).ownBlock ∧ some k_ ≠ (v795 : Value).ownBlock) (.slice Ao9 t788.length co9) t788) ∧ Aside0 (Kd.R (Kd.int .i64) 2 wc w.heap.size (fun k_ => some k_ ≠ ((.slice Ao9 t788.length co9) : Value).ownBlock ∧ some k_ ≠ (v795 : Value).ownBlock) (.slice Ao10 t789.length co10) t789) ∧ Aside0 (Kd.R (Kd.int .i64) 2 wc w.heap.size (fun k_ => some k_ ≠ ((.slice Ao9 t788.length co9) : Value).ownBlock ∧ some k_ ≠ ((.slice Ao10 t789.length co10) : Value).ownBlock) v795 t794) ∧ Aside0 (Below w.heap.size w wc))
  case first => as_aux_lemma =>
   have H := HC7.out
   clear HC7
   by_cases c13 : t797 = t799
   ·rw [if_pos c13] at H
    have c13b0 : (t797 == t799) = true := beq_iff_eq.mpr c13
    have c13b1 : (t797 != t799) = false := bne_eq_false_iff_eq.mpr c13
    clear c13
    (first | rw [c13b0] | (simp only [i64_w, i32_w]; rw [c13b0]) | skip)
    obtain ⟨t802, A14, H⟩ := bnd_ H
    by_cases c15 : t802 = true
    ·subst c15
     have H1 : ((impl_IsWhole.f k t788).bind fun t803 => ((spec_IsWhole.f k t788).bind fun t804 => (laws_FnWholePolynomials.j0 k l0 t788 t789 t794 t797 (t803 != t804)))) = some true := by rw [if_pos rfl] at H; exact H
     clear H
     have H := H1
     clear H1
     obtain ⟨t803, A16, H⟩ := bnd_ H
     obtain ⟨t804, A17, H⟩ := bnd_ H
     have H' := Aside0.mk H
     clear H
     obtain ⟨Ao18, co18, eo18⟩ := Kd.R_slice HO796.out
     subst eo18
     obtain ⟨Ao19, co19, eo19⟩ := Kd.R_slice HO801.out
     subst eo19
     go_wp2_with (first | (go_at_call 13; (with_reducible refine (laws_likeInts.calls k _ _ t794 _ _ t798 true _ ?side1 ?side2 ?side3 ?side4 A14.out).mono ?_); (case side1 => exact Kd.C_below (Kd.R_reads' HO796.out).2.2 bgo_); (case side2 => exact (Kd.R_reads' HO796.out).2.1); (case side3 => exact Kd.C_below (Kd.R_reads' HO801.out).2.2 bgo_); (case side4 => exact (Kd.R_reads' HO801.out).2.1); rintro e w' ⟨rfl, ⟨nd, rfl⟩⟩) | (go_at_call 60; (with_reducible refine (impl_IsWhole.calls k _ _ t788 t803 _ ?side1 ?side2 A16.out).mono ?_); (case side1 => exact Kd.C_below (Kd.R_reads' HO791.out).2.2 bgo_); (case side2 => exact (Kd.R_reads' HO791.out).2.1); rintro e w' ⟨rfl, ⟨nd, rfl⟩⟩) | (go_at_call 61; (with_reducible refine (spec_IsWhole.calls k _ _ t788 t804 _ ?side1 ?side2 A17.out).mono ?_); (case side1 => exact Kd.C_below (Kd.R_reads' HO791.out).2.2 bgo_); (case side2 => exact (Kd.R_reads' HO791.out).2.1); rintro e w' ⟨rfl, ⟨nd, rfl⟩⟩))
     go_meet
     case rel => exact ⟨_, ((t803 != t804)), es_, H', ⟨by first | omega | exact Nat.le_refl _⟩, ⟨by (with_reducible repeat (first | apply Kd.R_alloc | apply Kd.R_drewN | apply Kd.R_drew)); exact Kd.R_mono HO791.out (fun _ hk => ⟨hk.1.1, hk.1.2⟩)⟩, ⟨by (with_reducible repeat (first | apply Kd.R_alloc | apply Kd.R_drewN | apply Kd.R_drew)); exact Kd.R_mono HO793.out (fun _ hk => ⟨hk.1.1, hk.1.2⟩)⟩, ⟨by (with_reducible repeat (first | apply Kd.R_alloc | apply Kd.R_drewN | apply Kd.R_drew)); exact Kd.R_mono HO796.out (fun _ hk => ⟨hk.1.1.2, hk.1.2⟩)⟩, ⟨hb_⟩⟩
    ·replace c15 := Bool.eq_false_iff.mpr c15
     subst c15
     have H1 : (laws_FnWholePolynomials.j0 k l0 t788 t789 t794 t797 true) = some true := by rw [if_neg (show ¬ (false = true) by decide)] at H; exact H
     exact absurd H1 laws_FnWholePolynomials.j0_no
   ·rw [if_neg c13] at H
    exact absurd H laws_FnWholePolynomials.j0_no
  case rest => as_aux_lemma =>
   clear HC7
   obtain ⟨kq, x86_6, rfl, HA, HJ6, HO_3, HO_4, HO_5, HB⟩ := hcut
   cases kq with
   | zero => exact absurd HA.out (by simp [laws_FnWholePolynomials.j0])
   | succ kj6 =>
    have H := HA.out
    clear HA
    simp only [laws_FnWholePolynomials.j0] at H
    by_cases c22 : x86_6 = true
    ·subst c22
     have H1 : (some false) = some true := by rw [if_pos rfl] at H; exact H
     exact absurd (Option.some.inj H1) Bool.false_ne_true
    ·replace c22 := Bool.eq_false_iff.mpr c22
     subst c22
     have H1 : (if t797 = 0 then ((impl_ValueOfWhole.f kj6 t788 (-1)).bind fun bt805 => ((impl_ValueOfWhole.f kj6 t789 (-1)).bind fun bt807 => ((impl_ValueOfWhole.f kj6 t794 (-1)).bind fun bt809 => (if bt805.1 < 1000000 then (if bt805.1 > (-1000000) then (if bt807.1 < 1000000 then (laws_FnWholePolynomials.j1 kj6 l0 t788 t789 t794 bt805.1 bt805.2 bt807.1 bt807.2 bt809.1 bt809.2 (decide (bt807.1 > (-1000000)))) else (laws_FnWholePolynomials.j1 kj6 l0 t788 t789 t794 bt805.1 bt805.2 bt807.1 bt807.2 bt809.1 bt809.2 false)) else (laws_FnWholePolynomials.j1 kj6 l0 t788 t789 t794 bt805.1 bt805.2 bt807.1 bt807.2 bt809.1 bt809.2 false)) else (laws_FnWholePolynomials.j1 kj6 l0 t788 t789 t794 bt805.1 bt805.2 bt807.1 bt807.2 bt809.1 bt809.2 false))))) else (laws_FnWholePolynomials.j4 kj6 l0)) = some true := by rw [if_neg (show ¬ (false = true) by decide)] at H; exact H
     clear H
     have H := H1
     clear H1
     have HC23 := Aside0.mk H
     clear H
     go_upto_if 88 with (fail)
     go_cut [] (fun wc => ∃ (kq : Nat), Aside0 (laws_FnWholePolynomials.j4 kq l0 = some true) ∧ Aside0 (kq ≤ kj6) ∧ Aside0 (Below w.heap.size w wc))
     case first => as_aux_lemma =>
      have H := HC23.out
      clear HC23
      by_cases c24 : t797 = 0
      ·rw [if_pos c24] at H
       have c24b0 : (t797 == 0) = true := beq_iff_eq.mpr c24
       have c24b1 : (t797 != 0) = false := bne_eq_false_iff_eq.mpr c24
       clear c24
       (first | rw [c24b0] | (simp only [i64_w, i32_w]; rw [c24b0]) | skip)
       obtain ⟨⟨t805, t806⟩, A25, H⟩ := bnd_ H
       dsimp only at H
       obtain ⟨⟨t807, t808⟩, A26, H⟩ := bnd_ H
       dsimp only at H
       obtain ⟨⟨t809, t810⟩, A27, H⟩ := bnd_ H
       dsimp only at H
       have HC28 := Aside0.mk H
       clear H
       go_upto_region 12 with (first | ((with_reducible refine gate_callee (f := 62) rfl ?_); refine goesL_ (some 91) rfl rfl Try.func62 (by kernel_rfl) rfl #[.slice Ao9 t788.length co9, .int .i64 (-1)] rfl arg_ ?_; (with_reducible refine (impl_ValueOfWhole.calls kj6 (fun k_ => some k_ = (.slice Ao9 t788.length co9 : Value).ownBlock) _ _ t788 (-1) t805 t806 _ ?side1 A25.out).mono ?_); (case side1 => exact Kd.R_V (Kd.R_tight rfl (HO_3.out))); rintro e w29 ⟨rfl, hb⟩; refine ⟨_, rfl, ?_⟩; replace HO_3 := Aside0.mk (Kd.R_below (Kd.R_below HO_3.out bgo_) hb); replace HO_4 := Aside0.mk (Kd.R_below (Kd.R_below HO_4.out bgo_) hb); replace HO_5 := Aside0.mk (Kd.R_below (Kd.R_below HO_5.out bgo_) hb); replace HB := Aside0.mk (below_step hb_ hb); (try clear hb); (try clear hb2); (try clear hk); (try clear hi)) | ((with_reducible refine gate_callee (f := 62) rfl ?_); refine goesL_ (some 96) rfl rfl Try.func62 (by kernel_rfl) rfl #[.slice Ao10 t789.length co10, .int .i64 (-1)] rfl arg_ ?_; (with_reducible refine (impl_ValueOfWhole.calls kj6 (fun k_ => some k_ = (.slice Ao10 t789.length co10 : Value).ownBlock) _ _ t789 (-1) t807 t808 _ ?side1 A26.out).mono ?_); (case side1 => exact Kd.R_V (Kd.R_tight rfl (HO_4.out))); rintro e w30 ⟨rfl, hb⟩; refine ⟨_, rfl, ?_⟩; replace HO_3 := Aside0.mk (Kd.R_below (Kd.R_below HO_3.out bgo_) hb); replace HO_4 := Aside0.mk (Kd.R_below (Kd.R_below HO_4.out bgo_) hb); replace HO_5 := Aside0.mk (Kd.R_below (Kd.R_below HO_5.out bgo_) hb); replace HB := Aside0.mk (below_step hb_ hb); (try clear hb); (try clear hb2); (try clear hk); (try clear hi); obtain ⟨Ao31, co31, eo31⟩ := Kd.R_slice HO_5.out; subst eo31) | ((with_reducible refine gate_callee (f := 62) rfl ?_); refine goesL_ (some 101) rfl rfl Try.func62 (by kernel_rfl) rfl #[.slice Ao31 t794.length co31, .int .i64 (-1)] rfl arg_ ?_; (with_reducible refine (impl_ValueOfWhole.calls kj6 (fun k_ => some k_ = (.slice Ao31 t794.length co31 : Value).ownBlock) _ _ t794 (-1) t809 t810 _ ?side1 A27.out).mono ?_); (case side1 => exact Kd.R_V (Kd.R_tight rfl (HO_5.out))); rintro e w32 ⟨rfl, hb⟩; refine ⟨_, rfl, ?_⟩; replace HO_3 := Aside0.mk (Kd.R_below (Kd.R_below HO_3.out bgo_) hb); replace HO_4 := Aside0.mk (Kd.R_below (Kd.R_below HO_4.out bgo_) hb); replace HO_5 := Aside0.mk (Kd.R_below (Kd.R_below HO_5.out bgo_) hb); replace HB := Aside0.mk (below_step hb_ hb); (try clear hb); (try clear hb2); (try clear hk); (try clear hi)))
       (try simp only [Act.put, List.setIfInBounds_toArray, List.set_cons_zero, List.set_cons_succ])
       go_cut [15] (fun v15 wc => ∃ (kq : Nat) (x15_27 : Bool), v15 = .bool x15_27 ∧ Aside0 (laws_FnWholePolynomials.j1 kq l0 t788 t789 t794 t805 t806 t807 t808 t809 t810 x15_27 = some true) ∧ Aside0 (kq ≤ kj6) ∧ Aside0 (Kd.R (Kd.int .i64) 2 wc w.heap.size (fun k_ => some k_ ≠ ((.slice Ao10 t789.length co10) : Value).ownBlock ∧ some k_ ≠ ((.slice Ao31 t794.length co31) : Value).ownBlock) (.slice Ao9 t788.length co9) t788) ∧ Aside0 (Kd.R (Kd.int .i64) 2 wc w.heap.size (fun k_ => some k_ ≠ ((.slice Ao9 t788.length co9) : Value).ownBlock ∧ some k_ ≠ ((.slice Ao31 t794.length co31) : Value).ownBlock) (.slice Ao10 t789.length co10) t789) ∧ Aside0 (Kd.R (Kd.int .i64) 2 wc w.heap.size (fun k_ => some k_ ≠ ((.slice Ao9 t788.length co9) : Value).ownBlock ∧ some k_ ≠ ((.slice Ao10 t789.length co10) : Value).ownBlock) (.slice Ao31 t794.length co31) t794) ∧ Aside0 (Below w.heap.size w wc))
       case first => as_aux_lemma =>
        have H := HC28.out
        clear HC28
        by_cases c33 : t805 < 1000000
        ·rw [if_pos c33] at H
         have c33b0 := decide_eq_true c33
         clear c33
         (first | rw [c33b0] | (simp only [i64_w, i32_w]; rw [c33b0]) | skip)
         by_cases c34 : t805 > (-1000000)
         ·rw [if_pos c34] at H
          have c34b0 := decide_eq_true c34
          clear c34
          by_cases c35 : t807 < 1000000
          ·rw [if_pos c35] at H
           have c35b0 := decide_eq_true c35
           clear c35
           have H' := Aside0.mk H
           clear H
           go_wp2
           go_meet
           case rel => exact ⟨_, (decide (t807 > (-1000000))), es_, H', ⟨by have := HJ6.out; first | omega | exact Nat.le_refl _⟩, ⟨Kd.R_below HO_3.out bgo_⟩, ⟨Kd.R_below HO_4.out bgo_⟩, ⟨Kd.R_below HO_5.out bgo_⟩, ⟨hb_⟩⟩
          ·rw [if_neg c35] at H
           have c35b0 := decide_eq_false c35
           clear c35
           have H' := Aside0.mk H
           clear H
           go_wp2
           go_meet
           case rel => exact ⟨_, (false), es_, H', ⟨by have := HJ6.out; first | omega | exact Nat.le_refl _⟩, ⟨Kd.R_below HO_3.out bgo_⟩, ⟨Kd.R_below HO_4.out bgo_⟩, ⟨Kd.R_below HO_5.out bgo_⟩, ⟨hb_⟩⟩
         ·rw [if_neg c34] at H
          have c34b0 := decide_eq_false c34
          clear c34
          have H' := Aside0.mk H
          clear H
          go_wp2
          go_meet
          case rel => exact ⟨_, (false), es_, H', ⟨by have := HJ6.out; first | omega | exact Nat.le_refl _⟩, ⟨Kd.R_below HO_3.out bgo_⟩, ⟨Kd.R_below HO_4.out bgo_⟩, ⟨Kd.R_below HO_5.out bgo_⟩, ⟨hb_⟩⟩
        ·rw [if_neg c33] at H
         have c33b0 := decide_eq_false c33
         clear c33
         (first | rw [c33b0] | (simp only [i64_w, i32_w]; rw [c33b0]) | skip)
         have H' := Aside0.mk H
         clear H
         go_wp2
         go_meet
         case rel => exact ⟨_, (false), es_, H', ⟨by have := HJ6.out; first | omega | exact Nat.le_refl _⟩, ⟨Kd.R_below HO_3.out bgo_⟩, ⟨Kd.R_below HO_4.out bgo_⟩, ⟨Kd.R_below HO_5.out bgo_⟩, ⟨hb_⟩⟩
       case rest => as_aux_lemma =>
        clear HC28
        obtain ⟨kq, x15_27, rfl, HA, HJ27, HO_3, HO_4, HO_5, HB⟩ := hcut
        cases kq with
        | zero => exact absurd HA.out (by simp [laws_FnWholePolynomials.j1])
        | succ kj27 =>
         have H := HA.out
         clear HA
         simp only [laws_FnWholePolynomials.j1] at H
         have HC36 := Aside0.mk H
         clear H
         go_upto_region 13 with (fail)
         go_cut [137] (fun v137 wc => ∃ (kq : Nat) (x137_35 : Bool), v137 = .bool x137_35 ∧ Aside0 (laws_FnWholePolynomials.j2 kq l0 t788 t789 t794 x137_35 = some true) ∧ Aside0 (kq ≤ kj27) ∧ Aside0 (Kd.R (Kd.int .i64) 2 wc w.heap.size (fun k_ => some k_ ≠ ((.slice Ao10 t789.length co10) : Value).ownBlock ∧ some k_ ≠ ((.slice Ao31 t794.length co31) : Value).ownBlock) (.slice Ao9 t788.length co9) t788) ∧ Aside0 (Kd.R (Kd.int .i64) 2 wc w.heap.size (fun k_ => some k_ ≠ ((.slice Ao9 t788.length co9) : Value).ownBlock ∧ some k_ ≠ ((.slice Ao31 t794.length co31) : Value).ownBlock) (.slice Ao10 t789.length co10) t789) ∧ Aside0 (Kd.R (Kd.int .i64) 2 wc w.heap.size (fun k_ => some k_ ≠ ((.slice Ao9 t788.length co9) : Value).ownBlock ∧ some k_ ≠ ((.slice Ao10 t789.length co10) : Value).ownBlock) (.slice Ao31 t794.length co31) t794) ∧ Aside0 (Below w.heap.size w wc))
         case first => as_aux_lemma =>
          have H := HC36.out
          clear HC36
          by_cases c37 : t806 = 0
          ·rw [if_pos c37] at H
           have c37b0 : (t806 == 0) = true := beq_iff_eq.mpr c37
           have c37b1 : (t806 != 0) = false := bne_eq_false_iff_eq.mpr c37
           clear c37
           (first | rw [c37b0] | (simp only [i64_w, i32_w]; rw [c37b0]) | skip)
           by_cases c38 : t808 = 0
           ·rw [if_pos c38] at H
            have c38b0 : (t808 == 0) = true := beq_iff_eq.mpr c38
            have c38b1 : (t808 != 0) = false := bne_eq_false_iff_eq.mpr c38
            clear c38
            by_cases c39 : t810 = 0
            ·rw [if_pos c39] at H
             have c39b0 : (t810 == 0) = true := beq_iff_eq.mpr c39
             have c39b1 : (t810 != 0) = false := bne_eq_false_iff_eq.mpr c39
             clear c39
             by_cases c40 : x15_27 = true
             ·subst c40
              have H1 : (laws_FnWholePolynomials.j2 kj27 l0 t788 t789 t794 ((wrap64 (t805 * t807)) != t809)) = some true := by rw [if_pos rfl] at H; exact H
              clear H
              have H := H1
              clear H1
              have H' := Aside0.mk H
              clear H
              go_wp2
              go_meet
              case rel => exact ⟨_, (((wrap64 (t805 * t807)) != t809)), es_, H', ⟨by have := HJ6.out; have := HJ27.out; first | omega | exact Nat.le_refl _⟩, ⟨Kd.R_below HO_3.out bgo_⟩, ⟨Kd.R_below HO_4.out bgo_⟩, ⟨Kd.R_below HO_5.out bgo_⟩, ⟨hb_⟩⟩
             ·replace c40 := Bool.eq_false_iff.mpr c40
              subst c40
              have H1 : (laws_FnWholePolynomials.j2 kj27 l0 t788 t789 t794 false) = some true := by rw [if_neg (show ¬ (false = true) by decide)] at H; exact H
              clear H
              have H := H1
              clear H1
              have H' := Aside0.mk H
              clear H
              go_wp2
              go_meet
              case rel => exact ⟨_, (false), es_, H', ⟨by have := HJ6.out; have := HJ27.out; first | omega | exact Nat.le_refl _⟩, ⟨Kd.R_below HO_3.out bgo_⟩, ⟨Kd.R_below HO_4.out bgo_⟩, ⟨Kd.R_below HO_5.out bgo_⟩, ⟨hb_⟩⟩
            ·rw [if_neg c39] at H
             have c39b0 : (t810 == 0) = false := beq_eq_false_iff_ne.mpr c39
             have c39b1 : (t810 != 0) = true := bne_iff_ne.mpr c39
             have H' := Aside0.mk H
             clear H
             go_wp2
             go_meet
             case rel => exact ⟨_, (false), es_, H', ⟨by have := HJ6.out; have := HJ27.out; first | omega | exact Nat.le_refl _⟩, ⟨Kd.R_below HO_3.out bgo_⟩, ⟨Kd.R_below HO_4.out bgo_⟩, ⟨Kd.R_below HO_5.out bgo_⟩, ⟨hb_⟩⟩
           ·rw [if_neg c38] at H
            have c38b0 : (t808 == 0) = false := beq_eq_false_iff_ne.mpr c38
            have c38b1 : (t808 != 0) = true := bne_iff_ne.mpr c38
            have H' := Aside0.mk H
            clear H
            go_wp2
            go_meet
            case rel => exact ⟨_, (false), es_, H', ⟨by have := HJ6.out; have := HJ27.out; first | omega | exact Nat.le_refl _⟩, ⟨Kd.R_below HO_3.out bgo_⟩, ⟨Kd.R_below HO_4.out bgo_⟩, ⟨Kd.R_below HO_5.out bgo_⟩, ⟨hb_⟩⟩
          ·rw [if_neg c37] at H
           have c37b0 : (t806 == 0) = false := beq_eq_false_iff_ne.mpr c37
           have c37b1 : (t806 != 0) = true := bne_iff_ne.mpr c37
           (first | rw [c37b0] | (simp only [i64_w, i32_w]; rw [c37b0]) | skip)
           have H' := Aside0.mk H
           clear H
           go_wp2
           go_meet
           case rel => exact ⟨_, (false), es_, H', ⟨by have := HJ6.out; have := HJ27.out; first | omega | exact Nat.le_refl _⟩, ⟨Kd.R_below HO_3.out bgo_⟩, ⟨Kd.R_below HO_4.out bgo_⟩, ⟨Kd.R_below HO_5.out bgo_⟩, ⟨hb_⟩⟩
         case rest => as_aux_lemma =>
          clear HC36
          obtain ⟨kq, x137_35, rfl, HA, HJ35, HO_3, HO_4, HO_5, HB⟩ := hcut
          cases kq with
          | zero => exact absurd HA.out (by simp [laws_FnWholePolynomials.j2])
          | succ kj35 =>
           have H := HA.out
           clear HA
           simp only [laws_FnWholePolynomials.j2] at H
           by_cases c41 : x137_35 = true
           ·subst c41
            have H1 : (some false) = some true := by rw [if_pos rfl] at H; exact H
            exact absurd (Option.some.inj H1) Bool.false_ne_true
           ·replace c41 := Bool.eq_false_iff.mpr c41
            subst c41
            have H1 : (if (t789.length : Int) > 0 then (if 0 < (t789.length : Int) then (if (rd t789 0) = 1 then (laws_FnWholePolynomials.j3 kj35 l0 t788 t789 t794 true) else (laws_FnWholePolynomials.j3 kj35 l0 t788 t789 t794 ((rd t789 0) == (-1)))) else (none)) else (laws_FnWholePolynomials.j3 kj35 l0 t788 t789 t794 false)) = some true := by rw [if_neg (show ¬ (false = true) by decide)] at H; exact H
            clear H
            have H := H1
            clear H1
            have HC42 := Aside0.mk H
            clear H
            go_upto_region 15 with (fail)
            go_cut [152] (fun v152 wc => ∃ (kq : Nat) (x152_41 : Bool), v152 = .bool x152_41 ∧ Aside0 (laws_FnWholePolynomials.j3 kq l0 t788 t789 t794 x152_41 = some true) ∧ Aside0 (kq ≤ kj35) ∧ Aside0 (Kd.R (Kd.int .i64) 2 wc w.heap.size (fun k_ => some k_ ≠ ((.slice Ao10 t789.length co10) : Value).ownBlock ∧ some k_ ≠ ((.slice Ao31 t794.length co31) : Value).ownBlock) (.slice Ao9 t788.length co9) t788) ∧ Aside0 (Kd.R (Kd.int .i64) 2 wc w.heap.size (fun k_ => some k_ ≠ ((.slice Ao9 t788.length co9) : Value).ownBlock ∧ some k_ ≠ ((.slice Ao31 t794.length co31) : Value).ownBlock) (.slice Ao10 t789.length co10) t789) ∧ Aside0 (Kd.R (Kd.int .i64) 2 wc w.heap.size (fun k_ => some k_ ≠ ((.slice Ao9 t788.length co9) : Value).ownBlock ∧ some k_ ≠ ((.slice Ao10 t789.length co10) : Value).ownBlock) (.slice Ao31 t794.length co31) t794) ∧ Aside0 (Below w.heap.size w wc))
            case first => as_aux_lemma =>
             have H := HC42.out
             clear HC42
             by_cases c43 : (t789.length : Int) > 0
             ·rw [if_pos c43] at H
              have c43b0 := decide_eq_true c43
              have c43b1 : decide (0 < t789.length) = true := decide_eq_true (by omega)
              clear c43
              (first | rw [c43b0] | (simp only [i64_w, i32_w]; rw [c43b0]) | skip)
              obtain ⟨c44, H⟩ := itn_ H
              have c44b0 := decide_eq_true c44
              have c44b1 : decide (0 < t789.length) = true := decide_eq_true (by omega)
              clear c44
              by_cases c45 : (rd t789 0) = 1
              ·rw [if_pos c45] at H
               have c45b0 : ((rd t789 0) == 1) = true := beq_iff_eq.mpr c45
               have c45b1 : ((rd t789 0) != 1) = false := bne_eq_false_iff_eq.mpr c45
               clear c45
               have H' := Aside0.mk H
               clear H
               have p811 : 0 ≤ (0 : Int) := (by omega)
               have q811 : 0 < (t789.length : Int) := od_
               obtain ⟨ad811, e811, hx811_0⟩ := Kd.at_int (Kd.R_reads' HO_4.out).2.2 0 p811 q811
               cases e811
               have qi811 : (0 < t789.length) = True := eq_true (by omega)
               (try rw [show ((0 : Int)).toNat = 0 from rfl] at hx811_0)
               (try rw [Addr.add_zero'] at hx811_0)
               replace p811 := eq_true p811
               replace q811 := eq_true q811
               go_wp2
               go_meet
               case rel => exact ⟨_, (true), es_, H', ⟨by have := HJ6.out; have := HJ27.out; have := HJ35.out; first | omega | exact Nat.le_refl _⟩, ⟨Kd.R_below HO_3.out bgo_⟩, ⟨Kd.R_below HO_4.out bgo_⟩, ⟨Kd.R_below HO_5.out bgo_⟩, ⟨hb_⟩⟩
              ·rw [if_neg c45] at H
               have c45b0 : ((rd t789 0) == 1) = false := beq_eq_false_iff_ne.mpr c45
               have c45b1 : ((rd t789 0) != 1) = true := bne_iff_ne.mpr c45
               have H' := Aside0.mk H
               clear H
               have p811 : 0 ≤ (0 : Int) := (by omega)
               have q811 : 0 < (t789.length : Int) := od_
               obtain ⟨ad811, e811, hx811_0⟩ := Kd.at_int (Kd.R_reads' HO_4.out).2.2 0 p811 q811
               cases e811
               have qi811 : (0 < t789.length) = True := eq_true (by omega)
               (try rw [show ((0 : Int)).toNat = 0 from rfl] at hx811_0)
               (try rw [Addr.add_zero'] at hx811_0)
               replace p811 := eq_true p811
               replace q811 := eq_true q811
               have p812 : 0 ≤ (0 : Int) := (by omega)
               have q812 : 0 < (t789.length : Int) := od_
               obtain ⟨ad812, e812, hx812_0⟩ := Kd.at_int (Kd.R_reads' HO_4.out).2.2 0 p812 q812
               obtain rfl : ad811 = ad812 := (by injection e812)
               have qi812 : (0 < t789.length) = True := eq_true (by omega)
               (try rw [show ((0 : Int)).toNat = 0 from rfl] at hx812_0)
               (try rw [Addr.add_zero'] at hx812_0)
               replace p812 := eq_true p812
               replace q812 := eq_true q812
               go_wp2
               go_meet
               case rel => exact ⟨_, (((rd t789 0) == (-1))), es_, H', ⟨by have := HJ6.out; have := HJ27.out; have := HJ35.out; first | omega | exact Nat.le_refl _⟩, ⟨Kd.R_below HO_3.out bgo_⟩, ⟨Kd.R_below HO_4.out bgo_⟩, ⟨Kd.R_below HO_5.out bgo_⟩, ⟨hb_⟩⟩
             ·rw [if_neg c43] at H
              have c43b0 := decide_eq_false c43
              have c43b1 : decide (0 < t789.length) = false := decide_eq_false (by omega)
              clear c43
              (first | rw [c43b0] | (simp only [i64_w, i32_w]; rw [c43b0]) | skip)
              have H' := Aside0.mk H
              clear H
              go_wp2
              go_meet
              case rel => exact ⟨_, (false), es_, H', ⟨by have := HJ6.out; have := HJ27.out; have := HJ35.out; first | omega | exact Nat.le_refl _⟩, ⟨Kd.R_below HO_3.out bgo_⟩, ⟨Kd.R_below HO_4.out bgo_⟩, ⟨Kd.R_below HO_5.out bgo_⟩, ⟨hb_⟩⟩
            case rest => as_aux_lemma =>
             clear HC42
             obtain ⟨kq, x152_41, rfl, HA, HJ41, HO_3, HO_4, HO_5, HB⟩ := hcut
             cases kq with
             | zero => exact absurd HA.out (by simp [laws_FnWholePolynomials.j3])
             | succ kj41 =>
              have H := HA.out
              clear HA
              simp only [laws_FnWholePolynomials.j3] at H
              by_cases c46 : x152_41 = true
              ·subst c46
               have H1 : ((impl_DivideWhole.f kj41 t794 t789).bind fun bt813 => (if bt813.2 = 0 then ((laws_likeInts.f kj41 bt813.1 t788).bind fun t817 => (if t817 = true then (if bt813.2 = 4 then (some false) else (laws_FnWholePolynomials.j4 kj41 l0)) else (some false))) else (if bt813.2 = 4 then (some false) else (laws_FnWholePolynomials.j4 kj41 l0)))) = some true := by rw [if_pos rfl] at H; exact H
               clear H
               have H := H1
               clear H1
               obtain ⟨⟨t813, t816⟩, A47, H⟩ := bnd_ H
               dsimp only at H
               by_cases c48 : t816 = 0
               ·rw [if_pos c48] at H
                have c48b0 : (t816 == 0) = true := beq_iff_eq.mpr c48
                have c48b1 : (t816 != 0) = false := bne_eq_false_iff_eq.mpr c48
                clear c48
                obtain ⟨t817, A49, H⟩ := bnd_ H
                by_cases c50 : t817 = true
                ·subst c50
                 have H1 : (if t816 = 4 then (some false) else (laws_FnWholePolynomials.j4 kj41 l0)) = some true := by rw [if_pos rfl] at H; exact H
                 clear H
                 have H := H1
                 clear H1
                 by_cases c51 : t816 = 4
                 ·rw [if_pos c51] at H
                  exact absurd (Option.some.inj H) Bool.false_ne_true
                 ·rw [if_neg c51] at H
                  have c51b0 : (t816 == 4) = false := beq_eq_false_iff_ne.mpr c51
                  have c51b1 : (t816 != 4) = true := bne_iff_ne.mpr c51
                  have H' := Aside0.mk H
                  clear H
                  go_wp2_with (first | ((with_reducible refine gate_callee (f := 63) rfl ?_); refine goesL_ (some 156) rfl rfl Try.func63 (by kernel_rfl) rfl #[.slice Ao31 t794.length co31, .slice Ao10 t789.length co10] rfl arg_ ?_; (with_reducible refine (impl_DivideWhole.calls kj41 (fun k_ => some k_ = (.slice Ao31 t794.length co31 : Value).ownBlock) _ _ t794 (fun k_ => some k_ = (.slice Ao10 t789.length co10 : Value).ownBlock) _ _ t789 t813 t816 _ ?side1 ?side2 A47.out).mono ?_); (case side1 => exact Kd.R_V (Kd.R_tight rfl (HO_5.out))); (case side2 => exact Kd.R_V (Kd.R_tight rfl (HO_4.out))); rintro e w54 ⟨v814, rfl, ho0, hb⟩; refine ⟨_, rfl, ?_⟩; have HO815 := Aside0.mk (Kd.R_lower (Kd.R_new' (Kd.R_new' (Kd.R_new' (Kd.R_mono (ok' := fun k_ => True) ho0 (fun _ hk_ => trivial)) (Kd.R_lt (Kd.R_below HO_3.out bgo_))) (Kd.R_lt (Kd.R_below HO_4.out bgo_))) (Kd.R_lt (Kd.R_below HO_5.out bgo_))) (below_size hb_)); replace HO_3 := Aside0.mk (Kd.R_elder' (Kd.R_below HO_3.out bgo_) (Kd.R_base ho0) hb); replace HO_4 := Aside0.mk (Kd.R_elder' (Kd.R_below HO_4.out bgo_) (Kd.R_base ho0) hb); replace HO_5 := Aside0.mk (Kd.R_elder' (Kd.R_below HO_5.out bgo_) (Kd.R_base ho0) hb); replace HB := Aside0.mk (below_step hb_ hb); (try clear hb); (try clear hb2); (try clear hk); (try clear hi); (try clear ho0); obtain ⟨Ao55, co55, eo55⟩ := Kd.R_slice HO815.out; subst eo55) | (go_at_call 13; (with_reducible refine (laws_likeInts.calls kj41 _ _ t813 _ _ t788 true _ ?side1 ?side2 ?side3 ?side4 A49.out).mono ?_); (case side1 => exact Kd.C_below (Kd.R_reads' HO815.out).2.2 bgo_); (case side2 => exact (Kd.R_reads' HO815.out).2.1); (case side3 => exact Kd.C_below (Kd.R_reads' HO_3.out).2.2 bgo_); (case side4 => exact (Kd.R_reads' HO_3.out).2.1); rintro e w' ⟨rfl, ⟨nd, rfl⟩⟩))
                  go_meet
                  case rel => exact ⟨_, H', ⟨by have := HJ6.out; have := HJ27.out; have := HJ35.out; have := HJ41.out; first | omega | exact Nat.le_refl _⟩, ⟨hb_⟩⟩
                ·replace c50 := Bool.eq_false_iff.mpr c50
                 subst c50
                 have H1 : (some false) = some true := by rw [if_neg (show ¬ (false = true) by decide)] at H; exact H
                 exact absurd (Option.some.inj H1) Bool.false_ne_true
               ·rw [if_neg c48] at H
                have c48b0 : (t816 == 0) = false := beq_eq_false_iff_ne.mpr c48
                have c48b1 : (t816 != 0) = true := bne_iff_ne.mpr c48
                by_cases c58 : t816 = 4
                ·rw [if_pos c58] at H
                 exact absurd (Option.some.inj H) Bool.false_ne_true
                ·rw [if_neg c58] at H
                 have c58b0 : (t816 == 4) = false := beq_eq_false_iff_ne.mpr c58
                 have c58b1 : (t816 != 4) = true := bne_iff_ne.mpr c58
                 have H' := Aside0.mk H
                 clear H
                 go_wp2_with (first | ((with_reducible refine gate_callee (f := 63) rfl ?_); refine goesL_ (some 156) rfl rfl Try.func63 (by kernel_rfl) rfl #[.slice Ao31 t794.length co31, .slice Ao10 t789.length co10] rfl arg_ ?_; (with_reducible refine (impl_DivideWhole.calls kj41 (fun k_ => some k_ = (.slice Ao31 t794.length co31 : Value).ownBlock) _ _ t794 (fun k_ => some k_ = (.slice Ao10 t789.length co10 : Value).ownBlock) _ _ t789 t813 t816 _ ?side1 ?side2 A47.out).mono ?_); (case side1 => exact Kd.R_V (Kd.R_tight rfl (HO_5.out))); (case side2 => exact Kd.R_V (Kd.R_tight rfl (HO_4.out))); rintro e w60 ⟨v814, rfl, ho0, hb⟩; refine ⟨_, rfl, ?_⟩; have HO815 := Aside0.mk (Kd.R_lower (Kd.R_new' (Kd.R_new' (Kd.R_new' (Kd.R_mono (ok' := fun k_ => True) ho0 (fun _ hk_ => trivial)) (Kd.R_lt (Kd.R_below HO_3.out bgo_))) (Kd.R_lt (Kd.R_below HO_4.out bgo_))) (Kd.R_lt (Kd.R_below HO_5.out bgo_))) (below_size hb_)); replace HO_3 := Aside0.mk (Kd.R_elder' (Kd.R_below HO_3.out bgo_) (Kd.R_base ho0) hb); replace HO_4 := Aside0.mk (Kd.R_elder' (Kd.R_below HO_4.out bgo_) (Kd.R_base ho0) hb); replace HO_5 := Aside0.mk (Kd.R_elder' (Kd.R_below HO_5.out bgo_) (Kd.R_base ho0) hb); replace HB := Aside0.mk (below_step hb_ hb); (try clear hb); (try clear hb2); (try clear hk); (try clear hi); (try clear ho0)))
                 go_meet
                 case rel => exact ⟨_, H', ⟨by have := HJ6.out; have := HJ27.out; have := HJ35.out; have := HJ41.out; first | omega | exact Nat.le_refl _⟩, ⟨hb_⟩⟩
              ·replace c46 := Bool.eq_false_iff.mpr c46
               subst c46
               have H1 : (laws_FnWholePolynomials.j4 kj41 l0) = some true := by rw [if_neg (show ¬ (false = true) by decide)] at H; exact H
               clear H
               have H := H1
               clear H1
               have H' := Aside0.mk H
               clear H
               go_wp2
               go_meet
               case rel => exact ⟨_, H', ⟨by have := HJ6.out; have := HJ27.out; have := HJ35.out; have := HJ41.out; first | omega | exact Nat.le_refl _⟩, ⟨hb_⟩⟩
      ·rw [if_neg c24] at H
       have c24b0 : (t797 == 0) = false := beq_eq_false_iff_ne.mpr c24
       have c24b1 : (t797 != 0) = true := bne_iff_ne.mpr c24
       (first | rw [c24b0] | (simp only [i64_w, i32_w]; rw [c24b0]) | skip)
       have H' := Aside0.mk H
       clear H
       go_wp2
       go_meet
       case rel => exact ⟨_, H', ⟨by have := HJ6.out; first | omega | exact Nat.le_refl _⟩, ⟨hb_⟩⟩
     case rest => as_aux_lemma =>
      clear HC23
      obtain ⟨kq, HA, HJ22, HB⟩ := hcut
      cases kq with
      | zero => exact absurd HA.out (by simp [laws_FnWholePolynomials.j4])
      | succ kj22 =>
       have H := HA.out
       clear HA
       simp only [laws_FnWholePolynomials.j4] at H
       obtain ⟨⟨t818, t819⟩, A61, H⟩ := bnd_ H
       dsimp only at H
       obtain ⟨⟨t824, t827⟩, A62, H⟩ := bnd_ H
       dsimp only at H
       obtain ⟨⟨t828, t829⟩, A63, H⟩ := bnd_ H
       dsimp only at H
       have HC64 := Aside0.mk H
       clear H
       go_upto_region 22 with (first | ((with_reducible refine gate_callee (f := 64) rfl ?_); refine goesL_ (some 173) rfl rfl Try.func64 (by kernel_rfl) rfl #[.slice A0 l0.length c0] rfl arg_ ?_; (with_reducible refine (spec_DrawDivideWhole.calls kj22 _ _ l0 t818 t819 _ ?side1 ?side2 A61.out).mono ?_); (case side1 => exact Kd.C_below (Kd.C_below HR0.out HB.out) bgo_); (case side2 => exact HC0.out); rintro e w65 ⟨v820, v822, rfl, ho0, ho1, hb⟩; refine ⟨_, rfl, ?_⟩; have HO821 := Aside0.mk (Kd.R_lower ho0 (below_size hb_)); have HO823 := Aside0.mk (Kd.R_lower ho1 (below_size hb_)); replace HB := Aside0.mk (below_step hb_ hb); (try clear hb); (try clear hb2); (try clear hk); (try clear hi); (try clear ho0); (try clear ho1); obtain ⟨Ao66, co66, eo66⟩ := Kd.R_slice HO821.out; subst eo66; obtain ⟨Ao67, co67, eo67⟩ := Kd.R_slice HO823.out; subst eo67) | ((with_reducible refine gate_callee (f := 63) rfl ?_); refine goesL_ (some 179) rfl rfl Try.func63 (by kernel_rfl) rfl #[.slice Ao66 t818.length co66, .slice Ao67 t819.length co67] rfl arg_ ?_; (with_reducible refine (impl_DivideWhole.calls kj22 (fun k_ => some k_ = (.slice Ao66 t818.length co66 : Value).ownBlock) _ _ t818 (fun k_ => some k_ = (.slice Ao67 t819.length co67 : Value).ownBlock) _ _ t819 t824 t827 _ ?side1 ?side2 A62.out).mono ?_); (case side1 => exact Kd.R_V (Kd.R_tight rfl (HO821.out))); (case side2 => exact Kd.R_V (Kd.R_tight rfl (HO823.out))); rintro e w68 ⟨v825, rfl, ho0, hb⟩; refine ⟨_, rfl, ?_⟩; have HO826 := Aside0.mk (Kd.R_lower (Kd.R_new' (Kd.R_new' (Kd.R_mono (ok' := fun k_ => True) ho0 (fun _ hk_ => trivial)) (Kd.R_lt (Kd.R_below HO821.out bgo_))) (Kd.R_lt (Kd.R_below HO823.out bgo_))) (below_size hb_)); replace HO821 := Aside0.mk (Kd.R_elder' (Kd.R_below HO821.out bgo_) (Kd.R_base ho0) hb); replace HO823 := Aside0.mk (Kd.R_elder' (Kd.R_below HO823.out bgo_) (Kd.R_base ho0) hb); replace HB := Aside0.mk (below_step hb_ hb); (try clear hb); (try clear hb2); (try clear hk); (try clear hi); (try clear ho0)) | ((with_reducible refine gate_callee (f := 65) rfl ?_); refine goesL_ (some 185) rfl rfl Try.func65 (by kernel_rfl) rfl #[.slice Ao66 t818.length co66, .slice Ao67 t819.length co67] rfl arg_ ?_; (with_reducible refine (spec_DivideWhole.calls kj22 _ _ t818 _ _ t819 t828 t829 _ ?side1 ?side2 ?side3 ?side4 A63.out).mono ?_); (case side1 => exact Kd.C_below (Kd.R_reads' HO821.out).2.2 bgo_); (case side2 => exact (Kd.R_reads' HO821.out).2.1); (case side3 => exact Kd.C_below (Kd.R_reads' HO823.out).2.2 bgo_); (case side4 => exact (Kd.R_reads' HO823.out).2.1); rintro e w69 ⟨v830, rfl, ho0, hb⟩; refine ⟨_, rfl, ?_⟩; have HO831 := Aside0.mk (Kd.R_lower (Kd.R_new' (Kd.R_new' (Kd.R_new' ho0 (Kd.R_lt (Kd.R_below HO821.out bgo_))) (Kd.R_lt (Kd.R_below HO823.out bgo_))) (Kd.R_lt (Kd.R_below HO826.out bgo_))) (below_size hb_)); replace HO821 := Aside0.mk (Kd.R_elder' (Kd.R_below HO821.out bgo_) (Kd.R_base ho0) hb); replace HO823 := Aside0.mk (Kd.R_elder' (Kd.R_below HO823.out bgo_) (Kd.R_base ho0) hb); replace HO826 := Aside0.mk (Kd.R_elder' (Kd.R_below HO826.out bgo_) (Kd.R_base ho0) hb); replace HB := Aside0.mk (below_step hb_ hb); (try clear hb); (try clear hb2); (try clear hk); (try clear hi); (try clear ho0)))
       (try simp only [Act.put, List.setIfInBounds_toArray, List.set_cons_zero, List.set_cons_succ])
       go_cut [196] (fun v196 wc => ∃ (kq : Nat) (x196_63 : Bool), v196 = .bool x196_63 ∧ Aside0 (laws_FnWholePolynomials.j5 kq l0 t818 t819 t824 t827 x196_63 = some true) ∧ Aside0 (kq ≤ kj22) ∧ Aside0 (Kd.R (Kd.int .i64) 2 wc w.heap.size (fun k_ => some k_ ≠ ((.slice Ao67 t819.length co67) : Value).ownBlock ∧ some k_ ≠ (v825 : Value).ownBlock) (.slice Ao66 t818.length co66) t818) ∧ Aside0 (Kd.R (Kd.int .i64) 2 wc w.heap.size (fun k_ => some k_ ≠ ((.slice Ao66 t818.length co66) : Value).ownBlock ∧ some k_ ≠ (v825 : Value).ownBlock) (.slice Ao67 t819.length co67) t819) ∧ Aside0 (Kd.R (Kd.int .i64) 2 wc w.heap.size (fun k_ => some k_ ≠ ((.slice Ao66 t818.length co66) : Value).ownBlock ∧ some k_ ≠ ((.slice Ao67 t819.length co67) : Value).ownBlock) v825 t824) ∧ Aside0 (Below w.heap.size w wc))
       case first => as_aux_lemma =>
        have H := HC64.out
        clear HC64
        by_cases c70 : t827 = t829
        ·rw [if_pos c70] at H
         have c70b0 : (t827 == t829) = true := beq_iff_eq.mpr c70
         have c70b1 : (t827 != t829) = false := bne_eq_false_iff_eq.mpr c70
         clear c70
         (first | rw [c70b0] | (simp only [i64_w, i32_w]; rw [c70b0]) | skip)
         obtain ⟨t832, A71, H⟩ := bnd_ H
         have H' := Aside0.mk H
         clear H
         obtain ⟨Ao72, co72, eo72⟩ := Kd.R_slice HO826.out
         subst eo72
         obtain ⟨Ao73, co73, eo73⟩ := Kd.R_slice HO831.out
         subst eo73
         go_wp2_with (first | (go_at_call 13; (with_reducible refine (laws_likeInts.calls kj22 _ _ t824 _ _ t828 t832 _ ?side1 ?side2 ?side3 ?side4 A71.out).mono ?_); (case side1 => exact Kd.C_below (Kd.R_reads' HO826.out).2.2 bgo_); (case side2 => exact (Kd.R_reads' HO826.out).2.1); (case side3 => exact Kd.C_below (Kd.R_reads' HO831.out).2.2 bgo_); (case side4 => exact (Kd.R_reads' HO831.out).2.1); rintro e w' ⟨rfl, ⟨nd, rfl⟩⟩))
         go_meet
         case rel => exact ⟨_, (!t832), es_, H', ⟨by have := HJ6.out; have := HJ22.out; first | omega | exact Nat.le_refl _⟩, ⟨by (with_reducible repeat (first | apply Kd.R_alloc | apply Kd.R_drewN | apply Kd.R_drew)); exact Kd.R_mono HO821.out (fun _ hk => ⟨hk.1.1, hk.1.2⟩)⟩, ⟨by (with_reducible repeat (first | apply Kd.R_alloc | apply Kd.R_drewN | apply Kd.R_drew)); exact Kd.R_mono HO823.out (fun _ hk => ⟨hk.1.1, hk.1.2⟩)⟩, ⟨by (with_reducible repeat (first | apply Kd.R_alloc | apply Kd.R_drewN | apply Kd.R_drew)); exact Kd.R_mono HO826.out (fun _ hk => ⟨hk.1.1.2, hk.1.2⟩)⟩, ⟨hb_⟩⟩
        ·rw [if_neg c70] at H
         exact absurd H laws_FnWholePolynomials.j5_no
       case rest => as_aux_lemma =>
        clear HC64
        obtain ⟨kq, x196_63, rfl, HA, HJ63, HO_18, HO_19, HO_20, HB⟩ := hcut
        cases kq with
        | zero => exact absurd HA.out (by simp [laws_FnWholePolynomials.j5])
        | succ kj63 =>
         have H := HA.out
         clear HA
         simp only [laws_FnWholePolynomials.j5] at H
         by_cases c74 : x196_63 = true
         ·subst c74
          have H1 : (some false) = some true := by rw [if_pos rfl] at H; exact H
          exact absurd (Option.some.inj H1) Bool.false_ne_true
         ·replace c74 := Bool.eq_false_iff.mpr c74
          subst c74
          have H1 : (if t827 = 0 then ((impl_MultiplyWhole.f kj63 t824 t819).bind fun bt833 => (if bt833.2 = 0 then ((laws_likeInts.f kj63 bt833.1 t818).bind fun t837 => (if t837 = true then (laws_FnWholePolynomials.j6 kj63 l0) else (some false))) else (laws_FnWholePolynomials.j6 kj63 l0))) else (laws_FnWholePolynomials.j6 kj63 l0)) = some true := by rw [if_neg (show ¬ (false = true) by decide)] at H; exact H
          clear H
          have H := H1
          clear H1
          have HC75 := Aside0.mk H
          clear H
          go_upto_if 198 with (fail)
          go_cut [] (fun wc => ∃ (kq : Nat), Aside0 (laws_FnWholePolynomials.j6 kq l0 = some true) ∧ Aside0 (kq ≤ kj63) ∧ Aside0 (Below w.heap.size w wc))
          case first => as_aux_lemma =>
           have H := HC75.out
           clear HC75
           by_cases c76 : t827 = 0
           ·rw [if_pos c76] at H
            have c76b0 : (t827 == 0) = true := beq_iff_eq.mpr c76
            have c76b1 : (t827 != 0) = false := bne_eq_false_iff_eq.mpr c76
            clear c76
            (first | rw [c76b0] | (simp only [i64_w, i32_w]; rw [c76b0]) | skip)
            obtain ⟨⟨t833, t836⟩, A77, H⟩ := bnd_ H
            dsimp only at H
            by_cases c78 : t836 = 0
            ·rw [if_pos c78] at H
             have c78b0 : (t836 == 0) = true := beq_iff_eq.mpr c78
             have c78b1 : (t836 != 0) = false := bne_eq_false_iff_eq.mpr c78
             clear c78
             obtain ⟨t837, A79, H⟩ := bnd_ H
             by_cases c80 : t837 = true
             ·subst c80
              have H1 : (laws_FnWholePolynomials.j6 kj63 l0) = some true := by rw [if_pos rfl] at H; exact H
              clear H
              have H := H1
              clear H1
              have H' := Aside0.mk H
              clear H
              obtain ⟨Ao81, co81, eo81⟩ := Kd.R_slice HO_20.out
              subst eo81
              go_wp2_with (first | ((with_reducible refine gate_callee (f := 58) rfl ?_); refine goesL_ (some 202) rfl rfl Try.func58 (by kernel_rfl) rfl #[.slice Ao81 t824.length co81, .slice Ao67 t819.length co67] rfl arg_ ?_; (with_reducible refine (impl_MultiplyWhole.calls kj63 (fun k_ => some k_ = (.slice Ao81 t824.length co81 : Value).ownBlock) _ _ t824 (fun k_ => some k_ = (.slice Ao67 t819.length co67 : Value).ownBlock) _ _ t819 t833 t836 _ ?side1 ?side2 A77.out).mono ?_); (case side1 => exact Kd.R_V (Kd.R_tight rfl (HO_20.out))); (case side2 => exact Kd.R_V (Kd.R_tight rfl (HO_19.out))); rintro e w82 ⟨v834, rfl, ho0, hb⟩; refine ⟨_, rfl, ?_⟩; have HO835 := Aside0.mk (Kd.R_lower (Kd.R_new' (Kd.R_new' (Kd.R_new' (Kd.R_mono (ok' := fun k_ => True) ho0 (fun _ hk_ => trivial)) (Kd.R_lt (Kd.R_below HO_18.out bgo_))) (Kd.R_lt (Kd.R_below HO_19.out bgo_))) (Kd.R_lt (Kd.R_below HO_20.out bgo_))) (below_size hb_)); replace HO_18 := Aside0.mk (Kd.R_elder' (Kd.R_below HO_18.out bgo_) (Kd.R_base ho0) hb); replace HO_19 := Aside0.mk (Kd.R_elder' (Kd.R_below HO_19.out bgo_) (Kd.R_base ho0) hb); replace HO_20 := Aside0.mk (Kd.R_elder' (Kd.R_below HO_20.out bgo_) (Kd.R_base ho0) hb); replace HB := Aside0.mk (below_step hb_ hb); (try clear hb); (try clear hb2); (try clear hk); (try clear hi); (try clear ho0); obtain ⟨Ao83, co83, eo83⟩ := Kd.R_slice HO835.out; subst eo83) | (go_at_call 13; (with_reducible refine (laws_likeInts.calls kj63 _ _ t833 _ _ t818 true _ ?side1 ?side2 ?side3 ?side4 A79.out).mono ?_); (case side1 => exact Kd.C_below (Kd.R_reads' HO835.out).2.2 bgo_); (case side2 => exact (Kd.R_reads' HO835.out).2.1); (case side3 => exact Kd.C_below (Kd.R_reads' HO_18.out).2.2 bgo_); (case side4 => exact (Kd.R_reads' HO_18.out).2.1); rintro e w' ⟨rfl, ⟨nd, rfl⟩⟩))
              go_meet
              case rel => exact ⟨_, H', ⟨by have := HJ6.out; have := HJ22.out; have := HJ63.out; first | omega | exact Nat.le_refl _⟩, ⟨hb_⟩⟩
             ·replace c80 := Bool.eq_false_iff.mpr c80
              subst c80
              have H1 : (some false) = some true := by rw [if_neg (show ¬ (false = true) by decide)] at H; exact H
              exact absurd (Option.some.inj H1) Bool.false_ne_true
            ·rw [if_neg c78] at H
             have c78b0 : (t836 == 0) = false := beq_eq_false_iff_ne.mpr c78
             have c78b1 : (t836 != 0) = true := bne_iff_ne.mpr c78
             have H' := Aside0.mk H
             clear H
             obtain ⟨Ao87, co87, eo87⟩ := Kd.R_slice HO_20.out
             subst eo87
             go_wp2_with (first | ((with_reducible refine gate_callee (f := 58) rfl ?_); refine goesL_ (some 202) rfl rfl Try.func58 (by kernel_rfl) rfl #[.slice Ao87 t824.length co87, .slice Ao67 t819.length co67] rfl arg_ ?_; (with_reducible refine (impl_MultiplyWhole.calls kj63 (fun k_ => some k_ = (.slice Ao87 t824.length co87 : Value).ownBlock) _ _ t824 (fun k_ => some k_ = (.slice Ao67 t819.length co67 : Value).ownBlock) _ _ t819 t833 t836 _ ?side1 ?side2 A77.out).mono ?_); (case side1 => exact Kd.R_V (Kd.R_tight rfl (HO_20.out))); (case side2 => exact Kd.R_V (Kd.R_tight rfl (HO_19.out))); rintro e w88 ⟨v834, rfl, ho0, hb⟩; refine ⟨_, rfl, ?_⟩; have HO835 := Aside0.mk (Kd.R_lower (Kd.R_new' (Kd.R_new' (Kd.R_new' (Kd.R_mono (ok' := fun k_ => True) ho0 (fun _ hk_ => trivial)) (Kd.R_lt (Kd.R_below HO_18.out bgo_))) (Kd.R_lt (Kd.R_below HO_19.out bgo_))) (Kd.R_lt (Kd.R_below HO_20.out bgo_))) (below_size hb_)); replace HO_18 := Aside0.mk (Kd.R_elder' (Kd.R_below HO_18.out bgo_) (Kd.R_base ho0) hb); replace HO_19 := Aside0.mk (Kd.R_elder' (Kd.R_below HO_19.out bgo_) (Kd.R_base ho0) hb); replace HO_20 := Aside0.mk (Kd.R_elder' (Kd.R_below HO_20.out bgo_) (Kd.R_base ho0) hb); replace HB := Aside0.mk (below_step hb_ hb); (try clear hb); (try clear hb2); (try clear hk); (try clear hi); (try clear ho0)))
             go_meet
             case rel => exact ⟨_, H', ⟨by have := HJ6.out; have := HJ22.out; have := HJ63.out; first | omega | exact Nat.le_refl _⟩, ⟨hb_⟩⟩
           ·rw [if_neg c76] at H
            have c76b0 : (t827 == 0) = false := beq_eq_false_iff_ne.mpr c76
            have c76b1 : (t827 != 0) = true := bne_iff_ne.mpr c76
            (first | rw [c76b0] | (simp only [i64_w, i32_w]; rw [c76b0]) | skip)
            have H' := Aside0.mk H
            clear H
            go_wp2
            go_meet
            case rel => exact ⟨_, H', ⟨by have := HJ6.out; have := HJ22.out; have := HJ63.out; first | omega | exact Nat.le_refl _⟩, ⟨hb_⟩⟩
          case rest => as_aux_lemma =>
           clear HC75
           obtain ⟨kq, HA, HJ74, HB⟩ := hcut
           cases kq with
           | zero => exact absurd HA.out (by simp [laws_FnWholePolynomials.j6])
           | succ kj74 =>
            have H := HA.out
            clear HA
            simp only [laws_FnWholePolynomials.j6] at H
            obtain ⟨t838, A89, H⟩ := bnd_ H
            obtain ⟨⟨t841, t842⟩, A90, H⟩ := bnd_ H
            dsimp only at H
            obtain ⟨⟨t845, t846⟩, A91, H⟩ := bnd_ H
            dsimp only at H
            have HC92 := Aside0.mk H
            clear H
            go_upto_region 31 with (first | ((with_reducible refine gate_callee (f := 66) rfl ?_); refine goesL_ (some 214) rfl rfl Try.func66 (by kernel_rfl) rfl #[.slice A0 l0.length c0] rfl arg_ ?_; (with_reducible refine (spec_DrawDeterminantWhole.calls kj74 _ _ l0 t838 _ ?side1 ?side2 A89.out).mono ?_); (case side1 => exact Kd.C_below (Kd.C_below HR0.out HB.out) bgo_); (case side2 => exact HC0.out); rintro e w93 ⟨v839, rfl, ho0, hb⟩; refine ⟨_, rfl, ?_⟩; have HO840 := Aside0.mk (Kd.S_lower ho0 (below_size hb_)); replace HB := Aside0.mk (below_step hb_ hb); (try clear hb); (try clear hb2); (try clear hk); (try clear hi); (try clear ho0); obtain ⟨Ao94, co94, eo94⟩ := Kd.S_slice HO840.out; subst eo94) | ((with_reducible refine gate_callee (f := 67) rfl ?_); refine goesL_ (some 217) rfl rfl Try.func67 (by kernel_rfl) rfl #[.slice Ao94 t838.length co94] rfl arg_ ?_; (with_reducible refine (impl_DeterminantWhole.calls kj74 _ _ t838 t841 t842 _ ?side1 ?side2 A90.out).mono ?_); (case side1 => exact Kd.C_below (Kd.S_reads' HO840.out).2.2 bgo_); (case side2 => exact (Kd.S_reads' HO840.out).2.1); rintro e w95 ⟨v843, rfl, ho0, hb⟩; refine ⟨_, rfl, ?_⟩; replace HO840 := Aside0.mk (Kd.S_elder' (Kd.S_below HO840.out bgo_) (Kd.R_base ho0) hb); have HO844 := Aside0.mk (Kd.R_lower ho0 (below_size hb_)); replace HB := Aside0.mk (below_step hb_ hb); (try clear hb); (try clear hb2); (try clear hk); (try clear hi); (try clear ho0)) | ((with_reducible refine gate_callee (f := 68) rfl ?_); refine goesL_ (some 222) rfl rfl Try.func68 (by kernel_rfl) rfl #[.slice Ao94 t838.length co94] rfl arg_ ?_; (with_reducible refine (spec_DeterminantWhole.calls kj74 _ _ t838 t845 t846 _ ?side1 ?side2 A91.out).mono ?_); (case side1 => exact Kd.C_below (Kd.S_reads' HO840.out).2.2 bgo_); (case side2 => exact (Kd.S_reads' HO840.out).2.1); rintro e w96 ⟨v847, rfl, ho0, hb⟩; refine ⟨_, rfl, ?_⟩; replace HO840 := Aside0.mk (Kd.S_elder' (Kd.S_below HO840.out bgo_) (Kd.R_base ho0) hb); have HO848 := Aside0.mk (Kd.R_lower (Kd.R_new' ho0 (Kd.R_lt (Kd.R_below HO844.out bgo_))) (below_size hb_)); replace HO844 := Aside0.mk (Kd.R_elder' (Kd.R_below HO844.out bgo_) (Kd.R_base ho0) hb); replace HB := Aside0.mk (below_step hb_ hb); (try clear hb); (try clear hb2); (try clear hk); (try clear hi); (try clear ho0)))
            (try simp only [Act.put, List.setIfInBounds_toArray, List.set_cons_zero, List.set_cons_succ])
            go_cut [233] (fun v233 wc => ∃ (kq : Nat) (x233_91 : Bool), v233 = .bool x233_91 ∧ Aside0 (laws_FnWholePolynomials.j7 kq l0 t838 t841 t842 x233_91 = some true) ∧ Aside0 (kq ≤ kj74) ∧ Aside0 (Kd.S (Kd.slice 2 (Kd.int .i64)) 29 wc w.heap.size (fun k_ => some k_ ≠ (v843 : Value).ownBlock) (.slice Ao94 t838.length co94) t838) ∧ Aside0 (Kd.R (Kd.int .i64) 2 wc w.heap.size (fun _ => True) v843 t841) ∧ Aside0 (Below w.heap.size w wc))
            case first => as_aux_lemma =>
             have H := HC92.out
             clear HC92
             by_cases c97 : t842 = t846
             ·rw [if_pos c97] at H
              have c97b0 : (t842 == t846) = true := beq_iff_eq.mpr c97
              have c97b1 : (t842 != t846) = false := bne_eq_false_iff_eq.mpr c97
              clear c97
              (first | rw [c97b0] | (simp only [i64_w, i32_w]; rw [c97b0]) | skip)
              obtain ⟨t849, A98, H⟩ := bnd_ H
              have H' := Aside0.mk H
              clear H
              obtain ⟨Ao99, co99, eo99⟩ := Kd.R_slice HO844.out
              subst eo99
              obtain ⟨Ao100, co100, eo100⟩ := Kd.R_slice HO848.out
              subst eo100
              go_wp2_with (first | (go_at_call 13; (with_reducible refine (laws_likeInts.calls kj74 _ _ t841 _ _ t845 t849 _ ?side1 ?side2 ?side3 ?side4 A98.out).mono ?_); (case side1 => exact Kd.C_below (Kd.R_reads' HO844.out).2.2 bgo_); (case side2 => exact (Kd.R_reads' HO844.out).2.1); (case side3 => exact Kd.C_below (Kd.R_reads' HO848.out).2.2 bgo_); (case side4 => exact (Kd.R_reads' HO848.out).2.1); rintro e w' ⟨rfl, ⟨nd, rfl⟩⟩))
              go_meet
              case rel => exact ⟨_, (!t849), es_, H', ⟨by have := HJ6.out; have := HJ22.out; have := HJ63.out; have := HJ74.out; first | omega | exact Nat.le_refl _⟩, ⟨by (with_reducible repeat (first | apply Kd.S_alloc | apply Kd.S_drewN | apply Kd.S_drew)); exact Kd.S_mono HO840.out (fun _ hk => hk.1.2)⟩, ⟨by (with_reducible repeat (first | apply Kd.R_alloc | apply Kd.R_drewN | apply Kd.R_drew)); exact Kd.R_mono HO844.out (fun _ hk => trivial)⟩, ⟨hb_⟩⟩
             ·rw [if_neg c97] at H
              exact absurd H laws_FnWholePolynomials.j7_no
            case rest => as_aux_lemma =>
             clear HC92
             obtain ⟨kq, x233_91, rfl, HA, HJ91, HO_26, HO_27, HB⟩ := hcut
             cases kq with
             | zero => exact absurd HA.out (by simp [laws_FnWholePolynomials.j7])
             | succ kj91 =>
              have H := HA.out
              clear HA
              simp only [laws_FnWholePolynomials.j7] at H
              by_cases c101 : x233_91 = true
              ·subst c101
               have H1 : (some false) = some true := by rw [if_pos rfl] at H; exact H
               exact absurd (Option.some.inj H1) Bool.false_ne_true
              ·replace c101 := Bool.eq_false_iff.mpr c101
               subst c101
               have H1 : (if t842 = 0 then (laws_FnWholePolynomials.l0 kj91 l0 t838 t841 0 0 0) else (laws_FnWholePolynomials.j9 kj91 l0)) = some true := by rw [if_neg (show ¬ (false = true) by decide)] at H; exact H
               clear H
               have H := H1
               clear H1
               have HC102 := Aside0.mk H
               clear H
               go_upto_if 235 with (fail)
               go_cut [] (fun wc => ∃ (kq : Nat), Aside0 (laws_FnWholePolynomials.j9 kq l0 = some true) ∧ Aside0 (kq ≤ kj91) ∧ Aside0 (Below w.heap.size w wc))
               case first => as_aux_lemma =>
                have H := HC102.out
                clear HC102
                by_cases c103 : t842 = 0
                ·rw [if_pos c103] at H
                 have c103b0 : (t842 == 0) = true := beq_iff_eq.mpr c103
                 have c103b1 : (t842 != 0) = false := bne_eq_false_iff_eq.mpr c103
                 clear c103
                 (first | rw [c103b0] | (simp only [i64_w, i32_w]; rw [c103b0]) | skip)
                 have H' := Aside0.mk H
                 clear H
                 go_wp2
                 go_loopg [31, 33] kj91 (fun kq v31 v33 w' => ∃ (x31_6 : Int) (x33_6 : Int), v31 = .int .i64 x31_6 ∧ v33 = .int .i64 x33_6 ∧ Aside0 (laws_FnWholePolynomials.l0 kq l0 t838 t841 x31_6 0 x33_6 = some true) ∧ Aside0 (kq ≤ kj91) ∧ Aside0 (Kd.S (Kd.slice 2 (Kd.int .i64)) 29 w' w.heap.size (fun k_ => some k_ ≠ (v843 : Value).ownBlock) (.slice Ao94 t838.length co94) t838) ∧ Aside0 (Kd.R (Kd.int .i64) 2 w' w.heap.size (fun _ => True) v843 t841) ∧ Aside0 (Below w.heap.size w w'))
                 case atStart => exact ⟨(0), (0), es_, es_, H', ⟨Nat.le_refl _⟩, ⟨Kd.S_below HO_26.out bgo_⟩, ⟨Kd.R_below HO_27.out bgo_⟩, ⟨hb_⟩⟩
                 case round =>
                  clear H'
                  obtain ⟨x31_6, x33_6, rfl, rfl, HA, HK6, HO_26, HO_27, HB⟩ := hrel
                  cases gk with
                  | zero => exact absurd HA.out (by simp [laws_FnWholePolynomials.l0])
                  | succ k6 =>
                   have H := HA.out
                   clear HA
                   simp only [laws_FnWholePolynomials.l0] at H
                   by_cases c104 : x33_6 < (t838.length : Int)
                   ·rw [if_pos c104] at H
                    have c104b0 := decide_eq_true c104
                    clear c104
                    obtain ⟨c105, H⟩ := itn_ H
                    have c105b0 := decide_eq_true c105
                    clear c105
                    obtain ⟨c106, H⟩ := itn_ H
                    have c106b0 := decide_eq_true c106
                    clear c106
                    have H' := Aside0.mk H
                    clear H
                    have p850 : 0 ≤ (x33_6 : Int) := od_
                    have q850 : x33_6 < (t838.length : Int) := od_
                    obtain ⟨ad850, A850_0, c850_0, e850, hx850_0, hl850_0, hi850_0⟩ := at_L2 (Kd.S_reads' HO_26.out).2.2 x33_6 p850 q850
                    cases e850
                    obtain ⟨ce850, hce850, hMe850, hcc850⟩ := Kd.S_get HO_26.out [] x33_6 p850 (by first | exact q850 | exact od_ | (have e_ := (Kd.S_reads' HO_26.out).1; omega))
                    obtain ⟨ve850_0, rfl, ge850_0⟩ := hMe850
                    have hv850_0 := hcc850 0 _ rfl
                    rw [Nat.add_zero, show ((Kd.slice 2 (Kd.int .i64))).sz = 1 from rfl, Nat.mul_one] at hv850_0
                    replace hv850_0 := Option.some.inj (hv850_0.symm.trans hx850_0)
                    rw [hv850_0] at ge850_0
                    have HL850_0 := Aside0.mk (show Kd.R (Kd.int .i64) 2 _ _ _ _ (rd_L2 t838 x33_6) from ge850_0)
                    clear hv850_0 ge850_0
                    clear hcc850 hce850
                    have HR850_0 := Aside0.mk hi850_0
                    have HC850_0 := Aside0.mk hl850_0
                    clear hi850_0 hl850_0
                    replace p850 := eq_true p850
                    replace q850 := eq_true q850
                    have p851 : 0 ≤ (x33_6 : Int) := od_
                    have q851 : x33_6 < ((rd_L2 t838 x33_6).length : Int) := od_
                    obtain ⟨ad851, e851, hx851_0⟩ := Kd.at_int (by repeat (first | (with_reducible exact HR850_0.out) | (with_reducible refine Kd.C_alloc ?_ _) | (with_reducible refine Kd.C_drewN ?_ _) | (with_reducible refine Kd.C_drew ?_) | exact HR850_0.out)) x33_6 p851 q851
                    cases e851
                    replace p851 := eq_true p851
                    replace q851 := eq_true q851
                    go_wp2
                    first | go_roundg k6 | (refine Handed.intro k6 ?measure ?_; rotate_left; go_step; (try simp only [add_plain]); (repeat apply Exists.intro); refine ⟨?rel, rfl⟩)
                    case measure => have := HJ6.out; have := HJ22.out; have := HJ63.out; have := HJ74.out; have := HJ91.out; have := HK6.out; omega
                    case rel => exact ⟨(wrap64 (x31_6 + (rd (rd_L2 t838 x33_6) x33_6))), (wrap64 (x33_6 + 1)), es_, es_, H', ⟨by have := HJ6.out; have := HJ22.out; have := HJ63.out; have := HJ74.out; have := HJ91.out; have := HK6.out; omega⟩, ⟨Kd.S_below HO_26.out bgo_⟩, ⟨Kd.R_below HO_27.out bgo_⟩, ⟨hb_⟩⟩
                   ·rw [if_neg c104] at H
                    have c104b0 := decide_eq_false c104
                    clear c104
                    by_cases c107 : (t841.length : Int) > 1
                    ·rw [if_pos c107] at H
                     have c107b0 := decide_eq_true c107
                     have c107b1 : decide (1 < t841.length) = true := decide_eq_true (by omega)
                     clear c107
                     obtain ⟨c108, H⟩ := itn_ H
                     have c108b0 := decide_eq_true c108
                     have c108b1 : decide (1 < t841.length) = true := decide_eq_true (by omega)
                     clear c108
                     by_cases c109 : (t841.length : Int) < 1
                     ·rw [if_pos c109] at H
                      exact absurd (Option.some.inj H) Bool.false_ne_true
                     ·rw [if_neg c109] at H
                      have c109b0 := decide_eq_false c109
                      have c109b1 : decide (t841.length < 1) = false := decide_eq_false (by omega)
                      clear c109
                      obtain ⟨c111, H⟩ := itn_ H
                      have c111b0 := decide_eq_true c111
                      have c111b1 : decide (0 < t841.length) = true := decide_eq_true (by omega)
                      clear c111
                      by_cases c112 : (rd t841 0) = 1
                      ·rw [if_pos c112] at H
                       have c112b0 : ((rd t841 0) == 1) = true := beq_iff_eq.mpr c112
                       have c112b1 : ((rd t841 0) != 1) = false := bne_eq_false_iff_eq.mpr c112
                       clear c112
                       by_cases c113 : (rd t841 1) = (wrap64 (-x31_6))
                       ·rw [if_pos c113] at H
                        have c113b0 : ((rd t841 1) == (wrap64 (-x31_6))) = true := beq_iff_eq.mpr c113
                        have c113b1 : ((rd t841 1) != (wrap64 (-x31_6))) = false := bne_eq_false_iff_eq.mpr c113
                        clear c113
                        have H' := Aside0.mk H
                        clear H
                        obtain ⟨Ao114, co114, eo114⟩ := Kd.R_slice HO_27.out
                        subst eo114
                        have p852 : 0 ≤ (1 : Int) := (by omega)
                        have q852 : 1 < (t841.length : Int) := od_
                        obtain ⟨ad852, e852, hx852_0⟩ := Kd.at_int (Kd.R_reads' HO_27.out).2.2 1 p852 q852
                        cases e852
                        (try simp only [show (1 : Int).toNat = 1 from rfl, Nat.reduceMul, Nat.reduceEqDiff, Go.Addr.add, ↓reduceIte] at hx852_0)
                        have qi852 : (1 < t841.length) = True := eq_true (by omega)
                        (try rw [show ((1 : Int)).toNat = 1 from rfl] at hx852_0)
                        replace p852 := eq_true p852
                        replace q852 := eq_true q852
                        have p853 : 0 ≤ (0 : Int) := (by omega)
                        have q853 : 0 < (t841.length : Int) := od_
                        obtain ⟨ad853, e853, hx853_0⟩ := Kd.at_int (Kd.R_reads' HO_27.out).2.2 0 p853 q853
                        obtain rfl : ad852 = ad853 := (by injection e853)
                        have qi853 : (0 < t841.length) = True := eq_true (by omega)
                        (try rw [show ((0 : Int)).toNat = 0 from rfl] at hx853_0)
                        (try rw [Addr.add_zero'] at hx853_0)
                        replace p853 := eq_true p853
                        replace q853 := eq_true q853
                        go_wp2
                        go_meet
                        case rel => exact ⟨_, H', ⟨by have := HJ6.out; have := HJ22.out; have := HJ63.out; have := HJ74.out; have := HJ91.out; have := HK6.out; first | omega | exact Nat.le_refl _⟩, ⟨hb_⟩⟩
                       ·rw [if_neg c113] at H
                        exact absurd (Option.some.inj H) Bool.false_ne_true
                      ·rw [if_neg c112] at H
                       exact absurd (Option.some.inj H) Bool.false_ne_true
                    ·rw [if_neg c107] at H
                     have c107b0 := decide_eq_false c107
                     have c107b1 : decide (1 < t841.length) = false := decide_eq_false (by omega)
                     clear c107
                     by_cases c117 : (t841.length : Int) < 1
                     ·rw [if_pos c117] at H
                      exact absurd (Option.some.inj H) Bool.false_ne_true
                     ·rw [if_neg c117] at H
                      have c117b0 := decide_eq_false c117
                      have c117b1 : decide (t841.length < 1) = false := decide_eq_false (by omega)
                      clear c117
                      obtain ⟨c119, H⟩ := itn_ H
                      have c119b0 := decide_eq_true c119
                      have c119b1 : decide (0 < t841.length) = true := decide_eq_true (by omega)
                      clear c119
                      by_cases c120 : (rd t841 0) = 1
                      ·rw [if_pos c120] at H
                       have c120b0 : ((rd t841 0) == 1) = true := beq_iff_eq.mpr c120
                       have c120b1 : ((rd t841 0) != 1) = false := bne_eq_false_iff_eq.mpr c120
                       clear c120
                       by_cases c121 : 0 = (wrap64 (-x31_6))
                       ·rw [if_pos c121] at H
                        have c121b0 : (0 == (wrap64 (-x31_6))) = true := beq_iff_eq.mpr c121
                        have c121b1 : (0 != (wrap64 (-x31_6))) = false := bne_eq_false_iff_eq.mpr c121
                        clear c121
                        have H' := Aside0.mk H
                        clear H
                        obtain ⟨Ao122, co122, eo122⟩ := Kd.R_slice HO_27.out
                        subst eo122
                        have p854 : 0 ≤ (0 : Int) := (by omega)
                        have q854 : 0 < (t841.length : Int) := od_
                        obtain ⟨ad854, e854, hx854_0⟩ := Kd.at_int (Kd.R_reads' HO_27.out).2.2 0 p854 q854
                        cases e854
                        have qi854 : (0 < t841.length) = True := eq_true (by omega)
                        (try rw [show ((0 : Int)).toNat = 0 from rfl] at hx854_0)
                        (try rw [Addr.add_zero'] at hx854_0)
                        replace p854 := eq_true p854
                        replace q854 := eq_true q854
                        go_wp2
                        go_meet
                        case rel => exact ⟨_, H', ⟨by have := HJ6.out; have := HJ22.out; have := HJ63.out; have := HJ74.out; have := HJ91.out; have := HK6.out; first | omega | exact Nat.le_refl _⟩, ⟨hb_⟩⟩
                       ·rw [if_neg c121] at H
                        exact absurd (Option.some.inj H) Bool.false_ne_true
                      ·rw [if_neg c120] at H
                       exact absurd (Option.some.inj H) Bool.false_ne_true
                ·rw [if_neg c103] at H
                 have c103b0 : (t842 == 0) = false := beq_eq_false_iff_ne.mpr c103
                 have c103b1 : (t842 != 0) = true := bne_iff_ne.mpr c103
                 (first | rw [c103b0] | (simp only [i64_w, i32_w]; rw [c103b0]) | skip)
                 have H' := Aside0.mk H
                 clear H
                 go_wp2
                 go_meet
                 case rel => exact ⟨_, H', ⟨by have := HJ6.out; have := HJ22.out; have := HJ63.out; have := HJ74.out; have := HJ91.out; first | omega | exact Nat.le_refl _⟩, ⟨hb_⟩⟩
               case rest => as_aux_lemma =>
                clear HC102
                obtain ⟨kq, HA, HJ101, HB⟩ := hcut
                cases kq with
                | zero => exact absurd HA.out (by simp [laws_FnWholePolynomials.j9])
                | succ kj101 =>
                 have H := HA.out
                 clear HA
                 simp only [laws_FnWholePolynomials.j9] at H
                 obtain ⟨⟨t855, t856, t857⟩, A125, H⟩ := bnd_ H
                 dsimp only at H
                 obtain ⟨⟨t862, t865⟩, A126, H⟩ := bnd_ H
                 dsimp only at H
                 obtain ⟨⟨t866, t867⟩, A127, H⟩ := bnd_ H
                 dsimp only at H
                 obtain ⟨⟨t870, t871⟩, A128, H⟩ := bnd_ H
                 dsimp only at H
                 obtain ⟨⟨t874, t875⟩, A129, H⟩ := bnd_ H
                 dsimp only at H
                 obtain ⟨⟨t876, t877⟩, A130, H⟩ := bnd_ H
                 dsimp only at H
                 obtain ⟨t878, A131, H⟩ := bnd_ H
                 obtain ⟨⟨t881, t884⟩, A132, H⟩ := bnd_ H
                 dsimp only at H
                 obtain ⟨⟨t885, t886⟩, A133, H⟩ := bnd_ H
                 dsimp only at H
                 by_cases c134 : t865 = t867
                 ·rw [if_pos c134] at H
                  have c134b0 : (t865 == t867) = true := beq_iff_eq.mpr c134
                  have c134b1 : (t865 != t867) = false := bne_eq_false_iff_eq.mpr c134
                  clear c134
                  obtain ⟨t889, A135, H⟩ := bnd_ H
                  by_cases c136 : t889 = true
                  ·subst c136
                   have H1 : (if t875 = t877 then (if t874 = t876 then (if t884 = t886 then ((laws_likeInts.f kj101 t881 t885).bind fun t890 => (some t890)) else (some false)) else (some false)) else (some false)) = some true := by rw [if_pos rfl] at H; exact H
                   clear H
                   have H := H1
                   clear H1
                   by_cases c137 : t875 = t877
                   ·rw [if_pos c137] at H
                    have c137b0 : (t875 == t877) = true := beq_iff_eq.mpr c137
                    have c137b1 : (t875 != t877) = false := bne_eq_false_iff_eq.mpr c137
                    clear c137
                    by_cases c138 : t874 = t876
                    ·rw [if_pos c138] at H
                     have c138b0 : (t874 == t876) = true := beq_iff_eq.mpr c138
                     have c138b1 : (t874 != t876) = false := bne_eq_false_iff_eq.mpr c138
                     clear c138
                     by_cases c139 : t884 = t886
                     ·rw [if_pos c139] at H
                      have c139b0 : (t884 == t886) = true := beq_iff_eq.mpr c139
                      have c139b1 : (t884 != t886) = false := bne_eq_false_iff_eq.mpr c139
                      clear c139
                      obtain ⟨t890, A140, H⟩ := bnd_ H
                      have H := Option.some.inj H
                      go_wp2_with (first | ((with_reducible refine gate_callee (f := 69) rfl ?_); refine goesL_ (some 274) rfl rfl Try.func69 (by kernel_rfl) rfl #[.slice A0 l0.length c0] rfl arg_ ?_; (with_reducible refine (spec_DrawAddWhole.calls kj101 _ _ l0 t855 t856 t857 _ ?side1 ?side2 A125.out).mono ?_); (case side1 => exact Kd.C_below (Kd.C_below HR0.out HB.out) bgo_); (case side2 => exact HC0.out); rintro e w141 ⟨v858, v860, rfl, ho0, ho1, hb⟩; refine ⟨_, rfl, ?_⟩; have HO859 := Aside0.mk (Kd.R_lower ho0 (below_size hb_)); have HO861 := Aside0.mk (Kd.R_lower ho1 (below_size hb_)); replace HB := Aside0.mk (below_step hb_ hb); (try clear hb); (try clear hb2); (try clear hk); (try clear hi); (try clear ho0); (try clear ho1); obtain ⟨Ao142, co142, eo142⟩ := Kd.R_slice HO859.out; subst eo142; obtain ⟨Ao143, co143, eo143⟩ := Kd.R_slice HO861.out; subst eo143) | ((with_reducible refine gate_callee (f := 70) rfl ?_); refine goesL_ (some 282) rfl rfl Try.func70 (by kernel_rfl) rfl #[.slice Ao142 t855.length co142, .slice Ao143 t856.length co143, .int .i64 t857] rfl arg_ ?_; (with_reducible refine (impl_AddWhole.calls kj101 (fun k_ => some k_ = (.slice Ao142 t855.length co142 : Value).ownBlock) _ _ t855 (fun k_ => some k_ = (.slice Ao143 t856.length co143 : Value).ownBlock) _ _ t856 t857 t862 t865 _ ?side1 ?side2 A126.out).mono ?_); (case side1 => exact Kd.R_V (Kd.R_tight rfl (HO859.out))); (case side2 => exact Kd.R_V (Kd.R_tight rfl (HO861.out))); rintro e w144 ⟨v863, rfl, ho0, hb⟩; refine ⟨_, rfl, ?_⟩; have HO864 := Aside0.mk (Kd.R_lower (Kd.R_new' (Kd.R_new' (Kd.R_mono (ok' := fun k_ => True) ho0 (fun _ hk_ => trivial)) (Kd.R_lt (Kd.R_below HO859.out bgo_))) (Kd.R_lt (Kd.R_below HO861.out bgo_))) (below_size hb_)); replace HO859 := Aside0.mk (Kd.R_elder' (Kd.R_below HO859.out bgo_) (Kd.R_base ho0) hb); replace HO861 := Aside0.mk (Kd.R_elder' (Kd.R_below HO861.out bgo_) (Kd.R_base ho0) hb); replace HB := Aside0.mk (below_step hb_ hb); (try clear hb); (try clear hb2); (try clear hk); (try clear hi); (try clear ho0)) | ((with_reducible refine gate_callee (f := 71) rfl ?_); refine goesL_ (some 289) rfl rfl Try.func71 (by kernel_rfl) rfl #[.slice Ao142 t855.length co142, .slice Ao143 t856.length co143, .int .i64 t857] rfl arg_ ?_; (with_reducible refine (spec_AddWhole.calls kj101 _ _ t855 _ _ t856 t857 t866 t867 _ ?side1 ?side2 ?side3 ?side4 A127.out).mono ?_); (case side1 => exact Kd.C_below (Kd.R_reads' HO859.out).2.2 bgo_); (case side2 => exact (Kd.R_reads' HO859.out).2.1); (case side3 => exact Kd.C_below (Kd.R_reads' HO861.out).2.2 bgo_); (case side4 => exact (Kd.R_reads' HO861.out).2.1); rintro e w145 ⟨v868, rfl, ho0, hb⟩; refine ⟨_, rfl, ?_⟩; have HO869 := Aside0.mk (Kd.R_lower (Kd.R_new' (Kd.R_new' (Kd.R_new' ho0 (Kd.R_lt (Kd.R_below HO859.out bgo_))) (Kd.R_lt (Kd.R_below HO861.out bgo_))) (Kd.R_lt (Kd.R_below HO864.out bgo_))) (below_size hb_)); replace HO859 := Aside0.mk (Kd.R_elder' (Kd.R_below HO859.out bgo_) (Kd.R_base ho0) hb); replace HO861 := Aside0.mk (Kd.R_elder' (Kd.R_below HO861.out bgo_) (Kd.R_base ho0) hb); replace HO864 := Aside0.mk (Kd.R_elder' (Kd.R_below HO864.out bgo_) (Kd.R_base ho0) hb); replace HB := Aside0.mk (below_step hb_ hb); (try clear hb); (try clear hb2); (try clear hk); (try clear hi); (try clear ho0)) | ((with_reducible refine gate_callee (f := 72) rfl ?_); refine goesL_ (some 294) rfl rfl Try.func72 (by kernel_rfl) rfl #[.slice A0 l0.length c0] rfl arg_ ?_; (with_reducible refine (spec_DrawValueOfWhole.calls kj101 _ _ l0 t870 t871 _ ?side1 ?side2 A128.out).mono ?_); (case side1 => exact Kd.C_below (Kd.C_below HR0.out HB.out) bgo_); (case side2 => exact HC0.out); rintro e w146 ⟨v872, rfl, ho0, hb⟩; refine ⟨_, rfl, ?_⟩; have HO873 := Aside0.mk (Kd.R_lower (Kd.R_new' (Kd.R_new' (Kd.R_new' (Kd.R_new' ho0 (Kd.R_lt (Kd.R_below HO859.out bgo_))) (Kd.R_lt (Kd.R_below HO861.out bgo_))) (Kd.R_lt (Kd.R_below HO864.out bgo_))) (Kd.R_lt (Kd.R_below HO869.out bgo_))) (below_size hb_)); replace HO859 := Aside0.mk (Kd.R_elder' (Kd.R_below HO859.out bgo_) (Kd.R_base ho0) hb); replace HO861 := Aside0.mk (Kd.R_elder' (Kd.R_below HO861.out bgo_) (Kd.R_base ho0) hb); replace HO864 := Aside0.mk (Kd.R_elder' (Kd.R_below HO864.out bgo_) (Kd.R_base ho0) hb); replace HO869 := Aside0.mk (Kd.R_elder' (Kd.R_below HO869.out bgo_) (Kd.R_base ho0) hb); replace HB := Aside0.mk (below_step hb_ hb); (try clear hb); (try clear hb2); (try clear hk); (try clear hi); (try clear ho0); obtain ⟨Ao147, co147, eo147⟩ := Kd.R_slice HO873.out; subst eo147) | ((with_reducible refine gate_callee (f := 62) rfl ?_); refine goesL_ (some 300) rfl rfl Try.func62 (by kernel_rfl) rfl #[.slice Ao147 t870.length co147, .int .i64 t871] rfl arg_ ?_; (with_reducible refine (impl_ValueOfWhole.calls kj101 (fun k_ => some k_ = (.slice Ao147 t870.length co147 : Value).ownBlock) _ _ t870 t871 t874 t875 _ ?side1 A129.out).mono ?_); (case side1 => exact Kd.R_V (Kd.R_tight rfl (HO873.out))); rintro e w148 ⟨rfl, hb⟩; refine ⟨_, rfl, ?_⟩; replace HO859 := Aside0.mk (Kd.R_below (Kd.R_below HO859.out bgo_) hb); replace HO861 := Aside0.mk (Kd.R_below (Kd.R_below HO861.out bgo_) hb); replace HO864 := Aside0.mk (Kd.R_below (Kd.R_below HO864.out bgo_) hb); replace HO869 := Aside0.mk (Kd.R_below (Kd.R_below HO869.out bgo_) hb); replace HO873 := Aside0.mk (Kd.R_below (Kd.R_below HO873.out bgo_) hb); replace HB := Aside0.mk (below_step hb_ hb); (try clear hb); (try clear hb2); (try clear hk); (try clear hi)) | ((with_reducible refine gate_callee (f := 73) rfl ?_); refine goesL_ (some 306) rfl rfl Try.func73 (by kernel_rfl) rfl #[.slice Ao147 t870.length co147, .int .i64 t871] rfl arg_ ?_; (with_reducible refine (spec_ValueOfWhole.calls kj101 _ _ t870 t871 t876 t877 _ ?side1 ?side2 A130.out).mono ?_); (case side1 => exact Kd.C_below (Kd.R_reads' HO873.out).2.2 bgo_); (case side2 => exact (Kd.R_reads' HO873.out).2.1); rintro e w149 ⟨rfl, hb⟩; refine ⟨_, rfl, ?_⟩; replace HO859 := Aside0.mk (Kd.R_below (Kd.R_below HO859.out bgo_) hb); replace HO861 := Aside0.mk (Kd.R_below (Kd.R_below HO861.out bgo_) hb); replace HO864 := Aside0.mk (Kd.R_below (Kd.R_below HO864.out bgo_) hb); replace HO869 := Aside0.mk (Kd.R_below (Kd.R_below HO869.out bgo_) hb); replace HO873 := Aside0.mk (Kd.R_below (Kd.R_below HO873.out bgo_) hb); replace HB := Aside0.mk (below_step hb_ hb); (try clear hb); (try clear hb2); (try clear hk); (try clear hi)) | ((with_reducible refine gate_callee (f := 74) rfl ?_); refine goesL_ (some 310) rfl rfl Try.func74 (by kernel_rfl) rfl #[.slice A0 l0.length c0] rfl arg_ ?_; (with_reducible refine (spec_DrawDerivativeOfWhole.calls kj101 _ _ l0 t878 _ ?side1 ?side2 A131.out).mono ?_); (case side1 => exact Kd.C_below (Kd.C_below HR0.out HB.out) bgo_); (case side2 => exact HC0.out); rintro e w150 ⟨v879, rfl, ho0, hb⟩; refine ⟨_, rfl, ?_⟩; have HO880 := Aside0.mk (Kd.R_lower (Kd.R_new' (Kd.R_new' (Kd.R_new' (Kd.R_new' (Kd.R_new' ho0 (Kd.R_lt (Kd.R_below HO859.out bgo_))) (Kd.R_lt (Kd.R_below HO861.out bgo_))) (Kd.R_lt (Kd.R_below HO864.out bgo_))) (Kd.R_lt (Kd.R_below HO869.out bgo_))) (Kd.R_lt (Kd.R_below HO873.out bgo_))) (below_size hb_)); replace HO859 := Aside0.mk (Kd.R_elder' (Kd.R_below HO859.out bgo_) (Kd.R_base ho0) hb); replace HO861 := Aside0.mk (Kd.R_elder' (Kd.R_below HO861.out bgo_) (Kd.R_base ho0) hb); replace HO864 := Aside0.mk (Kd.R_elder' (Kd.R_below HO864.out bgo_) (Kd.R_base ho0) hb); replace HO869 := Aside0.mk (Kd.R_elder' (Kd.R_below HO869.out bgo_) (Kd.R_base ho0) hb); replace HO873 := Aside0.mk (Kd.R_elder' (Kd.R_below HO873.out bgo_) (Kd.R_base ho0) hb); replace HB := Aside0.mk (below_step hb_ hb); (try clear hb); (try clear hb2); (try clear hk); (try clear hi); (try clear ho0); obtain ⟨Ao151, co151, eo151⟩ := Kd.R_slice HO880.out; subst eo151) | ((with_reducible refine gate_callee (f := 75) rfl ?_); refine goesL_ (some 313) rfl rfl Try.func75 (by kernel_rfl) rfl #[.slice Ao151 t878.length co151] rfl arg_ ?_; (with_reducible refine (impl_DerivativeOfWhole.calls kj101 (fun k_ => some k_ = (.slice Ao151 t878.length co151 : Value).ownBlock) _ _ t878 t881 t884 _ ?side1 A132.out).mono ?_); (case side1 => exact Kd.R_V (Kd.R_tight rfl (HO880.out))); rintro e w152 ⟨v882, rfl, ho0, hb⟩; refine ⟨_, rfl, ?_⟩; have HO883 := Aside0.mk (Kd.R_lower (Kd.R_new' (Kd.R_new' (Kd.R_new' (Kd.R_new' (Kd.R_new' (Kd.R_new' (Kd.R_mono (ok' := fun k_ => True) ho0 (fun _ hk_ => trivial)) (Kd.R_lt (Kd.R_below HO859.out bgo_))) (Kd.R_lt (Kd.R_below HO861.out bgo_))) (Kd.R_lt (Kd.R_below HO864.out bgo_))) (Kd.R_lt (Kd.R_below HO869.out bgo_))) (Kd.R_lt (Kd.R_below HO873.out bgo_))) (Kd.R_lt (Kd.R_below HO880.out bgo_))) (below_size hb_)); replace HO859 := Aside0.mk (Kd.R_elder' (Kd.R_below HO859.out bgo_) (Kd.R_base ho0) hb); replace HO861 := Aside0.mk (Kd.R_elder' (Kd.R_below HO861.out bgo_) (Kd.R_base ho0) hb); replace HO864 := Aside0.mk (Kd.R_elder' (Kd.R_below HO864.out bgo_) (Kd.R_base ho0) hb); replace HO869 := Aside0.mk (Kd.R_elder' (Kd.R_below HO869.out bgo_) (Kd.R_base ho0) hb); replace HO873 := Aside0.mk (Kd.R_elder' (Kd.R_below HO873.out bgo_) (Kd.R_base ho0) hb); replace HO880 := Aside0.mk (Kd.R_elder' (Kd.R_below HO880.out bgo_) (Kd.R_base ho0) hb); replace HB := Aside0.mk (below_step hb_ hb); (try clear hb); (try clear hb2); (try clear hk); (try clear hi); (try clear ho0)) | ((with_reducible refine gate_callee (f := 76) rfl ?_); refine goesL_ (some 318) rfl rfl Try.func76 (by kernel_rfl) rfl #[.slice Ao151 t878.length co151] rfl arg_ ?_; (with_reducible refine (spec_DerivativeOfWhole.calls kj101 _ _ t878 t885 t886 _ ?side1 ?side2 A133.out).mono ?_); (case side1 => exact Kd.C_below (Kd.R_reads' HO880.out).2.2 bgo_); (case side2 => exact (Kd.R_reads' HO880.out).2.1); rintro e w153 ⟨v887, rfl, ho0, hb⟩; refine ⟨_, rfl, ?_⟩; have HO888 := Aside0.mk (Kd.R_lower (Kd.R_new' (Kd.R_new' (Kd.R_new' (Kd.R_new' (Kd.R_new' (Kd.R_new' (Kd.R_new' ho0 (Kd.R_lt (Kd.R_below HO859.out bgo_))) (Kd.R_lt (Kd.R_below HO861.out bgo_))) (Kd.R_lt (Kd.R_below HO864.out bgo_))) (Kd.R_lt (Kd.R_below HO869.out bgo_))) (Kd.R_lt (Kd.R_below HO873.out bgo_))) (Kd.R_lt (Kd.R_below HO880.out bgo_))) (Kd.R_lt (Kd.R_below HO883.out bgo_))) (below_size hb_)); replace HO859 := Aside0.mk (Kd.R_elder' (Kd.R_below HO859.out bgo_) (Kd.R_base ho0) hb); replace HO861 := Aside0.mk (Kd.R_elder' (Kd.R_below HO861.out bgo_) (Kd.R_base ho0) hb); replace HO864 := Aside0.mk (Kd.R_elder' (Kd.R_below HO864.out bgo_) (Kd.R_base ho0) hb); replace HO869 := Aside0.mk (Kd.R_elder' (Kd.R_below HO869.out bgo_) (Kd.R_base ho0) hb); replace HO873 := Aside0.mk (Kd.R_elder' (Kd.R_below HO873.out bgo_) (Kd.R_base ho0) hb); replace HO880 := Aside0.mk (Kd.R_elder' (Kd.R_below HO880.out bgo_) (Kd.R_base ho0) hb); replace HO883 := Aside0.mk (Kd.R_elder' (Kd.R_below HO883.out bgo_) (Kd.R_base ho0) hb); replace HB := Aside0.mk (below_step hb_ hb); (try clear hb); (try clear hb2); (try clear hk); (try clear hi); (try clear ho0); obtain ⟨Ao154, co154, eo154⟩ := Kd.R_slice HO864.out; subst eo154; obtain ⟨Ao155, co155, eo155⟩ := Kd.R_slice HO869.out; subst eo155) | (go_at_call 13; (with_reducible refine (laws_likeInts.calls kj101 _ _ t862 _ _ t866 true _ ?side1 ?side2 ?side3 ?side4 A135.out).mono ?_); (case side1 => exact Kd.C_below (Kd.R_reads' HO864.out).2.2 bgo_); (case side2 => exact (Kd.R_reads' HO864.out).2.1); (case side3 => exact Kd.C_below (Kd.R_reads' HO869.out).2.2 bgo_); (case side4 => exact (Kd.R_reads' HO869.out).2.1); rintro e w' ⟨rfl, ⟨nd, rfl⟩⟩; obtain ⟨Ao156, co156, eo156⟩ := Kd.R_slice HO883.out; subst eo156; obtain ⟨Ao157, co157, eo157⟩ := Kd.R_slice HO888.out; subst eo157) | (go_at_call 13; (with_reducible refine (laws_likeInts.calls kj101 _ _ t881 _ _ t885 t890 _ ?side1 ?side2 ?side3 ?side4 A140.out).mono ?_); (case side1 => exact Kd.C_below (Kd.R_reads' HO883.out).2.2 bgo_); (case side2 => exact (Kd.R_reads' HO883.out).2.1); (case side3 => exact Kd.C_below (Kd.R_reads' HO888.out).2.2 bgo_); (case side4 => exact (Kd.R_reads' HO888.out).2.1); rintro e w' ⟨rfl, ⟨nd, rfl⟩⟩))
                      go_ret
                      exact ⟨er_, hb_⟩
                     ·rw [if_neg c139] at H
                      exact absurd (Option.some.inj H) Bool.false_ne_true
                    ·rw [if_neg c138] at H
                     exact absurd (Option.some.inj H) Bool.false_ne_true
                   ·rw [if_neg c137] at H
                    exact absurd (Option.some.inj H) Bool.false_ne_true
                  ·replace c136 := Bool.eq_false_iff.mpr c136
                   subst c136
                   have H1 : (some false) = some true := by rw [if_neg (show ¬ (false = true) by decide)] at H; exact H
                   exact absurd (Option.some.inj H1) Bool.false_ne_true
                 ·rw [if_neg c134] at H
                  exact absurd (Option.some.inj H) Bool.false_ne_true
/-- THE ONE PURE STATEMENT of laws_FnWholePolynomials: yours. -/
def laws_FnWholePolynomials.Pure : Prop := ∀ (l0 : List Int), l0.length ≤ maxLen → (∀ y ∈ l0, (Lit.int .u8 y).wf = true) → ∃ k, laws_FnWholePolynomials.f k l0 = some true
theorem laws_FnWholePolynomials.walk (P : laws_FnWholePolynomials.Pure) (A0 : Option Addr) (c0 : Nat) (l0 : List Int) (w : World) (hm0 : l0.length ≤ maxLen) (hw0 : (∀ y ∈ l0, (Lit.int .u8 y).wf = true)) (hr0 : Kd.C (Kd.int .u8) w A0 l0.length l0) (hc0 : l0.length ≤ c0) :
  Calls Try.prog 6 #[.slice A0 l0.length c0] w fun e w' => e = .returned (.bool true) ∧ Below w.heap.size w w' := by
 obtain ⟨k, h⟩ := P l0 hm0 hw0
 refine (laws_FnWholePolynomials.calls k _ _ l0 w hr0 hc0 h).mono ?_
 rintro e w' ⟨rfl, hd⟩
 exact ⟨rfl, hd⟩

end Go.Proofs.Ytkadhadceongiaa.G
