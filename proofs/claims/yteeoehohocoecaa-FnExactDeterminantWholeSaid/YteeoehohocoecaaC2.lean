/- The printed functions that this law reaches, and their contracts: part 2. -/
-- printed by this repo's wip/printer out of the kit's print with its own changes
import Derived.Test.YteeoehohocoecaaC1
namespace Go.Proofs.Yteeoehohocoecaa.G
open Go.RowKit Go.Proofs.YteeoehohocoecaaW.PrintWords Go.Proofs.YteeoehohocoecaaW.PrintLast Go.Proofs.YteeoehohocoecaaW.PrintMore
attribute [local go_sem] max2_int min2_int max_two min_two max_three min_three max_four min_four   -- for this text's walks alone
set_option linter.unusedVariables false
set_option linter.unusedSimpArgs false

/-! ### laws_FnExactDeterminantWhole: function 3 -/
def laws_FnExactDeterminantWhole.f (k : Nat) (l0 : List (List Int)) : Option (Bool) := (laws_szInt64SS.f k l0 1048576).bind fun t257 => (if t257 < 0 then (some true) else ((laws_toInt64SS.f k l0).bind fun t258 => ((spec_DeterminantWhole.f k t258).bind fun bt261 => ((laws_toInt64SS.f k l0).bind fun t265 => ((impl_DeterminantWhole.f k t265).bind fun bt268 => ((laws_eqInt64S.f k bt268.1 bt261.1).bind fun t272 => (if t272 = true then (if bt268.2 = bt261.2 then ((laws_toInt64SS.f k l0).bind fun t273 => ((laws_eqInt64SS.f k t265 t273).bind fun t276 => (if t276 = true then ((laws_markInt64SS.f k t265 1).bind fun bt277 => (if bt277.1 < 0 then (some false) else ((laws_eqInt64S.f k bt268.1 bt261.1).bind fun t279 => (if t279 = true then ((laws_markInt64S.f k bt268.1 1).bind fun bt280 => ((laws_heldInt64S.f k bt280.2 1).bind fun t282 => (if t282 < 0 then (some false) else (if t282 = bt280.1 then ((laws_toInt64SS.f k l0).bind fun t283 => ((impl_DeterminantWhole.f k t283).bind fun bt286 => ((laws_eqInt64S.f k bt286.1 bt261.1).bind fun t290 => (if t290 = true then (if bt286.2 = bt261.2 then ((laws_heldInt64S.f k bt280.2 1).bind fun t291 => (if t291 < 0 then (some false) else (if t291 = bt280.1 then (some true) else (some false)))) else (some false)) else (some false))))) else (some false))))) else (some false))))) else (some false)))) else (some false)) else (some false))))))))
theorem laws_FnExactDeterminantWhole.mono : ∀ a0 k, LeO (laws_FnExactDeterminantWhole.f k a0) (laws_FnExactDeterminantWhole.f (k + 1) a0) := by
  intro a0 k
  unfold laws_FnExactDeterminantWhole.f
  repeat' first
      | (with_reducible exact impl_DeterminantWhole.mono _ _)
      | (with_reducible exact laws_eqInt64S.mono _ _ _)
      | (with_reducible exact laws_eqInt64SS.mono _ _ _)
      | (with_reducible exact laws_heldInt64S.mono _ _ _)
      | (with_reducible exact laws_markInt64S.mono _ _ _)
      | (with_reducible exact laws_markInt64SS.mono _ _ _)
      | (with_reducible exact laws_szInt64SS.mono _ _ _)
      | (with_reducible exact laws_toInt64SS.mono _ _)
      | (with_reducible exact spec_DeterminantWhole.mono _ _)
      | (with_reducible exact LeO.refl _)
      | (with_reducible exact LeO.none _)
      | (with_reducible refine LeO.ite ?_ ?_)
      | (with_reducible refine LeO.bind ?_ (fun _ => ?_))
      | exact impl_DeterminantWhole.mono _ _
      | exact laws_eqInt64S.mono _ _ _
      | exact laws_eqInt64SS.mono _ _ _
      | exact laws_heldInt64S.mono _ _ _
      | exact laws_markInt64S.mono _ _ _
      | exact laws_markInt64SS.mono _ _ _
      | exact laws_szInt64SS.mono _ _ _
      | exact laws_toInt64SS.mono _ _
      | exact spec_DeterminantWhole.mono _ _
      | exact LeO.none _
      | refine LeO.ite ?_ ?_
      | refine LeO.bind ?_ (fun _ => ?_)
set_option maxHeartbeats 8000000 in
set_option maxRecDepth 100000 in
theorem laws_FnExactDeterminantWhole.calls (k : Nat) (A0 : Option Addr) (c0 : Nat) (l0 : List (List Int)) (w : World) (hr0 : Kd.C (Kd.slice 2 (Kd.int .i64)) w A0 l0.length l0) (hc0 : l0.length ≤ c0) (h : laws_FnExactDeterminantWhole.f k l0 = some true) :
    Calls Try.prog 3 #[.slice A0 l0.length c0] w fun e w' => e = .returned (.bool true) ∧ Below w.heap.size w w' := by
  have HR0 := Aside0.mk hr0
  have HC0 := Aside0.mk hc0
  clear hr0 hc0
  have HB := Aside0.mk (Below.refl w.heap.size w)
  have H : ((laws_szInt64SS.f k l0 1048576).bind fun t257 => (if t257 < 0 then (some true) else ((laws_toInt64SS.f k l0).bind fun t258 => ((spec_DeterminantWhole.f k t258).bind fun bt261 => ((laws_toInt64SS.f k l0).bind fun t265 => ((impl_DeterminantWhole.f k t265).bind fun bt268 => ((laws_eqInt64S.f k bt268.1 bt261.1).bind fun t272 => (if t272 = true then (if bt268.2 = bt261.2 then ((laws_toInt64SS.f k l0).bind fun t273 => ((laws_eqInt64SS.f k t265 t273).bind fun t276 => (if t276 = true then ((laws_markInt64SS.f k t265 1).bind fun bt277 => (if bt277.1 < 0 then (some false) else ((laws_eqInt64S.f k bt268.1 bt261.1).bind fun t279 => (if t279 = true then ((laws_markInt64S.f k bt268.1 1).bind fun bt280 => ((laws_heldInt64S.f k bt280.2 1).bind fun t282 => (if t282 < 0 then (some false) else (if t282 = bt280.1 then ((laws_toInt64SS.f k l0).bind fun t283 => ((impl_DeterminantWhole.f k t283).bind fun bt286 => ((laws_eqInt64S.f k bt286.1 bt261.1).bind fun t290 => (if t290 = true then (if bt286.2 = bt261.2 then ((laws_heldInt64S.f k bt280.2 1).bind fun t291 => (if t291 < 0 then (some false) else (if t291 = bt280.1 then (some true) else (some false)))) else (some false)) else (some false))))) else (some false))))) else (some false))))) else (some false)))) else (some false)) else (some false))))))))) = some true := h
  clear h
  replace H := Option.bind_eq_some_iff.mp H
  obtain ⟨t257, A20, H⟩ := H
  replace H : (if t257 < 0 then (some true) else ((laws_toInt64SS.f k l0).bind fun t258 => ((spec_DeterminantWhole.f k t258).bind fun bt261 => ((laws_toInt64SS.f k l0).bind fun t265 => ((impl_DeterminantWhole.f k t265).bind fun bt268 => ((laws_eqInt64S.f k bt268.1 bt261.1).bind fun t272 => (if t272 = true then (if bt268.2 = bt261.2 then ((laws_toInt64SS.f k l0).bind fun t273 => ((laws_eqInt64SS.f k t265 t273).bind fun t276 => (if t276 = true then ((laws_markInt64SS.f k t265 1).bind fun bt277 => (if bt277.1 < 0 then (some false) else ((laws_eqInt64S.f k bt268.1 bt261.1).bind fun t279 => (if t279 = true then ((laws_markInt64S.f k bt268.1 1).bind fun bt280 => ((laws_heldInt64S.f k bt280.2 1).bind fun t282 => (if t282 < 0 then (some false) else (if t282 = bt280.1 then ((laws_toInt64SS.f k l0).bind fun t283 => ((impl_DeterminantWhole.f k t283).bind fun bt286 => ((laws_eqInt64S.f k bt286.1 bt261.1).bind fun t290 => (if t290 = true then (if bt286.2 = bt261.2 then ((laws_heldInt64S.f k bt280.2 1).bind fun t291 => (if t291 < 0 then (some false) else (if t291 = bt280.1 then (some true) else (some false)))) else (some false)) else (some false))))) else (some false))))) else (some false))))) else (some false)))) else (some false)) else (some false)))))))) = some true := H
  have A2 := Aside0.mk A20
  clear A20
  by_cases c3 : t257 < 0
  · rw [if_pos c3] at H
    have c3b0 : decide (t257 < 0) = true := decide_eq_true c3
    clear c3
    try clear H
    go_enter Try.func3, Try.ntmps3
    go_wp2_with (first | ((with_reducible refine gate_callee (f := 15) rfl ?_); refine goesL_ (some 16) rfl rfl Try.func15 (by kernel_rfl) rfl #[.slice A0 l0.length c0, .int .i64 1048576] rfl (by (try simp only [List.map_toArray, List.map_cons, List.map_nil]); first | done | rfl) ?_; (with_reducible refine (laws_szInt64SS.calls k _ _ l0 1048576 t257 _ ?side1 ?side2 A2.out).mono ?_); (case side1 => exact (Kd.C_below HR0.out HB.out)); (case side2 => exact HC0.out); rintro e w4 ⟨rfl, hd_⟩; refine ⟨_, rfl, ?_⟩; have hb := hd_.below; have n0_ := Aside0.mk (below_step HB.out hb); have n1_ := Aside0.mk (hb.size); clear HB; have HB := n0_; have Zw4 := n1_; clear n0_ n1_; (try clear hb); (try clear hkp); (try clear hd_)))
    go_ret
    exact ⟨by first | rfl | (simp [errW_none, errW_some] <;> rfl) | (simp [*, errW_none, errW_some] <;> rfl), by repeat (first | (with_reducible first | exact HB.out | apply below_alloc | apply pw_below_drewN | apply below_drew1) | exact HB.out)⟩
  · rw [if_neg c3] at H
    have c3b0 : decide (t257 < 0) = false := decide_eq_false c3
    clear c3
    replace H := Option.bind_eq_some_iff.mp H
    obtain ⟨t258, A50, H⟩ := H
    replace H : ((spec_DeterminantWhole.f k t258).bind fun bt261 => ((laws_toInt64SS.f k l0).bind fun t265 => ((impl_DeterminantWhole.f k t265).bind fun bt268 => ((laws_eqInt64S.f k bt268.1 bt261.1).bind fun t272 => (if t272 = true then (if bt268.2 = bt261.2 then ((laws_toInt64SS.f k l0).bind fun t273 => ((laws_eqInt64SS.f k t265 t273).bind fun t276 => (if t276 = true then ((laws_markInt64SS.f k t265 1).bind fun bt277 => (if bt277.1 < 0 then (some false) else ((laws_eqInt64S.f k bt268.1 bt261.1).bind fun t279 => (if t279 = true then ((laws_markInt64S.f k bt268.1 1).bind fun bt280 => ((laws_heldInt64S.f k bt280.2 1).bind fun t282 => (if t282 < 0 then (some false) else (if t282 = bt280.1 then ((laws_toInt64SS.f k l0).bind fun t283 => ((impl_DeterminantWhole.f k t283).bind fun bt286 => ((laws_eqInt64S.f k bt286.1 bt261.1).bind fun t290 => (if t290 = true then (if bt286.2 = bt261.2 then ((laws_heldInt64S.f k bt280.2 1).bind fun t291 => (if t291 < 0 then (some false) else (if t291 = bt280.1 then (some true) else (some false)))) else (some false)) else (some false))))) else (some false))))) else (some false))))) else (some false)))) else (some false)) else (some false)))))) = some true := H
    have A5 := Aside0.mk A50
    clear A50
    replace H := Option.bind_eq_some_iff.mp H
    obtain ⟨⟨t261, t262⟩, A60, H⟩ := H
    replace H : ((laws_toInt64SS.f k l0).bind fun t265 => ((impl_DeterminantWhole.f k t265).bind fun bt268 => ((laws_eqInt64S.f k bt268.1 t261).bind fun t272 => (if t272 = true then (if bt268.2 = t262 then ((laws_toInt64SS.f k l0).bind fun t273 => ((laws_eqInt64SS.f k t265 t273).bind fun t276 => (if t276 = true then ((laws_markInt64SS.f k t265 1).bind fun bt277 => (if bt277.1 < 0 then (some false) else ((laws_eqInt64S.f k bt268.1 t261).bind fun t279 => (if t279 = true then ((laws_markInt64S.f k bt268.1 1).bind fun bt280 => ((laws_heldInt64S.f k bt280.2 1).bind fun t282 => (if t282 < 0 then (some false) else (if t282 = bt280.1 then ((laws_toInt64SS.f k l0).bind fun t283 => ((impl_DeterminantWhole.f k t283).bind fun bt286 => ((laws_eqInt64S.f k bt286.1 t261).bind fun t290 => (if t290 = true then (if bt286.2 = t262 then ((laws_heldInt64S.f k bt280.2 1).bind fun t291 => (if t291 < 0 then (some false) else (if t291 = bt280.1 then (some true) else (some false)))) else (some false)) else (some false))))) else (some false))))) else (some false))))) else (some false)))) else (some false)) else (some false))))) = some true := H
    have A6 := Aside0.mk A60
    clear A60
    replace H := Option.bind_eq_some_iff.mp H
    obtain ⟨t265, A70, H⟩ := H
    replace H : ((impl_DeterminantWhole.f k t265).bind fun bt268 => ((laws_eqInt64S.f k bt268.1 t261).bind fun t272 => (if t272 = true then (if bt268.2 = t262 then ((laws_toInt64SS.f k l0).bind fun t273 => ((laws_eqInt64SS.f k t265 t273).bind fun t276 => (if t276 = true then ((laws_markInt64SS.f k t265 1).bind fun bt277 => (if bt277.1 < 0 then (some false) else ((laws_eqInt64S.f k bt268.1 t261).bind fun t279 => (if t279 = true then ((laws_markInt64S.f k bt268.1 1).bind fun bt280 => ((laws_heldInt64S.f k bt280.2 1).bind fun t282 => (if t282 < 0 then (some false) else (if t282 = bt280.1 then ((laws_toInt64SS.f k l0).bind fun t283 => ((impl_DeterminantWhole.f k t283).bind fun bt286 => ((laws_eqInt64S.f k bt286.1 t261).bind fun t290 => (if t290 = true then (if bt286.2 = t262 then ((laws_heldInt64S.f k bt280.2 1).bind fun t291 => (if t291 < 0 then (some false) else (if t291 = bt280.1 then (some true) else (some false)))) else (some false)) else (some false))))) else (some false))))) else (some false))))) else (some false)))) else (some false)) else (some false)))) = some true := H
    have A7 := Aside0.mk A70
    clear A70
    replace H := Option.bind_eq_some_iff.mp H
    obtain ⟨⟨t268, t269⟩, A80, H⟩ := H
    replace H : ((laws_eqInt64S.f k t268 t261).bind fun t272 => (if t272 = true then (if t269 = t262 then ((laws_toInt64SS.f k l0).bind fun t273 => ((laws_eqInt64SS.f k t265 t273).bind fun t276 => (if t276 = true then ((laws_markInt64SS.f k t265 1).bind fun bt277 => (if bt277.1 < 0 then (some false) else ((laws_eqInt64S.f k t268 t261).bind fun t279 => (if t279 = true then ((laws_markInt64S.f k t268 1).bind fun bt280 => ((laws_heldInt64S.f k bt280.2 1).bind fun t282 => (if t282 < 0 then (some false) else (if t282 = bt280.1 then ((laws_toInt64SS.f k l0).bind fun t283 => ((impl_DeterminantWhole.f k t283).bind fun bt286 => ((laws_eqInt64S.f k bt286.1 t261).bind fun t290 => (if t290 = true then (if bt286.2 = t262 then ((laws_heldInt64S.f k bt280.2 1).bind fun t291 => (if t291 < 0 then (some false) else (if t291 = bt280.1 then (some true) else (some false)))) else (some false)) else (some false))))) else (some false))))) else (some false))))) else (some false)))) else (some false)) else (some false))) = some true := H
    have A8 := Aside0.mk A80
    clear A80
    replace H := Option.bind_eq_some_iff.mp H
    obtain ⟨t272, A90, H⟩ := H
    replace H : (if t272 = true then (if t269 = t262 then ((laws_toInt64SS.f k l0).bind fun t273 => ((laws_eqInt64SS.f k t265 t273).bind fun t276 => (if t276 = true then ((laws_markInt64SS.f k t265 1).bind fun bt277 => (if bt277.1 < 0 then (some false) else ((laws_eqInt64S.f k t268 t261).bind fun t279 => (if t279 = true then ((laws_markInt64S.f k t268 1).bind fun bt280 => ((laws_heldInt64S.f k bt280.2 1).bind fun t282 => (if t282 < 0 then (some false) else (if t282 = bt280.1 then ((laws_toInt64SS.f k l0).bind fun t283 => ((impl_DeterminantWhole.f k t283).bind fun bt286 => ((laws_eqInt64S.f k bt286.1 t261).bind fun t290 => (if t290 = true then (if bt286.2 = t262 then ((laws_heldInt64S.f k bt280.2 1).bind fun t291 => (if t291 < 0 then (some false) else (if t291 = bt280.1 then (some true) else (some false)))) else (some false)) else (some false))))) else (some false))))) else (some false))))) else (some false)))) else (some false)) else (some false)) = some true := H
    have A9 := Aside0.mk A90
    clear A90
    by_cases c10 : t272 = true
    · subst c10
      have H1 : (if t269 = t262 then ((laws_toInt64SS.f k l0).bind fun t273 => ((laws_eqInt64SS.f k t265 t273).bind fun t276 => (if t276 = true then ((laws_markInt64SS.f k t265 1).bind fun bt277 => (if bt277.1 < 0 then (some false) else ((laws_eqInt64S.f k t268 t261).bind fun t279 => (if t279 = true then ((laws_markInt64S.f k t268 1).bind fun bt280 => ((laws_heldInt64S.f k bt280.2 1).bind fun t282 => (if t282 < 0 then (some false) else (if t282 = bt280.1 then ((laws_toInt64SS.f k l0).bind fun t283 => ((impl_DeterminantWhole.f k t283).bind fun bt286 => ((laws_eqInt64S.f k bt286.1 t261).bind fun t290 => (if t290 = true then (if bt286.2 = t262 then ((laws_heldInt64S.f k bt280.2 1).bind fun t291 => (if t291 < 0 then (some false) else (if t291 = bt280.1 then (some true) else (some false)))) else (some false)) else (some false))))) else (some false))))) else (some false))))) else (some false)))) else (some false)) = some true := by rw [if_pos rfl] at H; exact H
      clear H
      have H := H1
      clear H1
      by_cases c11 : t269 = t262
      · rw [if_pos c11] at H
        have c11b0 : (t269 == t262) = true := beq_iff_eq.mpr c11
        have c11b1 : (t269 != t262) = false := bne_eq_false_iff_eq.mpr c11
        clear c11
        replace H := Option.bind_eq_some_iff.mp H
        obtain ⟨t273, A120, H⟩ := H
        replace H : ((laws_eqInt64SS.f k t265 t273).bind fun t276 => (if t276 = true then ((laws_markInt64SS.f k t265 1).bind fun bt277 => (if bt277.1 < 0 then (some false) else ((laws_eqInt64S.f k t268 t261).bind fun t279 => (if t279 = true then ((laws_markInt64S.f k t268 1).bind fun bt280 => ((laws_heldInt64S.f k bt280.2 1).bind fun t282 => (if t282 < 0 then (some false) else (if t282 = bt280.1 then ((laws_toInt64SS.f k l0).bind fun t283 => ((impl_DeterminantWhole.f k t283).bind fun bt286 => ((laws_eqInt64S.f k bt286.1 t261).bind fun t290 => (if t290 = true then (if bt286.2 = t262 then ((laws_heldInt64S.f k bt280.2 1).bind fun t291 => (if t291 < 0 then (some false) else (if t291 = bt280.1 then (some true) else (some false)))) else (some false)) else (some false))))) else (some false))))) else (some false))))) else (some false))) = some true := H
        have A12 := Aside0.mk A120
        clear A120
        replace H := Option.bind_eq_some_iff.mp H
        obtain ⟨t276, A130, H⟩ := H
        replace H : (if t276 = true then ((laws_markInt64SS.f k t265 1).bind fun bt277 => (if bt277.1 < 0 then (some false) else ((laws_eqInt64S.f k t268 t261).bind fun t279 => (if t279 = true then ((laws_markInt64S.f k t268 1).bind fun bt280 => ((laws_heldInt64S.f k bt280.2 1).bind fun t282 => (if t282 < 0 then (some false) else (if t282 = bt280.1 then ((laws_toInt64SS.f k l0).bind fun t283 => ((impl_DeterminantWhole.f k t283).bind fun bt286 => ((laws_eqInt64S.f k bt286.1 t261).bind fun t290 => (if t290 = true then (if bt286.2 = t262 then ((laws_heldInt64S.f k bt280.2 1).bind fun t291 => (if t291 < 0 then (some false) else (if t291 = bt280.1 then (some true) else (some false)))) else (some false)) else (some false))))) else (some false))))) else (some false))))) else (some false)) = some true := H
        have A13 := Aside0.mk A130
        clear A130
        by_cases c14 : t276 = true
        · subst c14
          have H1 : ((laws_markInt64SS.f k t265 1).bind fun bt277 => (if bt277.1 < 0 then (some false) else ((laws_eqInt64S.f k t268 t261).bind fun t279 => (if t279 = true then ((laws_markInt64S.f k t268 1).bind fun bt280 => ((laws_heldInt64S.f k bt280.2 1).bind fun t282 => (if t282 < 0 then (some false) else (if t282 = bt280.1 then ((laws_toInt64SS.f k l0).bind fun t283 => ((impl_DeterminantWhole.f k t283).bind fun bt286 => ((laws_eqInt64S.f k bt286.1 t261).bind fun t290 => (if t290 = true then (if bt286.2 = t262 then ((laws_heldInt64S.f k bt280.2 1).bind fun t291 => (if t291 < 0 then (some false) else (if t291 = bt280.1 then (some true) else (some false)))) else (some false)) else (some false))))) else (some false))))) else (some false))))) = some true := by rw [if_pos rfl] at H; exact H
          clear H
          have H := H1
          clear H1
          replace H := Option.bind_eq_some_iff.mp H
          obtain ⟨⟨t277, t278⟩, A150, H⟩ := H
          replace H : (if t277 < 0 then (some false) else ((laws_eqInt64S.f k t268 t261).bind fun t279 => (if t279 = true then ((laws_markInt64S.f k t268 1).bind fun bt280 => ((laws_heldInt64S.f k bt280.2 1).bind fun t282 => (if t282 < 0 then (some false) else (if t282 = bt280.1 then ((laws_toInt64SS.f k l0).bind fun t283 => ((impl_DeterminantWhole.f k t283).bind fun bt286 => ((laws_eqInt64S.f k bt286.1 t261).bind fun t290 => (if t290 = true then (if bt286.2 = t262 then ((laws_heldInt64S.f k bt280.2 1).bind fun t291 => (if t291 < 0 then (some false) else (if t291 = bt280.1 then (some true) else (some false)))) else (some false)) else (some false))))) else (some false))))) else (some false)))) = some true := H
          have A15 := Aside0.mk A150
          clear A150
          by_cases c16 : t277 < 0
          · rw [if_pos c16] at H
            have c16b0 : decide (t277 < 0) = true := decide_eq_true c16
            clear c16
            exact absurd H (by simp)
          · rw [if_neg c16] at H
            have c16b0 : decide (t277 < 0) = false := decide_eq_false c16
            clear c16
            replace H := Option.bind_eq_some_iff.mp H
            obtain ⟨t279, A170, H⟩ := H
            replace H : (if t279 = true then ((laws_markInt64S.f k t268 1).bind fun bt280 => ((laws_heldInt64S.f k bt280.2 1).bind fun t282 => (if t282 < 0 then (some false) else (if t282 = bt280.1 then ((laws_toInt64SS.f k l0).bind fun t283 => ((impl_DeterminantWhole.f k t283).bind fun bt286 => ((laws_eqInt64S.f k bt286.1 t261).bind fun t290 => (if t290 = true then (if bt286.2 = t262 then ((laws_heldInt64S.f k bt280.2 1).bind fun t291 => (if t291 < 0 then (some false) else (if t291 = bt280.1 then (some true) else (some false)))) else (some false)) else (some false))))) else (some false))))) else (some false)) = some true := H
            have A17 := Aside0.mk A170
            clear A170
            by_cases c18 : t279 = true
            · subst c18
              have H1 : ((laws_markInt64S.f k t268 1).bind fun bt280 => ((laws_heldInt64S.f k bt280.2 1).bind fun t282 => (if t282 < 0 then (some false) else (if t282 = bt280.1 then ((laws_toInt64SS.f k l0).bind fun t283 => ((impl_DeterminantWhole.f k t283).bind fun bt286 => ((laws_eqInt64S.f k bt286.1 t261).bind fun t290 => (if t290 = true then (if bt286.2 = t262 then ((laws_heldInt64S.f k bt280.2 1).bind fun t291 => (if t291 < 0 then (some false) else (if t291 = bt280.1 then (some true) else (some false)))) else (some false)) else (some false))))) else (some false))))) = some true := by rw [if_pos rfl] at H; exact H
              clear H
              have H := H1
              clear H1
              replace H := Option.bind_eq_some_iff.mp H
              obtain ⟨⟨t280, t281⟩, A190, H⟩ := H
              replace H : ((laws_heldInt64S.f k t281 1).bind fun t282 => (if t282 < 0 then (some false) else (if t282 = t280 then ((laws_toInt64SS.f k l0).bind fun t283 => ((impl_DeterminantWhole.f k t283).bind fun bt286 => ((laws_eqInt64S.f k bt286.1 t261).bind fun t290 => (if t290 = true then (if bt286.2 = t262 then ((laws_heldInt64S.f k t281 1).bind fun t291 => (if t291 < 0 then (some false) else (if t291 = t280 then (some true) else (some false)))) else (some false)) else (some false))))) else (some false)))) = some true := H
              have A19 := Aside0.mk A190
              clear A190
              replace H := Option.bind_eq_some_iff.mp H
              obtain ⟨t282, A200, H⟩ := H
              replace H : (if t282 < 0 then (some false) else (if t282 = t280 then ((laws_toInt64SS.f k l0).bind fun t283 => ((impl_DeterminantWhole.f k t283).bind fun bt286 => ((laws_eqInt64S.f k bt286.1 t261).bind fun t290 => (if t290 = true then (if bt286.2 = t262 then ((laws_heldInt64S.f k t281 1).bind fun t291 => (if t291 < 0 then (some false) else (if t291 = t280 then (some true) else (some false)))) else (some false)) else (some false))))) else (some false))) = some true := H
              have A20 := Aside0.mk A200
              clear A200
              by_cases c21 : t282 < 0
              · rw [if_pos c21] at H
                have c21b0 : decide (t282 < 0) = true := decide_eq_true c21
                clear c21
                exact absurd H (by simp)
              · rw [if_neg c21] at H
                have c21b0 : decide (t282 < 0) = false := decide_eq_false c21
                clear c21
                by_cases c22 : t282 = t280
                · rw [if_pos c22] at H
                  have c22b0 : (t282 == t280) = true := beq_iff_eq.mpr c22
                  have c22b1 : (t282 != t280) = false := bne_eq_false_iff_eq.mpr c22
                  clear c22
                  replace H := Option.bind_eq_some_iff.mp H
                  obtain ⟨t283, A230, H⟩ := H
                  replace H : ((impl_DeterminantWhole.f k t283).bind fun bt286 => ((laws_eqInt64S.f k bt286.1 t261).bind fun t290 => (if t290 = true then (if bt286.2 = t262 then ((laws_heldInt64S.f k t281 1).bind fun t291 => (if t291 < 0 then (some false) else (if t291 = t280 then (some true) else (some false)))) else (some false)) else (some false)))) = some true := H
                  have A23 := Aside0.mk A230
                  clear A230
                  replace H := Option.bind_eq_some_iff.mp H
                  obtain ⟨⟨t286, t287⟩, A240, H⟩ := H
                  replace H : ((laws_eqInt64S.f k t286 t261).bind fun t290 => (if t290 = true then (if t287 = t262 then ((laws_heldInt64S.f k t281 1).bind fun t291 => (if t291 < 0 then (some false) else (if t291 = t280 then (some true) else (some false)))) else (some false)) else (some false))) = some true := H
                  have A24 := Aside0.mk A240
                  clear A240
                  replace H := Option.bind_eq_some_iff.mp H
                  obtain ⟨t290, A250, H⟩ := H
                  replace H : (if t290 = true then (if t287 = t262 then ((laws_heldInt64S.f k t281 1).bind fun t291 => (if t291 < 0 then (some false) else (if t291 = t280 then (some true) else (some false)))) else (some false)) else (some false)) = some true := H
                  have A25 := Aside0.mk A250
                  clear A250
                  by_cases c26 : t290 = true
                  · subst c26
                    have H1 : (if t287 = t262 then ((laws_heldInt64S.f k t281 1).bind fun t291 => (if t291 < 0 then (some false) else (if t291 = t280 then (some true) else (some false)))) else (some false)) = some true := by rw [if_pos rfl] at H; exact H
                    clear H
                    have H := H1
                    clear H1
                    by_cases c27 : t287 = t262
                    · rw [if_pos c27] at H
                      have c27b0 : (t287 == t262) = true := beq_iff_eq.mpr c27
                      have c27b1 : (t287 != t262) = false := bne_eq_false_iff_eq.mpr c27
                      clear c27
                      replace H := Option.bind_eq_some_iff.mp H
                      obtain ⟨t291, A280, H⟩ := H
                      replace H : (if t291 < 0 then (some false) else (if t291 = t280 then (some true) else (some false))) = some true := H
                      have A28 := Aside0.mk A280
                      clear A280
                      by_cases c29 : t291 < 0
                      · rw [if_pos c29] at H
                        have c29b0 : decide (t291 < 0) = true := decide_eq_true c29
                        clear c29
                        exact absurd H (by simp)
                      · rw [if_neg c29] at H
                        have c29b0 : decide (t291 < 0) = false := decide_eq_false c29
                        clear c29
                        by_cases c30 : t291 = t280
                        · rw [if_pos c30] at H
                          have c30b0 : (t291 == t280) = true := beq_iff_eq.mpr c30
                          have c30b1 : (t291 != t280) = false := bne_eq_false_iff_eq.mpr c30
                          clear c30
                          try clear H
                          go_enter Try.func3, Try.ntmps3
                          go_wp2_with (first | ((with_reducible refine gate_callee (f := 15) rfl ?_); refine goesL_ (some 16) rfl rfl Try.func15 (by kernel_rfl) rfl #[.slice A0 l0.length c0, .int .i64 1048576] rfl (by (try simp only [List.map_toArray, List.map_cons, List.map_nil]); first | done | rfl) ?_; (with_reducible refine (laws_szInt64SS.calls k _ _ l0 1048576 t257 _ ?side1 ?side2 A2.out).mono ?_); (case side1 => exact (Kd.C_below HR0.out HB.out)); (case side2 => exact HC0.out); rintro e w31 ⟨rfl, hd_⟩; refine ⟨_, rfl, ?_⟩; have hb := hd_.below; have n0_ := Aside0.mk (below_step HB.out hb); have n1_ := Aside0.mk (hb.size); clear HB; have HB := n0_; have Zw31 := n1_; clear n0_ n1_; (try clear hb); (try clear hkp); (try clear hd_)) | ((with_reducible refine gate_callee (f := 17) rfl ?_); refine goesL_ (some 21) rfl rfl Try.func17 (by kernel_rfl) rfl #[.slice A0 l0.length c0] rfl (by (try simp only [List.map_toArray, List.map_cons, List.map_nil]); first | done | rfl) ?_; (with_reducible refine (laws_toInt64SS.calls k _ _ l0 t258 _ ?side1 ?side2 A5.out).mono ?_); (case side1 => exact (Kd.C_below HR0.out HB.out)); (case side2 => exact HC0.out); rintro e w32 ⟨v259, rfl, ho0, hb⟩; refine ⟨_, rfl, ?_⟩; have n0_ := Aside0.mk (Kd.S_lower (Kd.S_mono (Kd.S_bound ho0) (fun k_ hk_ => (⟨hk_.2.1, hk_.2.2.1⟩ : w31.heap.size ≤ k_ ∧ k_ < w32.heap.size))) HB.out.size); have n1_ := Aside0.mk (below_step HB.out hb); have n2_ := Aside0.mk (hb.size); clear HB; have HO260 := n0_; have HB := n1_; have Zw32 := n2_; clear n0_ n1_ n2_; (try clear hb); (try clear hkp); (try clear hd_); (try clear ho0); obtain ⟨Ao33, co33, eo33⟩ := Kd.S_slice HO260.out; subst eo33) | ((with_reducible refine gate_callee (f := 16) rfl ?_); refine goesL_ (some 22) rfl rfl Try.func16 (by kernel_rfl) rfl #[.slice Ao33 t258.length co33] rfl (by (try simp only [List.map_toArray, List.map_cons, List.map_nil]); first | done | rfl) ?_; (with_reducible refine (spec_DeterminantWhole.calls k _ _ t258 t261 t262 _ ?side1 ?side2 A6.out).mono ?_); (case side1 => exact (Kd.S_reads' HO260.out).2.2); (case side2 => (have e_ := Kd.S_reads' HO260.out; have e1_ := e_.1; have e2_ := e_.2.1; omega)); rintro e w34 ⟨v263, rfl, ho0, hb⟩; refine ⟨_, rfl, ?_⟩; have n0_ := Aside0.mk (Kd.S_below HO260.out hb); have n1_ := Aside0.mk (Kd.R_lower (Kd.R_mono (Kd.R_bound ho0) (fun k_ hk_ => (⟨hk_.2.1, hk_.2.2.1⟩ : w32.heap.size ≤ k_ ∧ k_ < w34.heap.size))) HB.out.size); have n2_ := Aside0.mk (below_step HB.out hb); have n3_ := Aside0.mk (hb.size); clear HO260; clear HB; have HO260 := n0_; have HO264 := n1_; have HB := n2_; have Zw34 := n3_; clear n0_ n1_ n2_ n3_; (try clear hb); (try clear hkp); (try clear hd_); (try clear ho0); obtain ⟨Ao35, co35, eo35⟩ := Kd.R_slice HO264.out; subst eo35) | ((with_reducible refine gate_callee (f := 17) rfl ?_); refine goesL_ (some 26) rfl rfl Try.func17 (by kernel_rfl) rfl #[.slice A0 l0.length c0] rfl (by (try simp only [List.map_toArray, List.map_cons, List.map_nil]); first | done | rfl) ?_; (with_reducible refine (laws_toInt64SS.calls k _ _ l0 t265 _ ?side1 ?side2 A7.out).mono ?_); (case side1 => exact (Kd.C_below HR0.out HB.out)); (case side2 => exact HC0.out); rintro e w36 ⟨v266, rfl, ho0, hb⟩; refine ⟨_, rfl, ?_⟩; have n0_ := Aside0.mk (Kd.S_below HO260.out hb); have n1_ := Aside0.mk (Kd.R_below HO264.out hb); have n2_ := Aside0.mk (Kd.S_lower (Kd.S_mono (Kd.S_bound ho0) (fun k_ hk_ => (⟨hk_.2.1, hk_.2.2.1⟩ : w34.heap.size ≤ k_ ∧ k_ < w36.heap.size))) HB.out.size); have n3_ := Aside0.mk (below_step HB.out hb); have n4_ := Aside0.mk (hb.size); clear HO260; clear HO264; clear HB; have HO260 := n0_; have HO264 := n1_; have HO267 := n2_; have HB := n3_; have Zw36 := n4_; clear n0_ n1_ n2_ n3_ n4_; (try clear hb); (try clear hkp); (try clear hd_); (try clear ho0); obtain ⟨Ao37, co37, eo37⟩ := Kd.S_slice HO267.out; subst eo37) | ((with_reducible refine gate_callee (f := 18) rfl ?_); refine goesL_ (some 29) rfl rfl Try.func18 (by kernel_rfl) rfl #[.slice Ao37 t265.length co37] rfl (by (try simp only [List.map_toArray, List.map_cons, List.map_nil]); first | done | rfl) ?_; (with_reducible refine (impl_DeterminantWhole.calls k _ _ t265 t268 t269 _ ?side1 ?side2 A8.out).mono ?_); (case side1 => exact (Kd.S_reads' HO267.out).2.2); (case side2 => (have e_ := Kd.S_reads' HO267.out; have e1_ := e_.1; have e2_ := e_.2.1; omega)); rintro e w38 ⟨v270, rfl, ho0, hb⟩; refine ⟨_, rfl, ?_⟩; have n0_ := Aside0.mk (Kd.S_below HO260.out hb); have n1_ := Aside0.mk (Kd.R_below HO264.out hb); have n2_ := Aside0.mk (Kd.S_below HO267.out hb); have n3_ := Aside0.mk (Kd.R_lower (Kd.R_mono (Kd.R_bound ho0) (fun k_ hk_ => (⟨hk_.2.1, hk_.2.2.1⟩ : w36.heap.size ≤ k_ ∧ k_ < w38.heap.size))) HB.out.size); have n4_ := Aside0.mk (below_step HB.out hb); have n5_ := Aside0.mk (hb.size); clear HO260; clear HO264; clear HO267; clear HB; have HO260 := n0_; have HO264 := n1_; have HO267 := n2_; have HO271 := n3_; have HB := n4_; have Zw38 := n5_; clear n0_ n1_ n2_ n3_ n4_ n5_; (try clear hb); (try clear hkp); (try clear hd_); (try clear ho0); obtain ⟨Ao39, co39, eo39⟩ := Kd.R_slice HO271.out; subst eo39) | ((with_reducible refine gate_callee (f := 19) rfl ?_); refine goesL_ (some 34) rfl rfl Try.func19 (by kernel_rfl) rfl #[.slice Ao39 t268.length co39, .slice Ao35 t261.length co35] rfl (by (try simp only [List.map_toArray, List.map_cons, List.map_nil]); first | done | rfl) ?_; (with_reducible refine (laws_eqInt64S.calls k _ _ t268 _ _ t261 true _ ?side1 ?side2 ?side3 ?side4 A9.out).mono ?_); (case side1 => exact (Kd.R_reads' HO271.out).2.2); (case side2 => (have e_ := Kd.R_reads' HO271.out; have e1_ := e_.1; have e2_ := e_.2.1; omega)); (case side3 => exact (Kd.R_reads' HO264.out).2.2); (case side4 => (have e_ := Kd.R_reads' HO264.out; have e1_ := e_.1; have e2_ := e_.2.1; omega)); rintro e w40 ⟨rfl, hd_⟩; refine ⟨_, rfl, ?_⟩; have hb := hd_.below; have n0_ := Aside0.mk (Kd.S_below HO260.out hb); have n1_ := Aside0.mk (Kd.R_below HO264.out hb); have n2_ := Aside0.mk (Kd.S_below HO267.out hb); have n3_ := Aside0.mk (Kd.R_below HO271.out hb); have n4_ := Aside0.mk (below_step HB.out hb); have n5_ := Aside0.mk (hb.size); clear HO260; clear HO264; clear HO267; clear HO271; clear HB; have HO260 := n0_; have HO264 := n1_; have HO267 := n2_; have HO271 := n3_; have HB := n4_; have Zw40 := n5_; clear n0_ n1_ n2_ n3_ n4_ n5_; (try clear hb); (try clear hkp); (try clear hd_)) | ((with_reducible refine gate_callee (f := 17) rfl ?_); refine goesL_ (some 43) rfl rfl Try.func17 (by kernel_rfl) rfl #[.slice A0 l0.length c0] rfl (by (try simp only [List.map_toArray, List.map_cons, List.map_nil]); first | done | rfl) ?_; (with_reducible refine (laws_toInt64SS.calls k _ _ l0 t273 _ ?side1 ?side2 A12.out).mono ?_); (case side1 => exact (Kd.C_below HR0.out HB.out)); (case side2 => exact HC0.out); rintro e w41 ⟨v274, rfl, ho0, hb⟩; refine ⟨_, rfl, ?_⟩; have n0_ := Aside0.mk (Kd.S_below HO260.out hb); have n1_ := Aside0.mk (Kd.R_below HO264.out hb); have n2_ := Aside0.mk (Kd.S_below HO267.out hb); have n3_ := Aside0.mk (Kd.R_below HO271.out hb); have n4_ := Aside0.mk (Kd.S_lower (Kd.S_mono (Kd.S_bound ho0) (fun k_ hk_ => (⟨hk_.2.1, hk_.2.2.1⟩ : w40.heap.size ≤ k_ ∧ k_ < w41.heap.size))) HB.out.size); have n5_ := Aside0.mk (below_step HB.out hb); have n6_ := Aside0.mk (hb.size); clear HO260; clear HO264; clear HO267; clear HO271; clear HB; have HO260 := n0_; have HO264 := n1_; have HO267 := n2_; have HO271 := n3_; have HO275 := n4_; have HB := n5_; have Zw41 := n6_; clear n0_ n1_ n2_ n3_ n4_ n5_ n6_; (try clear hb); (try clear hkp); (try clear hd_); (try clear ho0); obtain ⟨Ao42, co42, eo42⟩ := Kd.S_slice HO275.out; subst eo42) | ((with_reducible refine gate_callee (f := 20) rfl ?_); refine goesL_ (some 44) rfl rfl Try.func20 (by kernel_rfl) rfl #[.slice Ao37 t265.length co37, .slice Ao42 t273.length co42] rfl (by (try simp only [List.map_toArray, List.map_cons, List.map_nil]); first | done | rfl) ?_; (with_reducible refine (laws_eqInt64SS.calls k _ _ t265 _ _ t273 true _ ?side1 ?side2 ?side3 ?side4 A13.out).mono ?_); (case side1 => exact (Kd.S_reads' HO267.out).2.2); (case side2 => (have e_ := Kd.S_reads' HO267.out; have e1_ := e_.1; have e2_ := e_.2.1; omega)); (case side3 => exact (Kd.S_reads' HO275.out).2.2); (case side4 => (have e_ := Kd.S_reads' HO275.out; have e1_ := e_.1; have e2_ := e_.2.1; omega)); rintro e w43 ⟨rfl, hd_⟩; refine ⟨_, rfl, ?_⟩; have hb := hd_.below; have n0_ := Aside0.mk (Kd.S_below HO260.out hb); have n1_ := Aside0.mk (Kd.R_below HO264.out hb); have n2_ := Aside0.mk (Kd.S_below HO267.out hb); have n3_ := Aside0.mk (Kd.R_below HO271.out hb); have n4_ := Aside0.mk (Kd.S_below HO275.out hb); have n5_ := Aside0.mk (below_step HB.out hb); have n6_ := Aside0.mk (hb.size); clear HO260; clear HO264; clear HO267; clear HO271; clear HO275; clear HB; have HO260 := n0_; have HO264 := n1_; have HO267 := n2_; have HO271 := n3_; have HO275 := n4_; have HB := n5_; have Zw43 := n6_; clear n0_ n1_ n2_ n3_ n4_ n5_ n6_; (try clear hb); (try clear hkp); (try clear hd_)) | ((with_reducible refine gate_callee (f := 21) rfl ?_); refine goesL_ (some 48) rfl rfl Try.func21 (by kernel_rfl) rfl #[.slice Ao37 t265.length co37, .int .i64 1] rfl (by (try simp only [List.map_toArray, List.map_cons, List.map_nil]); first | done | rfl) ?_; (with_reducible refine (laws_markInt64SS.calls k (fun k_ => w34.heap.size ≤ k_ ∧ k_ < w36.heap.size) (.slice Ao37 t265.length co37) t265 1 t277 t278 w _ ?side1 ?side2 A15.out).mono ?_); (case side1 => exact HB.out); (case side2 => exact HO267.out); rintro e w44 ⟨rfl, hy0, hb, hkp⟩; refine ⟨_, rfl, ?_⟩; have n0_ := Aside0.mk (Kd.S_step HO260.out (fun k_ ho_ hl_ => hkp.2 k_ hl_ (fun hs_ => by have h1_ := ho_.1; have h2_ := ho_.2; have z0_ := Zw31.out; have z1_ := Zw32.out; have z2_ := Zw34.out; have z3_ := Zw36.out; have z4_ := Zw38.out; have z5_ := Zw40.out; have z6_ := Zw41.out; have z7_ := Zw43.out; have h3_ := hs_.1; have h4_ := hs_.2; omega))); have n1_ := Aside0.mk (Kd.R_step HO264.out (fun k_ ho_ hl_ => hkp.2 k_ hl_ (fun hs_ => by have h1_ := ho_.1; have h2_ := ho_.2; have z0_ := Zw31.out; have z1_ := Zw32.out; have z2_ := Zw34.out; have z3_ := Zw36.out; have z4_ := Zw38.out; have z5_ := Zw40.out; have z6_ := Zw41.out; have z7_ := Zw43.out; have h3_ := hs_.1; have h4_ := hs_.2; omega))); have n2_ := Aside0.mk (hy0); have n3_ := Aside0.mk (Kd.R_step HO271.out (fun k_ ho_ hl_ => hkp.2 k_ hl_ (fun hs_ => by have h1_ := ho_.1; have h2_ := ho_.2; have z0_ := Zw31.out; have z1_ := Zw32.out; have z2_ := Zw34.out; have z3_ := Zw36.out; have z4_ := Zw38.out; have z5_ := Zw40.out; have z6_ := Zw41.out; have z7_ := Zw43.out; have h3_ := hs_.1; have h4_ := hs_.2; omega))); have n4_ := Aside0.mk (Kd.S_step HO275.out (fun k_ ho_ hl_ => hkp.2 k_ hl_ (fun hs_ => by have h1_ := ho_.1; have h2_ := ho_.2; have z0_ := Zw31.out; have z1_ := Zw32.out; have z2_ := Zw34.out; have z3_ := Zw36.out; have z4_ := Zw38.out; have z5_ := Zw40.out; have z6_ := Zw41.out; have z7_ := Zw43.out; have h3_ := hs_.1; have h4_ := hs_.2; omega))); have n5_ := Aside0.mk (hb); have n6_ := Aside0.mk (hkp.1); clear HO260; clear HO264; clear HO267; clear HO271; clear HO275; clear HB; have HO260 := n0_; have HO264 := n1_; have HO267 := n2_; have HO271 := n3_; have HO275 := n4_; have HB := n5_; have Zw44 := n6_; clear n0_ n1_ n2_ n3_ n4_ n5_ n6_; (try clear hb); (try clear hkp); (try clear hd_); (try clear hy0)) | (go_at_call 19; (with_reducible refine (laws_eqInt64S.calls k _ _ t268 _ _ t261 true _ ?side1 ?side2 ?side3 ?side4 A17.out).mono ?_); (case side1 => exact (Kd.R_reads' HO271.out).2.2); (case side2 => (have e_ := Kd.R_reads' HO271.out; have e1_ := e_.1; have e2_ := e_.2.1; omega)); (case side3 => exact (Kd.R_reads' HO264.out).2.2); (case side4 => (have e_ := Kd.R_reads' HO264.out; have e1_ := e_.1; have e2_ := e_.2.1; omega)); rintro e w45 ⟨rfl, hd_⟩; have hb := hd_.below; have n0_ := Aside0.mk (Kd.S_below HO260.out hb); have n1_ := Aside0.mk (Kd.R_below HO264.out hb); have n2_ := Aside0.mk (Kd.S_below HO267.out hb); have n3_ := Aside0.mk (Kd.R_below HO271.out hb); have n4_ := Aside0.mk (Kd.S_below HO275.out hb); have n5_ := Aside0.mk (below_step HB.out hb); have n6_ := Aside0.mk (hb.size); clear HO260; clear HO264; clear HO267; clear HO271; clear HO275; clear HB; have HO260 := n0_; have HO264 := n1_; have HO267 := n2_; have HO271 := n3_; have HO275 := n4_; have HB := n5_; have Zw45 := n6_; clear n0_ n1_ n2_ n3_ n4_ n5_ n6_; (try clear hb); (try clear hkp); (try clear hd_)) | ((with_reducible refine gate_callee (f := 22) rfl ?_); refine goesL_ (some 64) rfl rfl Try.func22 (by kernel_rfl) rfl #[.slice Ao39 t268.length co39, .int .i64 1] rfl (by (try simp only [List.map_toArray, List.map_cons, List.map_nil]); first | done | rfl) ?_; (with_reducible refine (laws_markInt64S.calls k (fun k_ => w36.heap.size ≤ k_ ∧ k_ < w38.heap.size) (.slice Ao39 t268.length co39) t268 1 t280 t281 w _ ?side1 ?side2 A19.out).mono ?_); (case side1 => exact HB.out); (case side2 => exact HO271.out); rintro e w46 ⟨rfl, hy0, hb, hkp⟩; refine ⟨_, rfl, ?_⟩; have n0_ := Aside0.mk (Kd.S_step HO260.out (fun k_ ho_ hl_ => hkp.2 k_ hl_ (fun hs_ => by have h1_ := ho_.1; have h2_ := ho_.2; have z0_ := Zw31.out; have z1_ := Zw32.out; have z2_ := Zw34.out; have z3_ := Zw36.out; have z4_ := Zw38.out; have z5_ := Zw40.out; have z6_ := Zw41.out; have z7_ := Zw43.out; have z8_ := Zw44.out; have z9_ := Zw45.out; have h3_ := hs_.1; have h4_ := hs_.2; omega))); have n1_ := Aside0.mk (Kd.R_step HO264.out (fun k_ ho_ hl_ => hkp.2 k_ hl_ (fun hs_ => by have h1_ := ho_.1; have h2_ := ho_.2; have z0_ := Zw31.out; have z1_ := Zw32.out; have z2_ := Zw34.out; have z3_ := Zw36.out; have z4_ := Zw38.out; have z5_ := Zw40.out; have z6_ := Zw41.out; have z7_ := Zw43.out; have z8_ := Zw44.out; have z9_ := Zw45.out; have h3_ := hs_.1; have h4_ := hs_.2; omega))); have n2_ := Aside0.mk (Kd.S_step HO267.out (fun k_ ho_ hl_ => hkp.2 k_ hl_ (fun hs_ => by have h1_ := ho_.1; have h2_ := ho_.2; have z0_ := Zw31.out; have z1_ := Zw32.out; have z2_ := Zw34.out; have z3_ := Zw36.out; have z4_ := Zw38.out; have z5_ := Zw40.out; have z6_ := Zw41.out; have z7_ := Zw43.out; have z8_ := Zw44.out; have z9_ := Zw45.out; have h3_ := hs_.1; have h4_ := hs_.2; omega))); have n3_ := Aside0.mk (Kd.R_reok rfl hy0 (fun k_ e_ => HO271.out.1 k_ e_)); have n4_ := Aside0.mk (Kd.S_step HO275.out (fun k_ ho_ hl_ => hkp.2 k_ hl_ (fun hs_ => by have h1_ := ho_.1; have h2_ := ho_.2; have z0_ := Zw31.out; have z1_ := Zw32.out; have z2_ := Zw34.out; have z3_ := Zw36.out; have z4_ := Zw38.out; have z5_ := Zw40.out; have z6_ := Zw41.out; have z7_ := Zw43.out; have z8_ := Zw44.out; have z9_ := Zw45.out; have h3_ := hs_.1; have h4_ := hs_.2; omega))); have n5_ := Aside0.mk (hb); have n6_ := Aside0.mk (hkp.1); clear HO260; clear HO264; clear HO267; clear HO271; clear HO275; clear HB; have HO260 := n0_; have HO264 := n1_; have HO267 := n2_; have HO271 := n3_; have HO275 := n4_; have HB := n5_; have Zw46 := n6_; clear n0_ n1_ n2_ n3_ n4_ n5_ n6_; (try clear hb); (try clear hkp); (try clear hd_); (try clear hy0)) | ((with_reducible refine gate_callee (f := 23) rfl ?_); refine goesL_ (some 67) rfl rfl Try.func23 (by kernel_rfl) rfl #[.slice Ao39 t268.length co39, .int .i64 1] rfl (by (try simp only [List.map_toArray, List.map_cons, List.map_nil]); first | done | rfl) ?_; refine calls_of_args (args' := #[.slice Ao39 t281.length co39, .int .i64 1]) (by first | rfl | (rw [show t268.length = t281.length from (Kd.R_reads' HO271.out).1] <;> rfl) | (simp only [show t268.length = t281.length from (Kd.R_reads' HO271.out).1])) ?_; (with_reducible refine (laws_heldInt64S.calls k _ _ t281 1 t282 _ ?side1 ?side2 A20.out).mono ?_); (case side1 => exact (Kd.R_reads' HO271.out).2.2); (case side2 => (have e_ := Kd.R_reads' HO271.out; have e1_ := e_.1; have e2_ := e_.2.1; omega)); rintro e w47 ⟨rfl, hd_⟩; refine ⟨_, rfl, ?_⟩; have hb := hd_.below; have n0_ := Aside0.mk (Kd.S_below HO260.out hb); have n1_ := Aside0.mk (Kd.R_below HO264.out hb); have n2_ := Aside0.mk (Kd.S_below HO267.out hb); have n3_ := Aside0.mk (Kd.R_below HO271.out hb); have n4_ := Aside0.mk (Kd.S_below HO275.out hb); have n5_ := Aside0.mk (below_step HB.out hb); have n6_ := Aside0.mk (hb.size); clear HO260; clear HO264; clear HO267; clear HO271; clear HO275; clear HB; have HO260 := n0_; have HO264 := n1_; have HO267 := n2_; have HO271 := n3_; have HO275 := n4_; have HB := n5_; have Zw47 := n6_; clear n0_ n1_ n2_ n3_ n4_ n5_ n6_; (try clear hb); (try clear hkp); (try clear hd_)) | ((with_reducible refine gate_callee (f := 17) rfl ?_); refine goesL_ (some 75) rfl rfl Try.func17 (by kernel_rfl) rfl #[.slice A0 l0.length c0] rfl (by (try simp only [List.map_toArray, List.map_cons, List.map_nil]); first | done | rfl) ?_; (with_reducible refine (laws_toInt64SS.calls k _ _ l0 t283 _ ?side1 ?side2 A23.out).mono ?_); (case side1 => exact (Kd.C_below HR0.out HB.out)); (case side2 => exact HC0.out); rintro e w48 ⟨v284, rfl, ho0, hb⟩; refine ⟨_, rfl, ?_⟩; have n0_ := Aside0.mk (Kd.S_below HO260.out hb); have n1_ := Aside0.mk (Kd.R_below HO264.out hb); have n2_ := Aside0.mk (Kd.S_below HO267.out hb); have n3_ := Aside0.mk (Kd.R_below HO271.out hb); have n4_ := Aside0.mk (Kd.S_below HO275.out hb); have n5_ := Aside0.mk (Kd.S_lower (Kd.S_mono (Kd.S_bound ho0) (fun k_ hk_ => (⟨hk_.2.1, hk_.2.2.1⟩ : w47.heap.size ≤ k_ ∧ k_ < w48.heap.size))) HB.out.size); have n6_ := Aside0.mk (below_step HB.out hb); have n7_ := Aside0.mk (hb.size); clear HO260; clear HO264; clear HO267; clear HO271; clear HO275; clear HB; have HO260 := n0_; have HO264 := n1_; have HO267 := n2_; have HO271 := n3_; have HO275 := n4_; have HO285 := n5_; have HB := n6_; have Zw48 := n7_; clear n0_ n1_ n2_ n3_ n4_ n5_ n6_ n7_; (try clear hb); (try clear hkp); (try clear hd_); (try clear ho0); obtain ⟨Ao49, co49, eo49⟩ := Kd.S_slice HO285.out; subst eo49) | ((with_reducible refine gate_callee (f := 18) rfl ?_); refine goesL_ (some 76) rfl rfl Try.func18 (by kernel_rfl) rfl #[.slice Ao49 t283.length co49] rfl (by (try simp only [List.map_toArray, List.map_cons, List.map_nil]); first | done | rfl) ?_; (with_reducible refine (impl_DeterminantWhole.calls k _ _ t283 t286 t287 _ ?side1 ?side2 A24.out).mono ?_); (case side1 => exact (Kd.S_reads' HO285.out).2.2); (case side2 => (have e_ := Kd.S_reads' HO285.out; have e1_ := e_.1; have e2_ := e_.2.1; omega)); rintro e w50 ⟨v288, rfl, ho0, hb⟩; refine ⟨_, rfl, ?_⟩; have n0_ := Aside0.mk (Kd.S_below HO260.out hb); have n1_ := Aside0.mk (Kd.R_below HO264.out hb); have n2_ := Aside0.mk (Kd.S_below HO267.out hb); have n3_ := Aside0.mk (Kd.R_below HO271.out hb); have n4_ := Aside0.mk (Kd.S_below HO275.out hb); have n5_ := Aside0.mk (Kd.S_below HO285.out hb); have n6_ := Aside0.mk (Kd.R_lower (Kd.R_mono (Kd.R_bound ho0) (fun k_ hk_ => (⟨hk_.2.1, hk_.2.2.1⟩ : w48.heap.size ≤ k_ ∧ k_ < w50.heap.size))) HB.out.size); have n7_ := Aside0.mk (below_step HB.out hb); have n8_ := Aside0.mk (hb.size); clear HO260; clear HO264; clear HO267; clear HO271; clear HO275; clear HO285; clear HB; have HO260 := n0_; have HO264 := n1_; have HO267 := n2_; have HO271 := n3_; have HO275 := n4_; have HO285 := n5_; have HO289 := n6_; have HB := n7_; have Zw50 := n8_; clear n0_ n1_ n2_ n3_ n4_ n5_ n6_ n7_ n8_; (try clear hb); (try clear hkp); (try clear hd_); (try clear ho0); obtain ⟨Ao51, co51, eo51⟩ := Kd.R_slice HO289.out; subst eo51) | ((with_reducible refine gate_callee (f := 19) rfl ?_); refine goesL_ (some 81) rfl rfl Try.func19 (by kernel_rfl) rfl #[.slice Ao51 t286.length co51, .slice Ao35 t261.length co35] rfl (by (try simp only [List.map_toArray, List.map_cons, List.map_nil]); first | done | rfl) ?_; (with_reducible refine (laws_eqInt64S.calls k _ _ t286 _ _ t261 true _ ?side1 ?side2 ?side3 ?side4 A25.out).mono ?_); (case side1 => exact (Kd.R_reads' HO289.out).2.2); (case side2 => (have e_ := Kd.R_reads' HO289.out; have e1_ := e_.1; have e2_ := e_.2.1; omega)); (case side3 => exact (Kd.R_reads' HO264.out).2.2); (case side4 => (have e_ := Kd.R_reads' HO264.out; have e1_ := e_.1; have e2_ := e_.2.1; omega)); rintro e w52 ⟨rfl, hd_⟩; refine ⟨_, rfl, ?_⟩; have hb := hd_.below; have n0_ := Aside0.mk (Kd.S_below HO260.out hb); have n1_ := Aside0.mk (Kd.R_below HO264.out hb); have n2_ := Aside0.mk (Kd.S_below HO267.out hb); have n3_ := Aside0.mk (Kd.R_below HO271.out hb); have n4_ := Aside0.mk (Kd.S_below HO275.out hb); have n5_ := Aside0.mk (Kd.S_below HO285.out hb); have n6_ := Aside0.mk (Kd.R_below HO289.out hb); have n7_ := Aside0.mk (below_step HB.out hb); have n8_ := Aside0.mk (hb.size); clear HO260; clear HO264; clear HO267; clear HO271; clear HO275; clear HO285; clear HO289; clear HB; have HO260 := n0_; have HO264 := n1_; have HO267 := n2_; have HO271 := n3_; have HO275 := n4_; have HO285 := n5_; have HO289 := n6_; have HB := n7_; have Zw52 := n8_; clear n0_ n1_ n2_ n3_ n4_ n5_ n6_ n7_ n8_; (try clear hb); (try clear hkp); (try clear hd_)) | ((with_reducible refine gate_callee (f := 23) rfl ?_); refine goesL_ (some 90) rfl rfl Try.func23 (by kernel_rfl) rfl #[.slice Ao39 t268.length co39, .int .i64 1] rfl (by (try simp only [List.map_toArray, List.map_cons, List.map_nil]); first | done | rfl) ?_; refine calls_of_args (args' := #[.slice Ao39 t281.length co39, .int .i64 1]) (by first | rfl | (rw [show t268.length = t281.length from (Kd.R_reads' HO271.out).1] <;> rfl) | (simp only [show t268.length = t281.length from (Kd.R_reads' HO271.out).1])) ?_; (with_reducible refine (laws_heldInt64S.calls k _ _ t281 1 t291 _ ?side1 ?side2 A28.out).mono ?_); (case side1 => exact (Kd.R_reads' HO271.out).2.2); (case side2 => (have e_ := Kd.R_reads' HO271.out; have e1_ := e_.1; have e2_ := e_.2.1; omega)); rintro e w53 ⟨rfl, hd_⟩; refine ⟨_, rfl, ?_⟩; have hb := hd_.below; have n0_ := Aside0.mk (Kd.S_below HO260.out hb); have n1_ := Aside0.mk (Kd.R_below HO264.out hb); have n2_ := Aside0.mk (Kd.S_below HO267.out hb); have n3_ := Aside0.mk (Kd.R_below HO271.out hb); have n4_ := Aside0.mk (Kd.S_below HO275.out hb); have n5_ := Aside0.mk (Kd.S_below HO285.out hb); have n6_ := Aside0.mk (Kd.R_below HO289.out hb); have n7_ := Aside0.mk (below_step HB.out hb); have n8_ := Aside0.mk (hb.size); clear HO260; clear HO264; clear HO267; clear HO271; clear HO275; clear HO285; clear HO289; clear HB; have HO260 := n0_; have HO264 := n1_; have HO267 := n2_; have HO271 := n3_; have HO275 := n4_; have HO285 := n5_; have HO289 := n6_; have HB := n7_; have Zw53 := n8_; clear n0_ n1_ n2_ n3_ n4_ n5_ n6_ n7_ n8_; (try clear hb); (try clear hkp); (try clear hd_)))
                          go_ret
                          exact ⟨by first | rfl | (simp [errW_none, errW_some] <;> rfl) | (simp [*, errW_none, errW_some] <;> rfl), by repeat (first | (with_reducible first | exact HB.out | apply below_alloc | apply pw_below_drewN | apply below_drew1) | exact HB.out)⟩
                        · rw [if_neg c30] at H
                          have c30b0 : (t291 == t280) = false := beq_eq_false_iff_ne.mpr c30
                          have c30b1 : (t291 != t280) = true := bne_iff_ne.mpr c30
                          exact absurd H (by simp)
                    · rw [if_neg c27] at H
                      have c27b0 : (t287 == t262) = false := beq_eq_false_iff_ne.mpr c27
                      have c27b1 : (t287 != t262) = true := bne_iff_ne.mpr c27
                      exact absurd H (by simp)
                  · replace c26 := Bool.eq_false_iff.mpr c26
                    subst c26
                    have H1 : (some false) = some true := by rw [if_neg (show ¬ (false = true) by decide)] at H; exact H
                    clear H
                    have H := H1
                    clear H1
                    exact absurd H (by simp)
                · rw [if_neg c22] at H
                  have c22b0 : (t282 == t280) = false := beq_eq_false_iff_ne.mpr c22
                  have c22b1 : (t282 != t280) = true := bne_iff_ne.mpr c22
                  exact absurd H (by simp)
            · replace c18 := Bool.eq_false_iff.mpr c18
              subst c18
              have H1 : (some false) = some true := by rw [if_neg (show ¬ (false = true) by decide)] at H; exact H
              clear H
              have H := H1
              clear H1
              exact absurd H (by simp)
        · replace c14 := Bool.eq_false_iff.mpr c14
          subst c14
          have H1 : (some false) = some true := by rw [if_neg (show ¬ (false = true) by decide)] at H; exact H
          clear H
          have H := H1
          clear H1
          exact absurd H (by simp)
      · rw [if_neg c11] at H
        have c11b0 : (t269 == t262) = false := beq_eq_false_iff_ne.mpr c11
        have c11b1 : (t269 != t262) = true := bne_iff_ne.mpr c11
        exact absurd H (by simp)
    · replace c10 := Bool.eq_false_iff.mpr c10
      subst c10
      have H1 : (some false) = some true := by rw [if_neg (show ¬ (false = true) by decide)] at H; exact H
      clear H
      have H := H1
      clear H1
      exact absurd H (by simp)

/-- THE ONE PURE STATEMENT of laws_FnExactDeterminantWhole: yours. -/
def laws_FnExactDeterminantWhole.Pure : Prop := ∀ (l0 : List (List Int)), l0.length ≤ maxLen → (∀ r ∈ l0, r.length ≤ maxLen ∧ ∀ y ∈ r, (Lit.int .i64 y).wf = true) → ∃ k, laws_FnExactDeterminantWhole.f k l0 = some true
theorem laws_FnExactDeterminantWhole.walk (P : laws_FnExactDeterminantWhole.Pure) (A0 : Option Addr) (c0 : Nat) (l0 : List (List Int)) (w : World) (hm0 : l0.length ≤ maxLen) (hw0 : (∀ r ∈ l0, r.length ≤ maxLen ∧ ∀ y ∈ r, (Lit.int .i64 y).wf = true)) (hr0 : Kd.C (Kd.slice 2 (Kd.int .i64)) w A0 l0.length l0) (hc0 : l0.length ≤ c0) :
    Calls Try.prog 3 #[.slice A0 l0.length c0] w fun e w' => e = .returned (.bool true) ∧ Below w.heap.size w w' := by
  obtain ⟨k, h⟩ := P l0 hm0 hw0
  refine (laws_FnExactDeterminantWhole.calls k _ _ l0 w hr0 hc0 h).mono ?_
  rintro e w' ⟨rfl, hd⟩
  exact ⟨rfl, hd⟩

end Go.Proofs.Yteeoehohocoecaa.G
