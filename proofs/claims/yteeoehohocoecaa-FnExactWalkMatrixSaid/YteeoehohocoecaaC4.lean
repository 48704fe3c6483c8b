/- The printed functions that this law reaches, and their contracts: part 4. -/
-- printed by this repo's wip/printer out of the kit's print with its own changes
import Derived.Test.YteeoehohocoecaaC3
namespace Go.Proofs.Yteeoehohocoecaa.G
open Go.RowKit Go.Proofs.YteeoehohocoecaaW.PrintWords Go.Proofs.YteeoehohocoecaaW.PrintLast Go.Proofs.YteeoehohocoecaaW.PrintMore
attribute [local go_sem] max2_int min2_int max_two min_two max_three min_three max_four min_four   -- for this text's walks alone
set_option linter.unusedVariables false
set_option linter.unusedSimpArgs false

/-! ### laws_FnExactWalkMatrix: function 11 -/
def laws_FnExactWalkMatrix.f (k : Nat) (a0_0 : Int) (l0_1 : List (List Int)) (a1 : Int) : Option (Bool) := (laws_szGraph.f k a0_0 l0_1 1048576).bind fun t930 => (if t930 < 0 then (some true) else ((laws_toGraph.f k a0_0 l0_1).bind fun bt931 => ((spec_WalkMatrix.f k bt931.1 bt931.2 a1).bind fun bt935 => ((laws_toGraph.f k a0_0 l0_1).bind fun bt939 => ((impl_WalkMatrix.f k bt939.1 bt939.2 a1).bind fun bt944 => ((laws_eqInt64SS.f k bt944.1 bt935.1).bind fun t948 => (if t948 = true then (if bt944.2 = bt935.2 then ((laws_toGraph.f k a0_0 l0_1).bind fun bt949 => ((laws_eqGraph.f k bt939.1 bt939.2 bt949.1 bt949.2).bind fun t953 => (if t953 = true then ((laws_markGraph.f k bt939.1 bt939.2 1).bind fun bt954 => (if bt954.1 < 0 then (some false) else ((laws_eqInt64SS.f k bt944.1 bt935.1).bind fun t956 => (if t956 = true then ((laws_markInt64SS.f k bt944.1 1).bind fun bt957 => ((laws_heldInt64SS.f k bt957.2 1).bind fun t959 => (if t959 < 0 then (some false) else (if t959 = bt957.1 then ((laws_toGraph.f k a0_0 l0_1).bind fun bt960 => ((impl_WalkMatrix.f k bt960.1 bt960.2 a1).bind fun bt964 => ((laws_eqInt64SS.f k bt964.1 bt935.1).bind fun t968 => (if t968 = true then (if bt964.2 = bt935.2 then ((laws_heldInt64SS.f k bt957.2 1).bind fun t969 => (if t969 < 0 then (some false) else (if t969 = bt957.1 then (some true) else (some false)))) else (some false)) else (some false))))) else (some false))))) else (some false))))) else (some false)))) else (some false)) else (some false))))))))
theorem laws_FnExactWalkMatrix.mono : ∀ a0 a1 a2 k, LeO (laws_FnExactWalkMatrix.f k a0 a1 a2) (laws_FnExactWalkMatrix.f (k + 1) a0 a1 a2) := by
 intro a0 a1 a2 k
 unfold laws_FnExactWalkMatrix.f
 repeat' first
   | (with_reducible exact impl_WalkMatrix.mono _ _ _ _)
   | (with_reducible exact laws_eqGraph.mono _ _ _ _ _)
   | (with_reducible exact laws_eqInt64SS.mono _ _ _)
   | (with_reducible exact laws_heldInt64SS.mono _ _ _)
   | (with_reducible exact laws_markGraph.mono _ _ _ _)
   | (with_reducible exact laws_markInt64SS.mono _ _ _)
   | (with_reducible exact laws_szGraph.mono _ _ _ _)
   | (with_reducible exact laws_toGraph.mono _ _ _)
   | (with_reducible exact spec_WalkMatrix.mono _ _ _ _)
   | (with_reducible exact LeO.refl _)
   | (with_reducible exact LeO.none _)
   | (with_reducible refine LeO.ite ?_ ?_)
   | (with_reducible refine LeO.bind ?_ (fun _ => ?_))
set_option maxHeartbeats 8000000 in
set_option maxRecDepth 100000 in
theorem laws_FnExactWalkMatrix.calls (k : Nat) (a0_0 : Int) (A0_1 : Option Addr) (c0_1 : Nat) (l0_1 : List (List Int)) (a1 : Int) (w : World) (hr0_1 : Kd.C (Kd.slice 2 (Kd.int .i64)) w A0_1 l0_1.length l0_1) (hc0_1 : l0_1.length ≤ c0_1) (h : laws_FnExactWalkMatrix.f k a0_0 l0_1 a1 = some true) :
  Calls Try.prog 11 #[.agg #[.int .i64 a0_0, .slice A0_1 l0_1.length c0_1], .int .i64 a1] w fun e w' => e = .returned (.bool true) ∧ Below w.heap.size w w' := by
 have hu33 := Try.underlying33
 have hu37 := Try.underlying37
 have HR0_1 := Aside0.mk hr0_1
 have HC0_1 := Aside0.mk hc0_1
 clear hr0_1 hc0_1
 have HB := Aside0.mk (Below.refl w.heap.size w)
 have H : ((laws_szGraph.f k a0_0 l0_1 1048576).bind fun t930 => (if t930 < 0 then (some true) else ((laws_toGraph.f k a0_0 l0_1).bind fun bt931 => ((spec_WalkMatrix.f k bt931.1 bt931.2 a1).bind fun bt935 => ((laws_toGraph.f k a0_0 l0_1).bind fun bt939 => ((impl_WalkMatrix.f k bt939.1 bt939.2 a1).bind fun bt944 => ((laws_eqInt64SS.f k bt944.1 bt935.1).bind fun t948 => (if t948 = true then (if bt944.2 = bt935.2 then ((laws_toGraph.f k a0_0 l0_1).bind fun bt949 => ((laws_eqGraph.f k bt939.1 bt939.2 bt949.1 bt949.2).bind fun t953 => (if t953 = true then ((laws_markGraph.f k bt939.1 bt939.2 1).bind fun bt954 => (if bt954.1 < 0 then (some false) else ((laws_eqInt64SS.f k bt944.1 bt935.1).bind fun t956 => (if t956 = true then ((laws_markInt64SS.f k bt944.1 1).bind fun bt957 => ((laws_heldInt64SS.f k bt957.2 1).bind fun t959 => (if t959 < 0 then (some false) else (if t959 = bt957.1 then ((laws_toGraph.f k a0_0 l0_1).bind fun bt960 => ((impl_WalkMatrix.f k bt960.1 bt960.2 a1).bind fun bt964 => ((laws_eqInt64SS.f k bt964.1 bt935.1).bind fun t968 => (if t968 = true then (if bt964.2 = bt935.2 then ((laws_heldInt64SS.f k bt957.2 1).bind fun t969 => (if t969 < 0 then (some false) else (if t969 = bt957.1 then (some true) else (some false)))) else (some false)) else (some false))))) else (some false))))) else (some false))))) else (some false)))) else (some false)) else (some false))))))))) = some true := h
 clear h
 replace H := Option.bind_eq_some_iff.mp H
 obtain ⟨t930, A30, H⟩ := H
 replace H : (if t930 < 0 then (some true) else ((laws_toGraph.f k a0_0 l0_1).bind fun bt931 => ((spec_WalkMatrix.f k bt931.1 bt931.2 a1).bind fun bt935 => ((laws_toGraph.f k a0_0 l0_1).bind fun bt939 => ((impl_WalkMatrix.f k bt939.1 bt939.2 a1).bind fun bt944 => ((laws_eqInt64SS.f k bt944.1 bt935.1).bind fun t948 => (if t948 = true then (if bt944.2 = bt935.2 then ((laws_toGraph.f k a0_0 l0_1).bind fun bt949 => ((laws_eqGraph.f k bt939.1 bt939.2 bt949.1 bt949.2).bind fun t953 => (if t953 = true then ((laws_markGraph.f k bt939.1 bt939.2 1).bind fun bt954 => (if bt954.1 < 0 then (some false) else ((laws_eqInt64SS.f k bt944.1 bt935.1).bind fun t956 => (if t956 = true then ((laws_markInt64SS.f k bt944.1 1).bind fun bt957 => ((laws_heldInt64SS.f k bt957.2 1).bind fun t959 => (if t959 < 0 then (some false) else (if t959 = bt957.1 then ((laws_toGraph.f k a0_0 l0_1).bind fun bt960 => ((impl_WalkMatrix.f k bt960.1 bt960.2 a1).bind fun bt964 => ((laws_eqInt64SS.f k bt964.1 bt935.1).bind fun t968 => (if t968 = true then (if bt964.2 = bt935.2 then ((laws_heldInt64SS.f k bt957.2 1).bind fun t969 => (if t969 < 0 then (some false) else (if t969 = bt957.1 then (some true) else (some false)))) else (some false)) else (some false))))) else (some false))))) else (some false))))) else (some false)))) else (some false)) else (some false)))))))) = some true := H
 have A3 := Aside0.mk A30
 clear A30
 by_cases c4 : t930 < 0
 ·rw [if_pos c4] at H
  have c4b0 : decide (t930 < 0) = true := decide_eq_true c4
  clear c4
  try clear H
  go_enter Try.func11, Try.ntmps11
  go_wp2_with (first | ((with_reducible refine gate_dst (N := 2) rfl ?_); refine box_event ?hg (N := 2) ?hd (cs := #[.int .i64 a0_0, .slice A0_1 l0_1.length c0_1]) (t := 33) ?hr ?_; (case hd => rfl); (case hg => rfl); (case hr => first | (go_simp; done) | (go_simp; rfl)); intro gb929 hg w5 hbox hb; have n0_ := Aside0.mk (hb.size); have n1_ := Aside0.mk ((⟨Nat.le_of_eq hg.symm, blk_lt hbox⟩ : w.heap.size ≤ gb929 ∧ gb929 < w5.heap.size)); have n2_ := Aside0.mk (below_step (by repeat (first | (with_reducible first | exact HB.out | apply below_alloc | apply pw_below_drewN | apply below_drew1) | exact HB.out)) hb); have n3_ := Aside0.mk (hbox); have n4_ := Aside0.mk ((by rw [hg]; exact (below_size (by repeat (first | (with_reducible first | exact HB.out | apply below_alloc | apply pw_below_drewN | apply below_drew1) | exact HB.out))) : w.heap.size ≤ gb929)); have n5_ := Aside0.mk ((by rw [hg]; exact (below_size (by repeat (first | (with_reducible first | exact HB.out | apply below_alloc | apply pw_below_drewN | apply below_drew1) | exact HB.out))) : w.heap.size ≤ gb929)); clear HB; have Zw5 := n0_; have ZB929 := n1_; have HB := n2_; have BK929 := n3_; have GW929 := n4_; have GE929 := n5_; clear n0_ n1_ n2_ n3_ n4_ n5_; clear hb hbox hg; have hcz6_0 : w5.cell? ⟨gb929, 0, none⟩ = some (.int .i64 a0_0) := (blk_cell BK929.out 0).trans rfl; have hcz6_1 : w5.cell? ⟨gb929, 1, none⟩ = some (.slice A0_1 l0_1.length c0_1) := (blk_cell BK929.out 1).trans rfl; have hfz6_0 := blk_frozen BK929.out 0; have hfz6_1 := blk_frozen BK929.out 1) | ((with_reducible refine gate_callee (f := 24) rfl ?_); refine goesL_ (some 18) rfl rfl Try.func24 (by kernel_rfl) rfl #[.agg #[.int .i64 a0_0, .slice A0_1 l0_1.length c0_1], .int .i64 1048576] rfl (by (try simp only [List.map_toArray, List.map_cons, List.map_nil]); first | done | rfl) ?_; (with_reducible refine (laws_szGraph.calls k a0_0 _ _ l0_1 1048576 t930 _ ?side1 ?side2 A3.out).mono ?_); (case side1 => exact (Kd.C_below HR0_1.out HB.out)); (case side2 => exact HC0_1.out); rintro e w7 ⟨rfl, hb⟩; refine ⟨_, rfl, ?_⟩; have n0_ := Aside0.mk (blk_below (g := gb929) (o := .cells #[.int .i64 a0_0, .slice A0_1 l0_1.length c0_1] 33 (0, 0)) (by (with_reducible repeat (first | refine blk_drewN ?_ _ | refine blk_drew ?_ | refine blk_alloc ?_ _)); exact BK929.out) hb); have n1_ := Aside0.mk (below_step HB.out hb); have n2_ := Aside0.mk (hb.size); clear BK929; clear HB; have BK929 := n0_; have HB := n1_; have Zw7 := n2_; clear n0_ n1_ n2_; (try clear hb); (try clear hkp); (try clear hd_)))
  go_ret
  exact ⟨by first | rfl | (simp [errW_none, errW_some] <;> rfl) | (simp [*, errW_none, errW_some] <;> rfl), by repeat (first | (with_reducible first | exact HB.out | apply below_alloc | apply pw_below_drewN | apply below_drew1 | refine below_set ?_ GE929.out) | exact HB.out)⟩
 ·rw [if_neg c4] at H
  have c4b0 : decide (t930 < 0) = false := decide_eq_false c4
  clear c4
  replace H := Option.bind_eq_some_iff.mp H
  obtain ⟨⟨t931, t932⟩, A80, H⟩ := H
  replace H : ((spec_WalkMatrix.f k t931 t932 a1).bind fun bt935 => ((laws_toGraph.f k a0_0 l0_1).bind fun bt939 => ((impl_WalkMatrix.f k bt939.1 bt939.2 a1).bind fun bt944 => ((laws_eqInt64SS.f k bt944.1 bt935.1).bind fun t948 => (if t948 = true then (if bt944.2 = bt935.2 then ((laws_toGraph.f k a0_0 l0_1).bind fun bt949 => ((laws_eqGraph.f k bt939.1 bt939.2 bt949.1 bt949.2).bind fun t953 => (if t953 = true then ((laws_markGraph.f k bt939.1 bt939.2 1).bind fun bt954 => (if bt954.1 < 0 then (some false) else ((laws_eqInt64SS.f k bt944.1 bt935.1).bind fun t956 => (if t956 = true then ((laws_markInt64SS.f k bt944.1 1).bind fun bt957 => ((laws_heldInt64SS.f k bt957.2 1).bind fun t959 => (if t959 < 0 then (some false) else (if t959 = bt957.1 then ((laws_toGraph.f k a0_0 l0_1).bind fun bt960 => ((impl_WalkMatrix.f k bt960.1 bt960.2 a1).bind fun bt964 => ((laws_eqInt64SS.f k bt964.1 bt935.1).bind fun t968 => (if t968 = true then (if bt964.2 = bt935.2 then ((laws_heldInt64SS.f k bt957.2 1).bind fun t969 => (if t969 < 0 then (some false) else (if t969 = bt957.1 then (some true) else (some false)))) else (some false)) else (some false))))) else (some false))))) else (some false))))) else (some false)))) else (some false)) else (some false)))))) = some true := H
  have A8 := Aside0.mk A80
  clear A80
  replace H := Option.bind_eq_some_iff.mp H
  obtain ⟨⟨t935, t938⟩, A90, H⟩ := H
  replace H : ((laws_toGraph.f k a0_0 l0_1).bind fun bt939 => ((impl_WalkMatrix.f k bt939.1 bt939.2 a1).bind fun bt944 => ((laws_eqInt64SS.f k bt944.1 t935).bind fun t948 => (if t948 = true then (if bt944.2 = t938 then ((laws_toGraph.f k a0_0 l0_1).bind fun bt949 => ((laws_eqGraph.f k bt939.1 bt939.2 bt949.1 bt949.2).bind fun t953 => (if t953 = true then ((laws_markGraph.f k bt939.1 bt939.2 1).bind fun bt954 => (if bt954.1 < 0 then (some false) else ((laws_eqInt64SS.f k bt944.1 t935).bind fun t956 => (if t956 = true then ((laws_markInt64SS.f k bt944.1 1).bind fun bt957 => ((laws_heldInt64SS.f k bt957.2 1).bind fun t959 => (if t959 < 0 then (some false) else (if t959 = bt957.1 then ((laws_toGraph.f k a0_0 l0_1).bind fun bt960 => ((impl_WalkMatrix.f k bt960.1 bt960.2 a1).bind fun bt964 => ((laws_eqInt64SS.f k bt964.1 t935).bind fun t968 => (if t968 = true then (if bt964.2 = t938 then ((laws_heldInt64SS.f k bt957.2 1).bind fun t969 => (if t969 < 0 then (some false) else (if t969 = bt957.1 then (some true) else (some false)))) else (some false)) else (some false))))) else (some false))))) else (some false))))) else (some false)))) else (some false)) else (some false))))) = some true := H
  have A9 := Aside0.mk A90
  clear A90
  replace H := Option.bind_eq_some_iff.mp H
  obtain ⟨⟨t939, t940⟩, A100, H⟩ := H
  replace H : ((impl_WalkMatrix.f k t939 t940 a1).bind fun bt944 => ((laws_eqInt64SS.f k bt944.1 t935).bind fun t948 => (if t948 = true then (if bt944.2 = t938 then ((laws_toGraph.f k a0_0 l0_1).bind fun bt949 => ((laws_eqGraph.f k t939 t940 bt949.1 bt949.2).bind fun t953 => (if t953 = true then ((laws_markGraph.f k t939 t940 1).bind fun bt954 => (if bt954.1 < 0 then (some false) else ((laws_eqInt64SS.f k bt944.1 t935).bind fun t956 => (if t956 = true then ((laws_markInt64SS.f k bt944.1 1).bind fun bt957 => ((laws_heldInt64SS.f k bt957.2 1).bind fun t959 => (if t959 < 0 then (some false) else (if t959 = bt957.1 then ((laws_toGraph.f k a0_0 l0_1).bind fun bt960 => ((impl_WalkMatrix.f k bt960.1 bt960.2 a1).bind fun bt964 => ((laws_eqInt64SS.f k bt964.1 t935).bind fun t968 => (if t968 = true then (if bt964.2 = t938 then ((laws_heldInt64SS.f k bt957.2 1).bind fun t969 => (if t969 < 0 then (some false) else (if t969 = bt957.1 then (some true) else (some false)))) else (some false)) else (some false))))) else (some false))))) else (some false))))) else (some false)))) else (some false)) else (some false)))) = some true := H
  have A10 := Aside0.mk A100
  clear A100
  replace H := Option.bind_eq_some_iff.mp H
  obtain ⟨⟨t944, t947⟩, A110, H⟩ := H
  replace H : ((laws_eqInt64SS.f k t944 t935).bind fun t948 => (if t948 = true then (if t947 = t938 then ((laws_toGraph.f k a0_0 l0_1).bind fun bt949 => ((laws_eqGraph.f k t939 t940 bt949.1 bt949.2).bind fun t953 => (if t953 = true then ((laws_markGraph.f k t939 t940 1).bind fun bt954 => (if bt954.1 < 0 then (some false) else ((laws_eqInt64SS.f k t944 t935).bind fun t956 => (if t956 = true then ((laws_markInt64SS.f k t944 1).bind fun bt957 => ((laws_heldInt64SS.f k bt957.2 1).bind fun t959 => (if t959 < 0 then (some false) else (if t959 = bt957.1 then ((laws_toGraph.f k a0_0 l0_1).bind fun bt960 => ((impl_WalkMatrix.f k bt960.1 bt960.2 a1).bind fun bt964 => ((laws_eqInt64SS.f k bt964.1 t935).bind fun t968 => (if t968 = true then (if bt964.2 = t938 then ((laws_heldInt64SS.f k bt957.2 1).bind fun t969 => (if t969 < 0 then (some false) else (if t969 = bt957.1 then (some true) else (some false)))) else (some false)) else (some false))))) else (some false))))) else (some false))))) else (some false)))) else (some false)) else (some false))) = some true := H
  have A11 := Aside0.mk A110
  clear A110
  replace H := Option.bind_eq_some_iff.mp H
  obtain ⟨t948, A120, H⟩ := H
  replace H : (if t948 = true then (if t947 = t938 then ((laws_toGraph.f k a0_0 l0_1).bind fun bt949 => ((laws_eqGraph.f k t939 t940 bt949.1 bt949.2).bind fun t953 => (if t953 = true then ((laws_markGraph.f k t939 t940 1).bind fun bt954 => (if bt954.1 < 0 then (some false) else ((laws_eqInt64SS.f k t944 t935).bind fun t956 => (if t956 = true then ((laws_markInt64SS.f k t944 1).bind fun bt957 => ((laws_heldInt64SS.f k bt957.2 1).bind fun t959 => (if t959 < 0 then (some false) else (if t959 = bt957.1 then ((laws_toGraph.f k a0_0 l0_1).bind fun bt960 => ((impl_WalkMatrix.f k bt960.1 bt960.2 a1).bind fun bt964 => ((laws_eqInt64SS.f k bt964.1 t935).bind fun t968 => (if t968 = true then (if bt964.2 = t938 then ((laws_heldInt64SS.f k bt957.2 1).bind fun t969 => (if t969 < 0 then (some false) else (if t969 = bt957.1 then (some true) else (some false)))) else (some false)) else (some false))))) else (some false))))) else (some false))))) else (some false)))) else (some false)) else (some false)) = some true := H
  have A12 := Aside0.mk A120
  clear A120
  by_cases c13 : t948 = true
  ·subst c13
   have H1 : (if t947 = t938 then ((laws_toGraph.f k a0_0 l0_1).bind fun bt949 => ((laws_eqGraph.f k t939 t940 bt949.1 bt949.2).bind fun t953 => (if t953 = true then ((laws_markGraph.f k t939 t940 1).bind fun bt954 => (if bt954.1 < 0 then (some false) else ((laws_eqInt64SS.f k t944 t935).bind fun t956 => (if t956 = true then ((laws_markInt64SS.f k t944 1).bind fun bt957 => ((laws_heldInt64SS.f k bt957.2 1).bind fun t959 => (if t959 < 0 then (some false) else (if t959 = bt957.1 then ((laws_toGraph.f k a0_0 l0_1).bind fun bt960 => ((impl_WalkMatrix.f k bt960.1 bt960.2 a1).bind fun bt964 => ((laws_eqInt64SS.f k bt964.1 t935).bind fun t968 => (if t968 = true then (if bt964.2 = t938 then ((laws_heldInt64SS.f k bt957.2 1).bind fun t969 => (if t969 < 0 then (some false) else (if t969 = bt957.1 then (some true) else (some false)))) else (some false)) else (some false))))) else (some false))))) else (some false))))) else (some false)))) else (some false)) = some true := by rw [if_pos rfl] at H; exact H
   clear H
   have H := H1
   clear H1
   by_cases c14 : t947 = t938
   ·rw [if_pos c14] at H
    have c14b0 : (t947 == t938) = true := beq_iff_eq.mpr c14
    have c14b1 : (t947 != t938) = false := bne_eq_false_iff_eq.mpr c14
    clear c14
    replace H := Option.bind_eq_some_iff.mp H
    obtain ⟨⟨t949, t950⟩, A150, H⟩ := H
    replace H : ((laws_eqGraph.f k t939 t940 t949 t950).bind fun t953 => (if t953 = true then ((laws_markGraph.f k t939 t940 1).bind fun bt954 => (if bt954.1 < 0 then (some false) else ((laws_eqInt64SS.f k t944 t935).bind fun t956 => (if t956 = true then ((laws_markInt64SS.f k t944 1).bind fun bt957 => ((laws_heldInt64SS.f k bt957.2 1).bind fun t959 => (if t959 < 0 then (some false) else (if t959 = bt957.1 then ((laws_toGraph.f k a0_0 l0_1).bind fun bt960 => ((impl_WalkMatrix.f k bt960.1 bt960.2 a1).bind fun bt964 => ((laws_eqInt64SS.f k bt964.1 t935).bind fun t968 => (if t968 = true then (if bt964.2 = t938 then ((laws_heldInt64SS.f k bt957.2 1).bind fun t969 => (if t969 < 0 then (some false) else (if t969 = bt957.1 then (some true) else (some false)))) else (some false)) else (some false))))) else (some false))))) else (some false))))) else (some false))) = some true := H
    have A15 := Aside0.mk A150
    clear A150
    replace H := Option.bind_eq_some_iff.mp H
    obtain ⟨t953, A160, H⟩ := H
    replace H : (if t953 = true then ((laws_markGraph.f k t939 t940 1).bind fun bt954 => (if bt954.1 < 0 then (some false) else ((laws_eqInt64SS.f k t944 t935).bind fun t956 => (if t956 = true then ((laws_markInt64SS.f k t944 1).bind fun bt957 => ((laws_heldInt64SS.f k bt957.2 1).bind fun t959 => (if t959 < 0 then (some false) else (if t959 = bt957.1 then ((laws_toGraph.f k a0_0 l0_1).bind fun bt960 => ((impl_WalkMatrix.f k bt960.1 bt960.2 a1).bind fun bt964 => ((laws_eqInt64SS.f k bt964.1 t935).bind fun t968 => (if t968 = true then (if bt964.2 = t938 then ((laws_heldInt64SS.f k bt957.2 1).bind fun t969 => (if t969 < 0 then (some false) else (if t969 = bt957.1 then (some true) else (some false)))) else (some false)) else (some false))))) else (some false))))) else (some false))))) else (some false)) = some true := H
    have A16 := Aside0.mk A160
    clear A160
    by_cases c17 : t953 = true
    ·subst c17
     have H1 : ((laws_markGraph.f k t939 t940 1).bind fun bt954 => (if bt954.1 < 0 then (some false) else ((laws_eqInt64SS.f k t944 t935).bind fun t956 => (if t956 = true then ((laws_markInt64SS.f k t944 1).bind fun bt957 => ((laws_heldInt64SS.f k bt957.2 1).bind fun t959 => (if t959 < 0 then (some false) else (if t959 = bt957.1 then ((laws_toGraph.f k a0_0 l0_1).bind fun bt960 => ((impl_WalkMatrix.f k bt960.1 bt960.2 a1).bind fun bt964 => ((laws_eqInt64SS.f k bt964.1 t935).bind fun t968 => (if t968 = true then (if bt964.2 = t938 then ((laws_heldInt64SS.f k bt957.2 1).bind fun t969 => (if t969 < 0 then (some false) else (if t969 = bt957.1 then (some true) else (some false)))) else (some false)) else (some false))))) else (some false))))) else (some false))))) = some true := by rw [if_pos rfl] at H; exact H
     clear H
     have H := H1
     clear H1
     replace H := Option.bind_eq_some_iff.mp H
     obtain ⟨⟨t954, t955⟩, A180, H⟩ := H
     replace H : (if t954 < 0 then (some false) else ((laws_eqInt64SS.f k t944 t935).bind fun t956 => (if t956 = true then ((laws_markInt64SS.f k t944 1).bind fun bt957 => ((laws_heldInt64SS.f k bt957.2 1).bind fun t959 => (if t959 < 0 then (some false) else (if t959 = bt957.1 then ((laws_toGraph.f k a0_0 l0_1).bind fun bt960 => ((impl_WalkMatrix.f k bt960.1 bt960.2 a1).bind fun bt964 => ((laws_eqInt64SS.f k bt964.1 t935).bind fun t968 => (if t968 = true then (if bt964.2 = t938 then ((laws_heldInt64SS.f k bt957.2 1).bind fun t969 => (if t969 < 0 then (some false) else (if t969 = bt957.1 then (some true) else (some false)))) else (some false)) else (some false))))) else (some false))))) else (some false)))) = some true := H
     have A18 := Aside0.mk A180
     clear A180
     by_cases c19 : t954 < 0
     ·rw [if_pos c19] at H
      have c19b0 : decide (t954 < 0) = true := decide_eq_true c19
      clear c19
      exact absurd H (by simp)
     ·rw [if_neg c19] at H
      have c19b0 : decide (t954 < 0) = false := decide_eq_false c19
      clear c19
      replace H := Option.bind_eq_some_iff.mp H
      obtain ⟨t956, A200, H⟩ := H
      replace H : (if t956 = true then ((laws_markInt64SS.f k t944 1).bind fun bt957 => ((laws_heldInt64SS.f k bt957.2 1).bind fun t959 => (if t959 < 0 then (some false) else (if t959 = bt957.1 then ((laws_toGraph.f k a0_0 l0_1).bind fun bt960 => ((impl_WalkMatrix.f k bt960.1 bt960.2 a1).bind fun bt964 => ((laws_eqInt64SS.f k bt964.1 t935).bind fun t968 => (if t968 = true then (if bt964.2 = t938 then ((laws_heldInt64SS.f k bt957.2 1).bind fun t969 => (if t969 < 0 then (some false) else (if t969 = bt957.1 then (some true) else (some false)))) else (some false)) else (some false))))) else (some false))))) else (some false)) = some true := H
      have A20 := Aside0.mk A200
      clear A200
      by_cases c21 : t956 = true
      ·subst c21
       have H1 : ((laws_markInt64SS.f k t944 1).bind fun bt957 => ((laws_heldInt64SS.f k bt957.2 1).bind fun t959 => (if t959 < 0 then (some false) else (if t959 = bt957.1 then ((laws_toGraph.f k a0_0 l0_1).bind fun bt960 => ((impl_WalkMatrix.f k bt960.1 bt960.2 a1).bind fun bt964 => ((laws_eqInt64SS.f k bt964.1 t935).bind fun t968 => (if t968 = true then (if bt964.2 = t938 then ((laws_heldInt64SS.f k bt957.2 1).bind fun t969 => (if t969 < 0 then (some false) else (if t969 = bt957.1 then (some true) else (some false)))) else (some false)) else (some false))))) else (some false))))) = some true := by rw [if_pos rfl] at H; exact H
       clear H
       have H := H1
       clear H1
       replace H := Option.bind_eq_some_iff.mp H
       obtain ⟨⟨t957, t958⟩, A220, H⟩ := H
       replace H : ((laws_heldInt64SS.f k t958 1).bind fun t959 => (if t959 < 0 then (some false) else (if t959 = t957 then ((laws_toGraph.f k a0_0 l0_1).bind fun bt960 => ((impl_WalkMatrix.f k bt960.1 bt960.2 a1).bind fun bt964 => ((laws_eqInt64SS.f k bt964.1 t935).bind fun t968 => (if t968 = true then (if bt964.2 = t938 then ((laws_heldInt64SS.f k t958 1).bind fun t969 => (if t969 < 0 then (some false) else (if t969 = t957 then (some true) else (some false)))) else (some false)) else (some false))))) else (some false)))) = some true := H
       have A22 := Aside0.mk A220
       clear A220
       replace H := Option.bind_eq_some_iff.mp H
       obtain ⟨t959, A230, H⟩ := H
       replace H : (if t959 < 0 then (some false) else (if t959 = t957 then ((laws_toGraph.f k a0_0 l0_1).bind fun bt960 => ((impl_WalkMatrix.f k bt960.1 bt960.2 a1).bind fun bt964 => ((laws_eqInt64SS.f k bt964.1 t935).bind fun t968 => (if t968 = true then (if bt964.2 = t938 then ((laws_heldInt64SS.f k t958 1).bind fun t969 => (if t969 < 0 then (some false) else (if t969 = t957 then (some true) else (some false)))) else (some false)) else (some false))))) else (some false))) = some true := H
       have A23 := Aside0.mk A230
       clear A230
       by_cases c24 : t959 < 0
       ·rw [if_pos c24] at H
        have c24b0 : decide (t959 < 0) = true := decide_eq_true c24
        clear c24
        exact absurd H (by simp)
       ·rw [if_neg c24] at H
        have c24b0 : decide (t959 < 0) = false := decide_eq_false c24
        clear c24
        by_cases c25 : t959 = t957
        ·rw [if_pos c25] at H
         have c25b0 : (t959 == t957) = true := beq_iff_eq.mpr c25
         have c25b1 : (t959 != t957) = false := bne_eq_false_iff_eq.mpr c25
         clear c25
         replace H := Option.bind_eq_some_iff.mp H
         obtain ⟨⟨t960, t961⟩, A260, H⟩ := H
         replace H : ((impl_WalkMatrix.f k t960 t961 a1).bind fun bt964 => ((laws_eqInt64SS.f k bt964.1 t935).bind fun t968 => (if t968 = true then (if bt964.2 = t938 then ((laws_heldInt64SS.f k t958 1).bind fun t969 => (if t969 < 0 then (some false) else (if t969 = t957 then (some true) else (some false)))) else (some false)) else (some false)))) = some true := H
         have A26 := Aside0.mk A260
         clear A260
         replace H := Option.bind_eq_some_iff.mp H
         obtain ⟨⟨t964, t967⟩, A270, H⟩ := H
         replace H : ((laws_eqInt64SS.f k t964 t935).bind fun t968 => (if t968 = true then (if t967 = t938 then ((laws_heldInt64SS.f k t958 1).bind fun t969 => (if t969 < 0 then (some false) else (if t969 = t957 then (some true) else (some false)))) else (some false)) else (some false))) = some true := H
         have A27 := Aside0.mk A270
         clear A270
         replace H := Option.bind_eq_some_iff.mp H
         obtain ⟨t968, A280, H⟩ := H
         replace H : (if t968 = true then (if t967 = t938 then ((laws_heldInt64SS.f k t958 1).bind fun t969 => (if t969 < 0 then (some false) else (if t969 = t957 then (some true) else (some false)))) else (some false)) else (some false)) = some true := H
         have A28 := Aside0.mk A280
         clear A280
         by_cases c29 : t968 = true
         ·subst c29
          have H1 : (if t967 = t938 then ((laws_heldInt64SS.f k t958 1).bind fun t969 => (if t969 < 0 then (some false) else (if t969 = t957 then (some true) else (some false)))) else (some false)) = some true := by rw [if_pos rfl] at H; exact H
          clear H
          have H := H1
          clear H1
          by_cases c30 : t967 = t938
          ·rw [if_pos c30] at H
           have c30b0 : (t967 == t938) = true := beq_iff_eq.mpr c30
           have c30b1 : (t967 != t938) = false := bne_eq_false_iff_eq.mpr c30
           clear c30
           replace H := Option.bind_eq_some_iff.mp H
           obtain ⟨t969, A310, H⟩ := H
           replace H : (if t969 < 0 then (some false) else (if t969 = t957 then (some true) else (some false))) = some true := H
           have A31 := Aside0.mk A310
           clear A310
           by_cases c32 : t969 < 0
           ·rw [if_pos c32] at H
            have c32b0 : decide (t969 < 0) = true := decide_eq_true c32
            clear c32
            exact absurd H (by simp)
           ·rw [if_neg c32] at H
            have c32b0 : decide (t969 < 0) = false := decide_eq_false c32
            clear c32
            by_cases c33 : t969 = t957
            ·rw [if_pos c33] at H
             have c33b0 : (t969 == t957) = true := beq_iff_eq.mpr c33
             have c33b1 : (t969 != t957) = false := bne_eq_false_iff_eq.mpr c33
             clear c33
             try clear H
             go_enter Try.func11, Try.ntmps11
             try go_wp2_with (first | ((with_reducible refine gate_dst (N := 2) rfl ?_); refine box_event ?hg (N := 2) ?hd (cs := #[.int .i64 a0_0, .slice A0_1 l0_1.length c0_1]) (t := 33) ?hr ?_; (case hd => rfl); (case hg => rfl); (case hr => first | (go_simp; done) | (go_simp; rfl)); intro gb929 hg w34 hbox hb; have n0_ := Aside0.mk (hb.size); have n1_ := Aside0.mk ((⟨Nat.le_of_eq hg.symm, blk_lt hbox⟩ : w.heap.size ≤ gb929 ∧ gb929 < w34.heap.size)); have n2_ := Aside0.mk (below_step (by repeat (first | (with_reducible first | exact HB.out | apply below_alloc | apply pw_below_drewN | apply below_drew1) | exact HB.out)) hb); have n3_ := Aside0.mk (hbox); have n4_ := Aside0.mk ((by rw [hg]; exact (below_size (by repeat (first | (with_reducible first | exact HB.out | apply below_alloc | apply pw_below_drewN | apply below_drew1) | exact HB.out))) : w.heap.size ≤ gb929)); have n5_ := Aside0.mk ((by rw [hg]; exact (below_size (by repeat (first | (with_reducible first | exact HB.out | apply below_alloc | apply pw_below_drewN | apply below_drew1) | exact HB.out))) : w.heap.size ≤ gb929)); clear HB; have Zw34 := n0_; have ZB929 := n1_; have HB := n2_; have BK929 := n3_; have GW929 := n4_; have GE929 := n5_; clear n0_ n1_ n2_ n3_ n4_ n5_; clear hb hbox hg; have hcz35_0 : w34.cell? ⟨gb929, 0, none⟩ = some (.int .i64 a0_0) := (blk_cell BK929.out 0).trans rfl; have hcz35_1 : w34.cell? ⟨gb929, 1, none⟩ = some (.slice A0_1 l0_1.length c0_1) := (blk_cell BK929.out 1).trans rfl; have hfz35_0 := blk_frozen BK929.out 0; have hfz35_1 := blk_frozen BK929.out 1) | ((with_reducible refine gate_callee (f := 24) rfl ?_); refine goesL_ (some 18) rfl rfl Try.func24 (by kernel_rfl) rfl #[.agg #[.int .i64 a0_0, .slice A0_1 l0_1.length c0_1], .int .i64 1048576] rfl (by (try simp only [List.map_toArray, List.map_cons, List.map_nil]); first | done | rfl) ?_; (with_reducible refine (laws_szGraph.calls k a0_0 _ _ l0_1 1048576 t930 _ ?side1 ?side2 A3.out).mono ?_); (case side1 => exact (Kd.C_below HR0_1.out HB.out)); (case side2 => exact HC0_1.out); rintro e w36 ⟨rfl, hb⟩; refine ⟨_, rfl, ?_⟩; have n0_ := Aside0.mk (blk_below (g := gb929) (o := .cells #[.int .i64 a0_0, .slice A0_1 l0_1.length c0_1] 33 (0, 0)) (by (with_reducible repeat (first | refine blk_drewN ?_ _ | refine blk_drew ?_ | refine blk_alloc ?_ _)); exact BK929.out) hb); have n1_ := Aside0.mk (below_step HB.out hb); have n2_ := Aside0.mk (hb.size); clear BK929; clear HB; have BK929 := n0_; have HB := n1_; have Zw36 := n2_; clear n0_ n1_ n2_; (try clear hb); (try clear hkp); (try clear hd_); have hcz37_0 : w36.cell? ⟨gb929, 0, none⟩ = some (.int .i64 a0_0) := (blk_cell BK929.out 0).trans rfl; have hcz37_1 : w36.cell? ⟨gb929, 1, none⟩ = some (.slice A0_1 l0_1.length c0_1) := (blk_cell BK929.out 1).trans rfl; have hfz37_0 := blk_frozen BK929.out 0; have hfz37_1 := blk_frozen BK929.out 1) | ((with_reducible refine gate_callee (f := 26) rfl ?_); refine goesL_ (some 23) rfl rfl Try.func26 (by kernel_rfl) rfl #[.agg #[.int .i64 a0_0, .slice A0_1 l0_1.length c0_1]] rfl (by (try simp only [List.map_toArray, List.map_cons, List.map_nil]); first | done | rfl) ?_; (with_reducible refine (laws_toGraph.calls k a0_0 _ _ l0_1 t931 t932 _ ?side1 ?side2 A8.out).mono ?_); (case side1 => exact (Kd.C_below HR0_1.out HB.out)); (case side2 => exact HC0_1.out); rintro e w38 ⟨v933, rfl, ho0, hb⟩; refine ⟨_, rfl, ?_⟩; have n0_ := Aside0.mk (blk_below (g := gb929) (o := .cells #[.int .i64 a0_0, .slice A0_1 l0_1.length c0_1] 33 (0, 0)) (by (with_reducible repeat (first | refine blk_drewN ?_ _ | refine blk_drew ?_ | refine blk_alloc ?_ _)); exact BK929.out) hb); have n1_ := Aside0.mk (Kd.S_lower (Kd.S_mono (Kd.S_bound ho0) (fun k_ hk_ => (⟨hk_.2.1, hk_.2.2.1⟩ : w36.heap.size ≤ k_ ∧ k_ < w38.heap.size))) HB.out.size); have n2_ := Aside0.mk (below_step HB.out hb); have n3_ := Aside0.mk (hb.size); clear BK929; clear HB; have BK929 := n0_; have HO934 := n1_; have HB := n2_; have Zw38 := n3_; clear n0_ n1_ n2_ n3_; (try clear hb); (try clear hkp); (try clear hd_); (try clear ho0); obtain ⟨Ao39, co39, eo39⟩ := Kd.S_slice HO934.out; subst eo39) | ((with_reducible refine gate_callee (f := 43) rfl ?_); refine goesL_ (some 25) rfl rfl Try.func43 (by kernel_rfl) rfl #[.agg #[.int .i64 t931, .slice Ao39 t932.length co39], .int .i64 a1] rfl (by (try simp only [List.map_toArray, List.map_cons, List.map_nil]); first | done | rfl) ?_; (with_reducible refine (spec_WalkMatrix.calls k t931 _ _ t932 a1 t935 t938 _ ?side1 ?side2 A9.out).mono ?_); (case side1 => exact (Kd.S_reads' HO934.out).2.2); (case side2 => (have e_ := Kd.S_reads' HO934.out; have e1_ := e_.1; have e2_ := e_.2.1; omega)); rintro e w40 ⟨v936, rfl, ho0, hb⟩; refine ⟨_, rfl, ?_⟩; have n0_ := Aside0.mk (blk_below (g := gb929) (o := .cells #[.int .i64 a0_0, .slice A0_1 l0_1.length c0_1] 33 (0, 0)) (by (with_reducible repeat (first | refine blk_drewN ?_ _ | refine blk_drew ?_ | refine blk_alloc ?_ _)); exact BK929.out) hb); have n1_ := Aside0.mk (Kd.S_below HO934.out hb); have n2_ := Aside0.mk (Kd.S_lower (Kd.S_mono (Kd.S_bound ho0) (fun k_ hk_ => (⟨hk_.2.1, hk_.2.2.1⟩ : w38.heap.size ≤ k_ ∧ k_ < w40.heap.size))) HB.out.size); have n3_ := Aside0.mk (below_step HB.out hb); have n4_ := Aside0.mk (hb.size); clear BK929; clear HO934; clear HB; have BK929 := n0_; have HO934 := n1_; have HO937 := n2_; have HB := n3_; have Zw40 := n4_; clear n0_ n1_ n2_ n3_ n4_; (try clear hb); (try clear hkp); (try clear hd_); (try clear ho0); obtain ⟨Ao41, co41, eo41⟩ := Kd.S_slice HO937.out; subst eo41; have hcz42_0 : w40.cell? ⟨gb929, 0, none⟩ = some (.int .i64 a0_0) := (blk_cell BK929.out 0).trans rfl; have hcz42_1 : w40.cell? ⟨gb929, 1, none⟩ = some (.slice A0_1 l0_1.length c0_1) := (blk_cell BK929.out 1).trans rfl; have hfz42_0 := blk_frozen BK929.out 0; have hfz42_1 := blk_frozen BK929.out 1) | ((with_reducible refine gate_callee (f := 26) rfl ?_); refine goesL_ (some 29) rfl rfl Try.func26 (by kernel_rfl) rfl #[.agg #[.int .i64 a0_0, .slice A0_1 l0_1.length c0_1]] rfl (by (try simp only [List.map_toArray, List.map_cons, List.map_nil]); first | done | rfl) ?_; (with_reducible refine (laws_toGraph.calls k a0_0 _ _ l0_1 t939 t940 _ ?side1 ?side2 A10.out).mono ?_); (case side1 => exact (Kd.C_below HR0_1.out HB.out)); (case side2 => exact HC0_1.out); rintro e w43 ⟨v941, rfl, ho0, hb⟩; refine ⟨_, rfl, ?_⟩; have n0_ := Aside0.mk (blk_below (g := gb929) (o := .cells #[.int .i64 a0_0, .slice A0_1 l0_1.length c0_1] 33 (0, 0)) (by (with_reducible repeat (first | refine blk_drewN ?_ _ | refine blk_drew ?_ | refine blk_alloc ?_ _)); exact BK929.out) hb); have n1_ := Aside0.mk (Kd.S_below HO934.out hb); have n2_ := Aside0.mk (Kd.S_below HO937.out hb); have n3_ := Aside0.mk (Kd.S_lower (Kd.S_mono (Kd.S_bound ho0) (fun k_ hk_ => (⟨hk_.2.1, hk_.2.2.1⟩ : w40.heap.size ≤ k_ ∧ k_ < w43.heap.size))) HB.out.size); have n4_ := Aside0.mk (below_step HB.out hb); have n5_ := Aside0.mk (hb.size); clear BK929; clear HO934; clear HO937; clear HB; have BK929 := n0_; have HO934 := n1_; have HO937 := n2_; have HO942 := n3_; have HB := n4_; have Zw43 := n5_; clear n0_ n1_ n2_ n3_ n4_ n5_; (try clear hb); (try clear hkp); (try clear hd_); (try clear ho0); obtain ⟨Ao44, co44, eo44⟩ := Kd.S_slice HO942.out; subst eo44) | ((with_reducible refine gate_dst (N := 8) rfl ?_); refine box_event ?hg (N := 8) ?hd (cs := #[.int .i64 0, .slice none 0 0]) (t := 37) ?hr ?_; (case hd => rfl); (case hg => rfl); (case hr => first | (go_simp; done) | (go_simp; rfl)); intro gb943 hg w45 hbox hb; have n0_ := Aside0.mk (Kd.S_below HO934.out hb); have n1_ := Aside0.mk (Kd.S_below HO937.out hb); have n2_ := Aside0.mk (Kd.S_below HO942.out hb); have n3_ := Aside0.mk (blk_below (g := gb929) (o := .cells #[.int .i64 a0_0, .slice A0_1 l0_1.length c0_1] 33 (0, 0)) (by (with_reducible repeat (first | refine blk_drewN ?_ _ | refine blk_drew ?_ | refine blk_alloc ?_ _)); exact BK929.out) hb); have n4_ := Aside0.mk (hb.size); have n5_ := Aside0.mk ((⟨Nat.le_of_eq hg.symm, blk_lt hbox⟩ : w43.heap.size ≤ gb943 ∧ gb943 < w45.heap.size)); have n6_ := Aside0.mk (below_step (by repeat (first | (with_reducible first | exact HB.out | apply below_alloc | apply pw_below_drewN | apply below_drew1 | refine below_set ?_ GE929.out) | exact HB.out)) hb); have n7_ := Aside0.mk (hbox); have n8_ := Aside0.mk ((by rw [hg]; exact (below_size (by repeat (first | (with_reducible first | exact HB.out | apply below_alloc | apply pw_below_drewN | apply below_drew1 | refine below_set ?_ GE929.out) | exact HB.out))) : w.heap.size ≤ gb943)); have n9_ := Aside0.mk ((by rw [hg]; exact (below_size (by repeat (first | (with_reducible first | exact HB.out | apply below_alloc | apply pw_below_drewN | apply below_drew1 | refine below_set ?_ GE929.out) | exact HB.out))) : w.heap.size ≤ gb943)); have n10_ := Aside0.mk ((by rw [hg]; exact Nat.ne_of_lt (blk_lt (g := gb929) (o := .cells #[.int .i64 a0_0, .slice A0_1 l0_1.length c0_1] 33 (0, 0)) (by (with_reducible repeat (first | refine blk_drewN ?_ _ | refine blk_drew ?_ | refine blk_alloc ?_ _)); exact BK929.out)) : gb929 ≠ gb943)); have n11_ := Aside0.mk ((by rw [hg]; exact Nat.ne_of_gt (blk_lt (g := gb929) (o := .cells #[.int .i64 a0_0, .slice A0_1 l0_1.length c0_1] 33 (0, 0)) (by (with_reducible repeat (first | refine blk_drewN ?_ _ | refine blk_drew ?_ | refine blk_alloc ?_ _)); exact BK929.out)) : gb943 ≠ gb929)); clear HO934; clear HO937; clear HO942; clear BK929; clear HB; have HO934 := n0_; have HO937 := n1_; have HO942 := n2_; have BK929 := n3_; have Zw45 := n4_; have ZB943 := n5_; have HB := n6_; have BK943 := n7_; have GW943 := n8_; have GE943 := n9_; have NB929_943 := n10_; have NB943_929 := n11_; clear n0_ n1_ n2_ n3_ n4_ n5_ n6_ n7_ n8_ n9_ n10_ n11_; clear hb hbox hg; have hnb46 := NB943_929.out; have hnc46 := NB929_943.out; have hcz47_0 : w45.cell? ⟨gb943, 0, none⟩ = some (.int .i64 0) := (blk_cell BK943.out 0).trans rfl; have hcz47_1 : w45.cell? ⟨gb943, 1, none⟩ = some (.slice none 0 0) := (blk_cell BK943.out 1).trans rfl; have hfz47_0 := blk_frozen BK943.out 0; have hfz47_1 := blk_frozen BK943.out 1) | ((with_reducible refine gate_callee (f := 44) rfl ?_); have n0_ := Aside0.mk (show ((w45.setCell ⟨gb943, 0, none⟩ (.int .i64 t939)).setCell ⟨gb943, 1, none⟩ (.slice Ao44 t940.length co44)).heap[gb929]? = some (.cells #[.int .i64 a0_0, .slice A0_1 l0_1.length c0_1] 33 (0, 0)) from (by (with_reducible repeat (first | refine blk_drewN ?_ _ | refine blk_drew ?_ | refine blk_alloc ?_ _)); refine blk_far ?_ NB929_943.out _; (with_reducible repeat (first | refine blk_drewN ?_ _ | refine blk_drew ?_ | refine blk_alloc ?_ _)); refine blk_far ?_ NB929_943.out _; (with_reducible repeat (first | refine blk_drewN ?_ _ | refine blk_drew ?_ | refine blk_alloc ?_ _)); exact BK929.out)); have n1_ := Aside0.mk (show Kd.S (Kd.slice 2 (Kd.int .i64)) 24 ((w45.setCell ⟨gb943, 0, none⟩ (.int .i64 t939)).setCell ⟨gb943, 1, none⟩ (.slice Ao44 t940.length co44)) w.heap.size (fun k_ => w36.heap.size ≤ k_ ∧ k_ < w38.heap.size) (.slice Ao39 t932.length co39) t932 from (Kd.S_far (Kd.S_far HO934.out (fun k_ ho_ => (show k_ ≠ gb943 from by have h1_ := ho_.1; have h2_ := ho_.2; have h3_ := ZB943.out.1; have h4_ := ZB943.out.2; have := Zw34.out; have := Zw36.out; have := Zw38.out; have := Zw40.out; have := Zw43.out; have := Zw45.out; omega)) _) (fun k_ ho_ => (show k_ ≠ gb943 from by have h1_ := ho_.1; have h2_ := ho_.2; have h3_ := ZB943.out.1; have h4_ := ZB943.out.2; have := Zw34.out; have := Zw36.out; have := Zw38.out; have := Zw40.out; have := Zw43.out; have := Zw45.out; omega)) _)); have n2_ := Aside0.mk (show Kd.S (Kd.slice 2 (Kd.int .i64)) 24 ((w45.setCell ⟨gb943, 0, none⟩ (.int .i64 t939)).setCell ⟨gb943, 1, none⟩ (.slice Ao44 t940.length co44)) w.heap.size (fun k_ => w38.heap.size ≤ k_ ∧ k_ < w40.heap.size) (.slice Ao41 t935.length co41) t935 from (Kd.S_far (Kd.S_far HO937.out (fun k_ ho_ => (show k_ ≠ gb943 from by have h1_ := ho_.1; have h2_ := ho_.2; have h3_ := ZB943.out.1; have h4_ := ZB943.out.2; have := Zw34.out; have := Zw36.out; have := Zw38.out; have := Zw40.out; have := Zw43.out; have := Zw45.out; omega)) _) (fun k_ ho_ => (show k_ ≠ gb943 from by have h1_ := ho_.1; have h2_ := ho_.2; have h3_ := ZB943.out.1; have h4_ := ZB943.out.2; have := Zw34.out; have := Zw36.out; have := Zw38.out; have := Zw40.out; have := Zw43.out; have := Zw45.out; omega)) _)); have n3_ := Aside0.mk (show Kd.S (Kd.slice 2 (Kd.int .i64)) 24 ((w45.setCell ⟨gb943, 0, none⟩ (.int .i64 t939)).setCell ⟨gb943, 1, none⟩ (.slice Ao44 t940.length co44)) w.heap.size (fun k_ => w40.heap.size ≤ k_ ∧ k_ < w43.heap.size) (.slice Ao44 t940.length co44) t940 from (Kd.S_far (Kd.S_far HO942.out (fun k_ ho_ => (show k_ ≠ gb943 from by have h1_ := ho_.1; have h2_ := ho_.2; have h3_ := ZB943.out.1; have h4_ := ZB943.out.2; have := Zw34.out; have := Zw36.out; have := Zw38.out; have := Zw40.out; have := Zw43.out; have := Zw45.out; omega)) _) (fun k_ ho_ => (show k_ ≠ gb943 from by have h1_ := ho_.1; have h2_ := ho_.2; have h3_ := ZB943.out.1; have h4_ := ZB943.out.2; have := Zw34.out; have := Zw36.out; have := Zw38.out; have := Zw40.out; have := Zw43.out; have := Zw45.out; omega)) _)); have n4_ := Aside0.mk (show ((w45.setCell ⟨gb943, 0, none⟩ (.int .i64 t939)).setCell ⟨gb943, 1, none⟩ (.slice Ao44 t940.length co44)).heap[gb943]? = some (.cells #[.int .i64 t939, .slice Ao44 t940.length co44] 37 (0, 0)) from (by (with_reducible repeat (first | refine blk_drewN ?_ _ | refine blk_drew ?_ | refine blk_alloc ?_ _)); refine blk_put (cs := #[.int .i64 t939, .slice none 0 0]) ?_ 1 _ rfl; (with_reducible repeat (first | refine blk_drewN ?_ _ | refine blk_drew ?_ | refine blk_alloc ?_ _)); refine blk_put (cs := #[.int .i64 0, .slice none 0 0]) ?_ 0 _ rfl; (with_reducible repeat (first | refine blk_drewN ?_ _ | refine blk_drew ?_ | refine blk_alloc ?_ _)); exact BK943.out)); have n5_ := Aside0.mk (show Below w.heap.size w ((w45.setCell ⟨gb943, 0, none⟩ (.int .i64 t939)).setCell ⟨gb943, 1, none⟩ (.slice Ao44 t940.length co44)) from (below_set (below_set HB.out GE943.out) GE943.out)); have n6_ := Aside0.mk (show w45.heap.size ≤ ((w45.setCell ⟨gb943, 0, none⟩ (.int .i64 t939)).setCell ⟨gb943, 1, none⟩ (.slice Ao44 t940.length co44)).heap.size from (Kept.setCell (Kept.setCell (Kept.refl w45 (fun _ => True)) (.inl trivial) _) (.inl trivial) _).1); clear BK929; clear HO934; clear HO937; clear HO942; clear BK943; clear HB; generalize hW_ : ((w45.setCell ⟨gb943, 0, none⟩ (.int .i64 t939)).setCell ⟨gb943, 1, none⟩ (.slice Ao44 t940.length co44)) = w48 at n0_ n1_ n2_ n3_ n4_ n5_ n6_ ⊢; clear hW_; have BK929 := n0_; have HO934 := n1_; have HO937 := n2_; have HO942 := n3_; have BK943 := n4_; have HB := n5_; have Zw48 := n6_; clear n0_ n1_ n2_ n3_ n4_ n5_ n6_; refine goesL_ (some 33) rfl rfl Try.func44 (by kernel_rfl) rfl #[.agg #[.int .i64 t939, .slice Ao44 t940.length co44], .int .i64 a1] rfl (by (try simp only [List.map_toArray, List.map_cons, List.map_nil]); first | done | rfl) ?_; (with_reducible refine (impl_WalkMatrix.calls k t939 _ _ t940 a1 t944 t947 _ ?side1 ?side2 A11.out).mono ?_); (case side1 => exact (Kd.S_reads' HO942.out).2.2); (case side2 => (have e_ := Kd.S_reads' HO942.out; have e1_ := e_.1; have e2_ := e_.2.1; omega)); rintro e w49 ⟨v945, rfl, ho0, hb⟩; refine ⟨_, rfl, ?_⟩; have n0_ := Aside0.mk (blk_below (g := gb929) (o := .cells #[.int .i64 a0_0, .slice A0_1 l0_1.length c0_1] 33 (0, 0)) (by (with_reducible repeat (first | refine blk_drewN ?_ _ | refine blk_drew ?_ | refine blk_alloc ?_ _)); exact BK929.out) hb); have n1_ := Aside0.mk (Kd.S_below HO934.out hb); have n2_ := Aside0.mk (Kd.S_below HO937.out hb); have n3_ := Aside0.mk (Kd.S_below HO942.out hb); have n4_ := Aside0.mk (blk_below (g := gb943) (o := .cells #[.int .i64 t939, .slice Ao44 t940.length co44] 37 (0, 0)) (by (with_reducible repeat (first | refine blk_drewN ?_ _ | refine blk_drew ?_ | refine blk_alloc ?_ _)); exact BK943.out) hb); have n5_ := Aside0.mk (Kd.S_lower (Kd.S_mono (Kd.S_bound ho0) (fun k_ hk_ => (⟨hk_.2.1, hk_.2.2.1⟩ : w48.heap.size ≤ k_ ∧ k_ < w49.heap.size))) HB.out.size); have n6_ := Aside0.mk (below_step HB.out hb); have n7_ := Aside0.mk (hb.size); clear BK929; clear HO934; clear HO937; clear HO942; clear BK943; clear HB; have BK929 := n0_; have HO934 := n1_; have HO937 := n2_; have HO942 := n3_; have BK943 := n4_; have HO946 := n5_; have HB := n6_; have Zw49 := n7_; clear n0_ n1_ n2_ n3_ n4_ n5_ n6_ n7_; (try clear hb); (try clear hkp); (try clear hd_); (try clear ho0); obtain ⟨Ao50, co50, eo50⟩ := Kd.S_slice HO946.out; subst eo50) | ((with_reducible refine gate_callee (f := 20) rfl ?_); refine goesL_ (some 38) rfl rfl Try.func20 (by kernel_rfl) rfl #[.slice Ao50 t944.length co50, .slice Ao41 t935.length co41] rfl (by (try simp only [List.map_toArray, List.map_cons, List.map_nil]); first | done | rfl) ?_; (with_reducible refine (laws_eqInt64SS.calls k _ _ t944 _ _ t935 true _ ?side1 ?side2 ?side3 ?side4 A12.out).mono ?_); (case side1 => exact (Kd.S_reads' HO946.out).2.2); (case side2 => (have e_ := Kd.S_reads' HO946.out; have e1_ := e_.1; have e2_ := e_.2.1; omega)); (case side3 => exact (Kd.S_reads' HO937.out).2.2); (case side4 => (have e_ := Kd.S_reads' HO937.out; have e1_ := e_.1; have e2_ := e_.2.1; omega)); rintro e w51 ⟨rfl, hd_⟩; refine ⟨_, rfl, ?_⟩; have hb := hd_.below; have n0_ := Aside0.mk (blk_below (g := gb929) (o := .cells #[.int .i64 a0_0, .slice A0_1 l0_1.length c0_1] 33 (0, 0)) (by (with_reducible repeat (first | refine blk_drewN ?_ _ | refine blk_drew ?_ | refine blk_alloc ?_ _)); exact BK929.out) hb); have n1_ := Aside0.mk (Kd.S_below HO934.out hb); have n2_ := Aside0.mk (Kd.S_below HO937.out hb); have n3_ := Aside0.mk (Kd.S_below HO942.out hb); have n4_ := Aside0.mk (blk_below (g := gb943) (o := .cells #[.int .i64 t939, .slice Ao44 t940.length co44] 37 (0, 0)) (by (with_reducible repeat (first | refine blk_drewN ?_ _ | refine blk_drew ?_ | refine blk_alloc ?_ _)); exact BK943.out) hb); have n5_ := Aside0.mk (Kd.S_below HO946.out hb); have n6_ := Aside0.mk (below_step HB.out hb); have n7_ := Aside0.mk (hb.size); clear BK929; clear HO934; clear HO937; clear HO942; clear BK943; clear HO946; clear HB; have BK929 := n0_; have HO934 := n1_; have HO937 := n2_; have HO942 := n3_; have BK943 := n4_; have HO946 := n5_; have HB := n6_; have Zw51 := n7_; clear n0_ n1_ n2_ n3_ n4_ n5_ n6_ n7_; (try clear hb); (try clear hkp); (try clear hd_)))
             have n0_ := Aside0.mk ((show w51.heap.size ≤ w51.drew.heap.size from Nat.le_refl _))
             have n1_ := Aside0.mk (Kd.S_drew HO934.out)
             have n2_ := Aside0.mk (Kd.S_drew HO937.out)
             have n3_ := Aside0.mk (Kd.S_drew HO942.out)
             have n4_ := Aside0.mk (Kd.S_drew HO946.out)
             have n5_ := Aside0.mk (blk_drew BK929.out)
             have n6_ := Aside0.mk (blk_drew BK943.out)
             have n7_ := Aside0.mk (below_drew1 HB.out)
             clear HO934
             clear HO937
             clear HO942
             clear HO946
             clear BK929
             clear BK943
             clear HB
             have Zw52 := n0_
             have HO934 := n1_
             have HO937 := n2_
             have HO942 := n3_
             have HO946 := n4_
             have BK929 := n5_
             have BK943 := n6_
             have HB := n7_
             clear n0_ n1_ n2_ n3_ n4_ n5_ n6_ n7_
             refine start_ (n := 5) (S := fun w' => w'.cell? ⟨gb943, 0, none⟩ = some (.int .i64 t939) ∧ w'.cell? ⟨gb943, 1, none⟩ = some (.slice Ao44 t940.length co44) ∧ w'.cell? ⟨gb929, 0, none⟩ = some (.int .i64 a0_0) ∧ w'.cell? ⟨gb929, 1, none⟩ = some (.slice A0_1 l0_1.length c0_1)) (ds := []) #[false, false, false, false, false] (by kernel_rfl) rfl rfl ⟨(blk_cell BK943.out 0).trans rfl, (blk_cell BK943.out 1).trans rfl, (blk_cell BK929.out 0).trans rfl, (blk_cell BK929.out 1).trans rfl⟩ (fun hHeld => ?_)
             generalize w51.drew = w52 at HO934 HO937 HO942 HO946 BK929 BK943 HB Zw52 hHeld ⊢
             refine take_ (i := 0) (N := some 45) (v := ?_) (a' := ?_) #[true, false, false, false, false] rfl rfl (by kernel_rfl) (fun _ _ _ h => h) (Or.inl ⟨by rfl, ?_⟩) hHeld ?_ ?_
             rotate_left
             ·rintro w' ⟨s0, s1, s2, s3⟩
              go_simp
              with_reducible rfl
             rotate_left
             ·simp only [Act.put, nf_]
              rfl
             refine take_ (i := 1) (N := some 46) (v := ?_) (a' := ?_) #[true, true, false, false, false] rfl rfl (by kernel_rfl) (fun _ _ _ h => h) (Or.inl ⟨by rfl, ?_⟩) hHeld ?_ ?_
             rotate_left
             ·rintro w' ⟨s0, s1, s2, s3⟩
              go_simp
              with_reducible rfl
             rotate_left
             ·simp only [Act.put, nf_]
              rfl
             refine one_ (i := 2) (N := some 47) #[true, true, true, false, false] rfl rfl (by kernel_rfl) (by decide) (fun K hK => ?_)
             refine goes_ Try.func26 (by kernel_rfl) rfl #[.agg #[.int .i64 a0_0, .slice A0_1 l0_1.length c0_1]] (by rfl) rfl rfl (by (try simp only [List.map_toArray, List.map_cons, List.map_nil]); first | done | rfl | (simp only [List.length_drop, List.length_take]; rfl)) ?_
             with_reducible refine (laws_toGraph.calls k a0_0 _ _ l0_1 t949 t950 _ ?side1 ?side2 A15.out).mono ?_
             (case side1 => exact (Kd.C_below HR0_1.out HB.out))
             (case side2 => exact HC0_1.out)
             rintro e w53 ⟨v951, rfl, ho0, hb⟩
             refine ⟨_, rfl, ?_⟩
             have n0_ := Aside0.mk (blk_below (g := gb929) (o := .cells #[.int .i64 a0_0, .slice A0_1 l0_1.length c0_1] 33 (0, 0)) (by (with_reducible repeat (first | refine blk_drewN ?_ _ | refine blk_drew ?_ | refine blk_alloc ?_ _)); exact BK929.out) hb)
             have n1_ := Aside0.mk (Kd.S_below HO934.out hb)
             have n2_ := Aside0.mk (Kd.S_below HO937.out hb)
             have n3_ := Aside0.mk (Kd.S_below HO942.out hb)
             have n4_ := Aside0.mk (blk_below (g := gb943) (o := .cells #[.int .i64 t939, .slice Ao44 t940.length co44] 37 (0, 0)) (by (with_reducible repeat (first | refine blk_drewN ?_ _ | refine blk_drew ?_ | refine blk_alloc ?_ _)); exact BK943.out) hb)
             have n5_ := Aside0.mk (Kd.S_below HO946.out hb)
             have n6_ := Aside0.mk (Kd.S_lower (Kd.S_mono (Kd.S_bound ho0) (fun k_ hk_ => (⟨hk_.2.1, hk_.2.2.1⟩ : w52.heap.size ≤ k_ ∧ k_ < w53.heap.size))) HB.out.size)
             have n7_ := Aside0.mk (below_step HB.out hb)
             have n8_ := Aside0.mk (hb.size)
             clear BK929
             clear HO934
             clear HO937
             clear HO942
             clear BK943
             clear HO946
             clear HB
             have BK929 := n0_
             have HO934 := n1_
             have HO937 := n2_
             have HO942 := n3_
             have BK943 := n4_
             have HO946 := n5_
             have HO952 := n6_
             have HB := n7_
             have Zw53 := n8_
             clear n0_ n1_ n2_ n3_ n4_ n5_ n6_ n7_ n8_
             (try clear hb)
             (try clear hkp)
             (try clear hd_)
             (try clear ho0)
             obtain ⟨Ao54, co54, eo54⟩ := Kd.S_slice HO952.out
             subst eo54
             refine hK.out _ _ ⟨(blk_cell BK943.out 0).trans rfl, (blk_cell BK943.out 1).trans rfl, (blk_cell BK929.out 0).trans rfl, (blk_cell BK929.out 1).trans rfl⟩ (fun hHeld => ?_)
             clear hK K
             refine norm_ (a' := ?_) ?_ ?_
             rotate_left
             ·show Act.put _ (some 47) _ = _
              simp only [Act.put, nf_]
              rfl
             refine one_ (i := 3) (N := some 48) #[true, true, true, true, false] rfl rfl (by kernel_rfl) (by decide) (fun K hK => ?_)
             refine goes_ Try.func28 (by kernel_rfl) rfl #[.agg #[.int .i64 t939, .slice Ao44 t940.length co44], .agg #[.int .i64 t949, .slice Ao54 t950.length co54]] (by rfl) rfl rfl (by (try simp only [List.map_toArray, List.map_cons, List.map_nil]); first | done | rfl | (simp only [List.length_drop, List.length_take]; rfl)) ?_
             with_reducible refine (laws_eqGraph.calls k t939 _ _ t940 t949 _ _ t950 true _ ?side1 ?side2 ?side3 ?side4 A16.out).mono ?_
             (case side1 => exact (Kd.S_reads' HO942.out).2.2)
             (case side2 => (have e_ := Kd.S_reads' HO942.out; have e1_ := e_.1; have e2_ := e_.2.1; omega))
             (case side3 => exact (Kd.S_reads' HO952.out).2.2)
             (case side4 => (have e_ := Kd.S_reads' HO952.out; have e1_ := e_.1; have e2_ := e_.2.1; omega))
             rintro e w55 ⟨rfl, hb⟩
             refine ⟨_, rfl, ?_⟩
             have n0_ := Aside0.mk (blk_below (g := gb929) (o := .cells #[.int .i64 a0_0, .slice A0_1 l0_1.length c0_1] 33 (0, 0)) (by (with_reducible repeat (first | refine blk_drewN ?_ _ | refine blk_drew ?_ | refine blk_alloc ?_ _)); exact BK929.out) hb)
             have n1_ := Aside0.mk (Kd.S_below HO934.out hb)
             have n2_ := Aside0.mk (Kd.S_below HO937.out hb)
             have n3_ := Aside0.mk (Kd.S_below HO942.out hb)
             have n4_ := Aside0.mk (blk_below (g := gb943) (o := .cells #[.int .i64 t939, .slice Ao44 t940.length co44] 37 (0, 0)) (by (with_reducible repeat (first | refine blk_drewN ?_ _ | refine blk_drew ?_ | refine blk_alloc ?_ _)); exact BK943.out) hb)
             have n5_ := Aside0.mk (Kd.S_below HO946.out hb)
             have n6_ := Aside0.mk (Kd.S_below HO952.out hb)
             have n7_ := Aside0.mk (below_step HB.out hb)
             have n8_ := Aside0.mk (hb.size)
             clear BK929
             clear HO934
             clear HO937
             clear HO942
             clear BK943
             clear HO946
             clear HO952
             clear HB
             have BK929 := n0_
             have HO934 := n1_
             have HO937 := n2_
             have HO942 := n3_
             have BK943 := n4_
             have HO946 := n5_
             have HO952 := n6_
             have HB := n7_
             have Zw55 := n8_
             clear n0_ n1_ n2_ n3_ n4_ n5_ n6_ n7_ n8_
             (try clear hb)
             (try clear hkp)
             (try clear hd_)
             refine hK.out _ _ ⟨(blk_cell BK943.out 0).trans rfl, (blk_cell BK943.out 1).trans rfl, (blk_cell BK929.out 0).trans rfl, (blk_cell BK929.out 1).trans rfl⟩ (fun hHeld => ?_)
             clear hK K
             refine norm_ (a' := ?_) ?_ ?_
             rotate_left
             ·show Act.put _ (some 48) _ = _
              simp only [Act.put, nf_]
              rfl
             refine pure_ (i := 4) (N := some 49) (v := ?_) (a' := ?_) #[true, true, true, true, true] rfl rfl (by kernel_rfl) (fun _ _ _ h => h) (Or.inl ⟨by rfl, ?_⟩) ?_ ?_
             rotate_left
             ·intro w'
              go_simp
              with_reducible rfl
             rotate_left
             ·simp only [Act.put, nf_]
              rfl
             refine done_ (by kernel_rfl) ?_
             have hcz56_0 : w55.cell? ⟨gb943, 0, none⟩ = some (.int .i64 t939) := (blk_cell BK943.out 0).trans rfl
             have hcz56_1 : w55.cell? ⟨gb943, 1, none⟩ = some (.slice Ao44 t940.length co44) := (blk_cell BK943.out 1).trans rfl
             have hfz56_0 := blk_frozen BK943.out 0
             have hfz56_1 := blk_frozen BK943.out 1
             try go_wp2_with (first | ((with_reducible refine gate_callee (f := 36) rfl ?_); refine goesL_ (some 52) rfl rfl Try.func36 (by kernel_rfl) rfl #[.agg #[.int .i64 t939, .slice Ao44 t940.length co44], .int .i64 1] rfl (by (try simp only [List.map_toArray, List.map_cons, List.map_nil]); first | done | rfl) ?_; (with_reducible refine (laws_markGraph.calls k t939 (fun k_ => w40.heap.size ≤ k_ ∧ k_ < w43.heap.size) (.slice Ao44 t940.length co44) t940 1 t954 t955 w _ ?side1 ?side2 A18.out).mono ?_); (case side1 => exact HB.out); (case side2 => exact HO942.out); rintro e w57 ⟨rfl, hy0, hb, hkp⟩; refine ⟨_, rfl, ?_⟩; have n0_ := Aside0.mk (blk_kept (by (with_reducible repeat (first | refine blk_drewN ?_ _ | refine blk_drew ?_ | refine blk_alloc ?_ _)); exact BK929.out) hkp (fun hs_ => by have h1_ := ZB929.out.1; have h2_ := ZB929.out.2; have := Zw34.out; have := Zw36.out; have := Zw38.out; have := Zw40.out; have := Zw43.out; have := Zw45.out; have := Zw48.out; have := Zw49.out; have := Zw51.out; have := Zw52.out; have := Zw53.out; have := Zw55.out; have h3_ := hs_.1; have h4_ := hs_.2; omega)); have n1_ := Aside0.mk (Kd.S_step HO934.out (fun k_ ho_ hl_ => hkp.2 k_ hl_ (fun hs_ => by have h1_ := ho_.1; have h2_ := ho_.2; have := Zw34.out; have := Zw36.out; have := Zw38.out; have := Zw40.out; have := Zw43.out; have := Zw45.out; have := Zw48.out; have := Zw49.out; have := Zw51.out; have := Zw52.out; have := Zw53.out; have := Zw55.out; have h3_ := hs_.1; have h4_ := hs_.2; omega))); have n2_ := Aside0.mk (Kd.S_step HO937.out (fun k_ ho_ hl_ => hkp.2 k_ hl_ (fun hs_ => by have h1_ := ho_.1; have h2_ := ho_.2; have := Zw34.out; have := Zw36.out; have := Zw38.out; have := Zw40.out; have := Zw43.out; have := Zw45.out; have := Zw48.out; have := Zw49.out; have := Zw51.out; have := Zw52.out; have := Zw53.out; have := Zw55.out; have h3_ := hs_.1; have h4_ := hs_.2; omega))); have n3_ := Aside0.mk (hy0); have n4_ := Aside0.mk (blk_kept (by (with_reducible repeat (first | refine blk_drewN ?_ _ | refine blk_drew ?_ | refine blk_alloc ?_ _)); exact BK943.out) hkp (fun hs_ => by have h1_ := ZB943.out.1; have h2_ := ZB943.out.2; have := Zw34.out; have := Zw36.out; have := Zw38.out; have := Zw40.out; have := Zw43.out; have := Zw45.out; have := Zw48.out; have := Zw49.out; have := Zw51.out; have := Zw52.out; have := Zw53.out; have := Zw55.out; have h3_ := hs_.1; have h4_ := hs_.2; omega)); have n5_ := Aside0.mk (Kd.S_step HO946.out (fun k_ ho_ hl_ => hkp.2 k_ hl_ (fun hs_ => by have h1_ := ho_.1; have h2_ := ho_.2; have := Zw34.out; have := Zw36.out; have := Zw38.out; have := Zw40.out; have := Zw43.out; have := Zw45.out; have := Zw48.out; have := Zw49.out; have := Zw51.out; have := Zw52.out; have := Zw53.out; have := Zw55.out; have h3_ := hs_.1; have h4_ := hs_.2; omega))); have n6_ := Aside0.mk (Kd.S_step HO952.out (fun k_ ho_ hl_ => hkp.2 k_ hl_ (fun hs_ => by have h1_ := ho_.1; have h2_ := ho_.2; have := Zw34.out; have := Zw36.out; have := Zw38.out; have := Zw40.out; have := Zw43.out; have := Zw45.out; have := Zw48.out; have := Zw49.out; have := Zw51.out; have := Zw52.out; have := Zw53.out; have := Zw55.out; have h3_ := hs_.1; have h4_ := hs_.2; omega))); have n7_ := Aside0.mk (hb); have n8_ := Aside0.mk (hkp.1); clear BK929; clear HO934; clear HO937; clear HO942; clear BK943; clear HO946; clear HO952; clear HB; have BK929 := n0_; have HO934 := n1_; have HO937 := n2_; have HO942 := n3_; have BK943 := n4_; have HO946 := n5_; have HO952 := n6_; have HB := n7_; have Zw57 := n8_; clear n0_ n1_ n2_ n3_ n4_ n5_ n6_ n7_ n8_; (try clear hb); (try clear hkp); (try clear hd_); (try clear hy0)) | (go_at_call 20; (with_reducible refine (laws_eqInt64SS.calls k _ _ t944 _ _ t935 true _ ?side1 ?side2 ?side3 ?side4 A20.out).mono ?_); (case side1 => exact (Kd.S_reads' HO946.out).2.2); (case side2 => (have e_ := Kd.S_reads' HO946.out; have e1_ := e_.1; have e2_ := e_.2.1; omega)); (case side3 => exact (Kd.S_reads' HO937.out).2.2); (case side4 => (have e_ := Kd.S_reads' HO937.out; have e1_ := e_.1; have e2_ := e_.2.1; omega)); rintro e w58 ⟨rfl, hd_⟩; have hb := hd_.below; have n0_ := Aside0.mk (blk_below (g := gb929) (o := .cells #[.int .i64 a0_0, .slice A0_1 l0_1.length c0_1] 33 (0, 0)) (by (with_reducible repeat (first | refine blk_drewN ?_ _ | refine blk_drew ?_ | refine blk_alloc ?_ _)); exact BK929.out) hb); have n1_ := Aside0.mk (Kd.S_below HO934.out hb); have n2_ := Aside0.mk (Kd.S_below HO937.out hb); have n3_ := Aside0.mk (Kd.S_below HO942.out hb); have n4_ := Aside0.mk (blk_below (g := gb943) (o := .cells #[.int .i64 t939, .slice Ao44 t940.length co44] 37 (0, 0)) (by (with_reducible repeat (first | refine blk_drewN ?_ _ | refine blk_drew ?_ | refine blk_alloc ?_ _)); exact BK943.out) hb); have n5_ := Aside0.mk (Kd.S_below HO946.out hb); have n6_ := Aside0.mk (Kd.S_below HO952.out hb); have n7_ := Aside0.mk (below_step HB.out hb); have n8_ := Aside0.mk (hb.size); clear BK929; clear HO934; clear HO937; clear HO942; clear BK943; clear HO946; clear HO952; clear HB; have BK929 := n0_; have HO934 := n1_; have HO937 := n2_; have HO942 := n3_; have BK943 := n4_; have HO946 := n5_; have HO952 := n6_; have HB := n7_; have Zw58 := n8_; clear n0_ n1_ n2_ n3_ n4_ n5_ n6_ n7_ n8_; (try clear hb); (try clear hkp); (try clear hd_)) | ((with_reducible refine gate_callee (f := 21) rfl ?_); refine goesL_ (some 68) rfl rfl Try.func21 (by kernel_rfl) rfl #[.slice Ao50 t944.length co50, .int .i64 1] rfl (by (try simp only [List.map_toArray, List.map_cons, List.map_nil]); first | done | rfl) ?_; (with_reducible refine (laws_markInt64SS.calls k (fun k_ => w48.heap.size ≤ k_ ∧ k_ < w49.heap.size) (.slice Ao50 t944.length co50) t944 1 t957 t958 w _ ?side1 ?side2 A22.out).mono ?_); (case side1 => exact HB.out); (case side2 => exact HO946.out); rintro e w59 ⟨rfl, hy0, hb, hkp⟩; refine ⟨_, rfl, ?_⟩; have n0_ := Aside0.mk (blk_kept (by (with_reducible repeat (first | refine blk_drewN ?_ _ | refine blk_drew ?_ | refine blk_alloc ?_ _)); exact BK929.out) hkp (fun hs_ => by have h1_ := ZB929.out.1; have h2_ := ZB929.out.2; have := Zw34.out; have := Zw36.out; have := Zw38.out; have := Zw40.out; have := Zw43.out; have := Zw45.out; have := Zw48.out; have := Zw49.out; have := Zw51.out; have := Zw52.out; have := Zw53.out; have := Zw55.out; have := Zw57.out; have := Zw58.out; have h3_ := hs_.1; have h4_ := hs_.2; omega)); have n1_ := Aside0.mk (Kd.S_step HO934.out (fun k_ ho_ hl_ => hkp.2 k_ hl_ (fun hs_ => by have h1_ := ho_.1; have h2_ := ho_.2; have := Zw34.out; have := Zw36.out; have := Zw38.out; have := Zw40.out; have := Zw43.out; have := Zw45.out; have := Zw48.out; have := Zw49.out; have := Zw51.out; have := Zw52.out; have := Zw53.out; have := Zw55.out; have := Zw57.out; have := Zw58.out; have h3_ := hs_.1; have h4_ := hs_.2; omega))); have n2_ := Aside0.mk (Kd.S_step HO937.out (fun k_ ho_ hl_ => hkp.2 k_ hl_ (fun hs_ => by have h1_ := ho_.1; have h2_ := ho_.2; have := Zw34.out; have := Zw36.out; have := Zw38.out; have := Zw40.out; have := Zw43.out; have := Zw45.out; have := Zw48.out; have := Zw49.out; have := Zw51.out; have := Zw52.out; have := Zw53.out; have := Zw55.out; have := Zw57.out; have := Zw58.out; have h3_ := hs_.1; have h4_ := hs_.2; omega))); have n3_ := Aside0.mk (Kd.S_step HO942.out (fun k_ ho_ hl_ => hkp.2 k_ hl_ (fun hs_ => by have h1_ := ho_.1; have h2_ := ho_.2; have := Zw34.out; have := Zw36.out; have := Zw38.out; have := Zw40.out; have := Zw43.out; have := Zw45.out; have := Zw48.out; have := Zw49.out; have := Zw51.out; have := Zw52.out; have := Zw53.out; have := Zw55.out; have := Zw57.out; have := Zw58.out; have h3_ := hs_.1; have h4_ := hs_.2; omega))); have n4_ := Aside0.mk (blk_kept (by (with_reducible repeat (first | refine blk_drewN ?_ _ | refine blk_drew ?_ | refine blk_alloc ?_ _)); exact BK943.out) hkp (fun hs_ => by have h1_ := ZB943.out.1; have h2_ := ZB943.out.2; have := Zw34.out; have := Zw36.out; have := Zw38.out; have := Zw40.out; have := Zw43.out; have := Zw45.out; have := Zw48.out; have := Zw49.out; have := Zw51.out; have := Zw52.out; have := Zw53.out; have := Zw55.out; have := Zw57.out; have := Zw58.out; have h3_ := hs_.1; have h4_ := hs_.2; omega)); have n5_ := Aside0.mk (hy0); have n6_ := Aside0.mk (Kd.S_step HO952.out (fun k_ ho_ hl_ => hkp.2 k_ hl_ (fun hs_ => by have h1_ := ho_.1; have h2_ := ho_.2; have := Zw34.out; have := Zw36.out; have := Zw38.out; have := Zw40.out; have := Zw43.out; have := Zw45.out; have := Zw48.out; have := Zw49.out; have := Zw51.out; have := Zw52.out; have := Zw53.out; have := Zw55.out; have := Zw57.out; have := Zw58.out; have h3_ := hs_.1; have h4_ := hs_.2; omega))); have n7_ := Aside0.mk (hb); have n8_ := Aside0.mk (hkp.1); clear BK929; clear HO934; clear HO937; clear HO942; clear BK943; clear HO946; clear HO952; clear HB; have BK929 := n0_; have HO934 := n1_; have HO937 := n2_; have HO942 := n3_; have BK943 := n4_; have HO946 := n5_; have HO952 := n6_; have HB := n7_; have Zw59 := n8_; clear n0_ n1_ n2_ n3_ n4_ n5_ n6_ n7_ n8_; (try clear hb); (try clear hkp); (try clear hd_); (try clear hy0)) | ((with_reducible refine gate_callee (f := 45) rfl ?_); refine goesL_ (some 71) rfl rfl Try.func45 (by kernel_rfl) rfl #[.slice Ao50 t944.length co50, .int .i64 1] rfl (by (try simp only [List.map_toArray, List.map_cons, List.map_nil]); first | done | rfl) ?_; refine calls_of_args (args' := #[.slice Ao50 t958.length co50, .int .i64 1]) (by first | rfl | (rw [show t944.length = t958.length from (Kd.S_reads' HO946.out).1] <;> rfl) | (simp only [show t944.length = t958.length from (Kd.S_reads' HO946.out).1])) ?_; (with_reducible refine (laws_heldInt64SS.calls k _ _ t958 1 t959 _ ?side1 ?side2 A23.out).mono ?_); (case side1 => exact (Kd.S_reads' HO946.out).2.2); (case side2 => (have e_ := Kd.S_reads' HO946.out; have e1_ := e_.1; have e2_ := e_.2.1; omega)); rintro e w60 ⟨rfl, hd_⟩; refine ⟨_, rfl, ?_⟩; have hb := hd_.below; have n0_ := Aside0.mk (blk_below (g := gb929) (o := .cells #[.int .i64 a0_0, .slice A0_1 l0_1.length c0_1] 33 (0, 0)) (by (with_reducible repeat (first | refine blk_drewN ?_ _ | refine blk_drew ?_ | refine blk_alloc ?_ _)); exact BK929.out) hb); have n1_ := Aside0.mk (Kd.S_below HO934.out hb); have n2_ := Aside0.mk (Kd.S_below HO937.out hb); have n3_ := Aside0.mk (Kd.S_below HO942.out hb); have n4_ := Aside0.mk (blk_below (g := gb943) (o := .cells #[.int .i64 t939, .slice Ao44 t940.length co44] 37 (0, 0)) (by (with_reducible repeat (first | refine blk_drewN ?_ _ | refine blk_drew ?_ | refine blk_alloc ?_ _)); exact BK943.out) hb); have n5_ := Aside0.mk (Kd.S_below HO946.out hb); have n6_ := Aside0.mk (Kd.S_below HO952.out hb); have n7_ := Aside0.mk (below_step HB.out hb); have n8_ := Aside0.mk (hb.size); clear BK929; clear HO934; clear HO937; clear HO942; clear BK943; clear HO946; clear HO952; clear HB; have BK929 := n0_; have HO934 := n1_; have HO937 := n2_; have HO942 := n3_; have BK943 := n4_; have HO946 := n5_; have HO952 := n6_; have HB := n7_; have Zw60 := n8_; clear n0_ n1_ n2_ n3_ n4_ n5_ n6_ n7_ n8_; (try clear hb); (try clear hkp); (try clear hd_); have hcz61_0 : w60.cell? ⟨gb929, 0, none⟩ = some (.int .i64 a0_0) := (blk_cell BK929.out 0).trans rfl; have hcz61_1 : w60.cell? ⟨gb929, 1, none⟩ = some (.slice A0_1 l0_1.length c0_1) := (blk_cell BK929.out 1).trans rfl; have hfz61_0 := blk_frozen BK929.out 0; have hfz61_1 := blk_frozen BK929.out 1) | ((with_reducible refine gate_callee (f := 26) rfl ?_); refine goesL_ (some 79) rfl rfl Try.func26 (by kernel_rfl) rfl #[.agg #[.int .i64 a0_0, .slice A0_1 l0_1.length c0_1]] rfl (by (try simp only [List.map_toArray, List.map_cons, List.map_nil]); first | done | rfl) ?_; (with_reducible refine (laws_toGraph.calls k a0_0 _ _ l0_1 t960 t961 _ ?side1 ?side2 A26.out).mono ?_); (case side1 => exact (Kd.C_below HR0_1.out HB.out)); (case side2 => exact HC0_1.out); rintro e w62 ⟨v962, rfl, ho0, hb⟩; refine ⟨_, rfl, ?_⟩; have n0_ := Aside0.mk (blk_below (g := gb929) (o := .cells #[.int .i64 a0_0, .slice A0_1 l0_1.length c0_1] 33 (0, 0)) (by (with_reducible repeat (first | refine blk_drewN ?_ _ | refine blk_drew ?_ | refine blk_alloc ?_ _)); exact BK929.out) hb); have n1_ := Aside0.mk (Kd.S_below HO934.out hb); have n2_ := Aside0.mk (Kd.S_below HO937.out hb); have n3_ := Aside0.mk (Kd.S_below HO942.out hb); have n4_ := Aside0.mk (blk_below (g := gb943) (o := .cells #[.int .i64 t939, .slice Ao44 t940.length co44] 37 (0, 0)) (by (with_reducible repeat (first | refine blk_drewN ?_ _ | refine blk_drew ?_ | refine blk_alloc ?_ _)); exact BK943.out) hb); have n5_ := Aside0.mk (Kd.S_below HO946.out hb); have n6_ := Aside0.mk (Kd.S_below HO952.out hb); have n7_ := Aside0.mk (Kd.S_lower (Kd.S_mono (Kd.S_bound ho0) (fun k_ hk_ => (⟨hk_.2.1, hk_.2.2.1⟩ : w60.heap.size ≤ k_ ∧ k_ < w62.heap.size))) HB.out.size); have n8_ := Aside0.mk (below_step HB.out hb); have n9_ := Aside0.mk (hb.size); clear BK929; clear HO934; clear HO937; clear HO942; clear BK943; clear HO946; clear HO952; clear HB; have BK929 := n0_; have HO934 := n1_; have HO937 := n2_; have HO942 := n3_; have BK943 := n4_; have HO946 := n5_; have HO952 := n6_; have HO963 := n7_; have HB := n8_; have Zw62 := n9_; clear n0_ n1_ n2_ n3_ n4_ n5_ n6_ n7_ n8_ n9_; (try clear hb); (try clear hkp); (try clear hd_); (try clear ho0); obtain ⟨Ao63, co63, eo63⟩ := Kd.S_slice HO963.out; subst eo63) | ((with_reducible refine gate_callee (f := 44) rfl ?_); refine goesL_ (some 81) rfl rfl Try.func44 (by kernel_rfl) rfl #[.agg #[.int .i64 t960, .slice Ao63 t961.length co63], .int .i64 a1] rfl (by (try simp only [List.map_toArray, List.map_cons, List.map_nil]); first | done | rfl) ?_; (with_reducible refine (impl_WalkMatrix.calls k t960 _ _ t961 a1 t964 t967 _ ?side1 ?side2 A27.out).mono ?_); (case side1 => exact (Kd.S_reads' HO963.out).2.2); (case side2 => (have e_ := Kd.S_reads' HO963.out; have e1_ := e_.1; have e2_ := e_.2.1; omega)); rintro e w64 ⟨v965, rfl, ho0, hb⟩; refine ⟨_, rfl, ?_⟩; have n0_ := Aside0.mk (blk_below (g := gb929) (o := .cells #[.int .i64 a0_0, .slice A0_1 l0_1.length c0_1] 33 (0, 0)) (by (with_reducible repeat (first | refine blk_drewN ?_ _ | refine blk_drew ?_ | refine blk_alloc ?_ _)); exact BK929.out) hb); have n1_ := Aside0.mk (Kd.S_below HO934.out hb); have n2_ := Aside0.mk (Kd.S_below HO937.out hb); have n3_ := Aside0.mk (Kd.S_below HO942.out hb); have n4_ := Aside0.mk (blk_below (g := gb943) (o := .cells #[.int .i64 t939, .slice Ao44 t940.length co44] 37 (0, 0)) (by (with_reducible repeat (first | refine blk_drewN ?_ _ | refine blk_drew ?_ | refine blk_alloc ?_ _)); exact BK943.out) hb); have n5_ := Aside0.mk (Kd.S_below HO946.out hb); have n6_ := Aside0.mk (Kd.S_below HO952.out hb); have n7_ := Aside0.mk (Kd.S_below HO963.out hb); have n8_ := Aside0.mk (Kd.S_lower (Kd.S_mono (Kd.S_bound ho0) (fun k_ hk_ => (⟨hk_.2.1, hk_.2.2.1⟩ : w62.heap.size ≤ k_ ∧ k_ < w64.heap.size))) HB.out.size); have n9_ := Aside0.mk (below_step HB.out hb); have n10_ := Aside0.mk (hb.size); clear BK929; clear HO934; clear HO937; clear HO942; clear BK943; clear HO946; clear HO952; clear HO963; clear HB; have BK929 := n0_; have HO934 := n1_; have HO937 := n2_; have HO942 := n3_; have BK943 := n4_; have HO946 := n5_; have HO952 := n6_; have HO963 := n7_; have HO966 := n8_; have HB := n9_; have Zw64 := n10_; clear n0_ n1_ n2_ n3_ n4_ n5_ n6_ n7_ n8_ n9_ n10_; (try clear hb); (try clear hkp); (try clear hd_); (try clear ho0); obtain ⟨Ao65, co65, eo65⟩ := Kd.S_slice HO966.out; subst eo65) | ((with_reducible refine gate_callee (f := 20) rfl ?_); refine goesL_ (some 86) rfl rfl Try.func20 (by kernel_rfl) rfl #[.slice Ao65 t964.length co65, .slice Ao41 t935.length co41] rfl (by (try simp only [List.map_toArray, List.map_cons, List.map_nil]); first | done | rfl) ?_; (with_reducible refine (laws_eqInt64SS.calls k _ _ t964 _ _ t935 true _ ?side1 ?side2 ?side3 ?side4 A28.out).mono ?_); (case side1 => exact (Kd.S_reads' HO966.out).2.2); (case side2 => (have e_ := Kd.S_reads' HO966.out; have e1_ := e_.1; have e2_ := e_.2.1; omega)); (case side3 => exact (Kd.S_reads' HO937.out).2.2); (case side4 => (have e_ := Kd.S_reads' HO937.out; have e1_ := e_.1; have e2_ := e_.2.1; omega)); rintro e w66 ⟨rfl, hd_⟩; refine ⟨_, rfl, ?_⟩; have hb := hd_.below; have n0_ := Aside0.mk (blk_below (g := gb929) (o := .cells #[.int .i64 a0_0, .slice A0_1 l0_1.length c0_1] 33 (0, 0)) (by (with_reducible repeat (first | refine blk_drewN ?_ _ | refine blk_drew ?_ | refine blk_alloc ?_ _)); exact BK929.out) hb); have n1_ := Aside0.mk (Kd.S_below HO934.out hb); have n2_ := Aside0.mk (Kd.S_below HO937.out hb); have n3_ := Aside0.mk (Kd.S_below HO942.out hb); have n4_ := Aside0.mk (blk_below (g := gb943) (o := .cells #[.int .i64 t939, .slice Ao44 t940.length co44] 37 (0, 0)) (by (with_reducible repeat (first | refine blk_drewN ?_ _ | refine blk_drew ?_ | refine blk_alloc ?_ _)); exact BK943.out) hb); have n5_ := Aside0.mk (Kd.S_below HO946.out hb); have n6_ := Aside0.mk (Kd.S_below HO952.out hb); have n7_ := Aside0.mk (Kd.S_below HO963.out hb); have n8_ := Aside0.mk (Kd.S_below HO966.out hb); have n9_ := Aside0.mk (below_step HB.out hb); have n10_ := Aside0.mk (hb.size); clear BK929; clear HO934; clear HO937; clear HO942; clear BK943; clear HO946; clear HO952; clear HO963; clear HO966; clear HB; have BK929 := n0_; have HO934 := n1_; have HO937 := n2_; have HO942 := n3_; have BK943 := n4_; have HO946 := n5_; have HO952 := n6_; have HO963 := n7_; have HO966 := n8_; have HB := n9_; have Zw66 := n10_; clear n0_ n1_ n2_ n3_ n4_ n5_ n6_ n7_ n8_ n9_ n10_; (try clear hb); (try clear hkp); (try clear hd_)) | ((with_reducible refine gate_callee (f := 45) rfl ?_); refine goesL_ (some 95) rfl rfl Try.func45 (by kernel_rfl) rfl #[.slice Ao50 t944.length co50, .int .i64 1] rfl (by (try simp only [List.map_toArray, List.map_cons, List.map_nil]); first | done | rfl) ?_; refine calls_of_args (args' := #[.slice Ao50 t958.length co50, .int .i64 1]) (by first | rfl | (rw [show t944.length = t958.length from (Kd.S_reads' HO946.out).1] <;> rfl) | (simp only [show t944.length = t958.length from (Kd.S_reads' HO946.out).1])) ?_; (with_reducible refine (laws_heldInt64SS.calls k _ _ t958 1 t969 _ ?side1 ?side2 A31.out).mono ?_); (case side1 => exact (Kd.S_reads' HO946.out).2.2); (case side2 => (have e_ := Kd.S_reads' HO946.out; have e1_ := e_.1; have e2_ := e_.2.1; omega)); rintro e w67 ⟨rfl, hd_⟩; refine ⟨_, rfl, ?_⟩; have hb := hd_.below; have n0_ := Aside0.mk (blk_below (g := gb929) (o := .cells #[.int .i64 a0_0, .slice A0_1 l0_1.length c0_1] 33 (0, 0)) (by (with_reducible repeat (first | refine blk_drewN ?_ _ | refine blk_drew ?_ | refine blk_alloc ?_ _)); exact BK929.out) hb); have n1_ := Aside0.mk (Kd.S_below HO934.out hb); have n2_ := Aside0.mk (Kd.S_below HO937.out hb); have n3_ := Aside0.mk (Kd.S_below HO942.out hb); have n4_ := Aside0.mk (blk_below (g := gb943) (o := .cells #[.int .i64 t939, .slice Ao44 t940.length co44] 37 (0, 0)) (by (with_reducible repeat (first | refine blk_drewN ?_ _ | refine blk_drew ?_ | refine blk_alloc ?_ _)); exact BK943.out) hb); have n5_ := Aside0.mk (Kd.S_below HO946.out hb); have n6_ := Aside0.mk (Kd.S_below HO952.out hb); have n7_ := Aside0.mk (Kd.S_below HO963.out hb); have n8_ := Aside0.mk (Kd.S_below HO966.out hb); have n9_ := Aside0.mk (below_step HB.out hb); have n10_ := Aside0.mk (hb.size); clear BK929; clear HO934; clear HO937; clear HO942; clear BK943; clear HO946; clear HO952; clear HO963; clear HO966; clear HB; have BK929 := n0_; have HO934 := n1_; have HO937 := n2_; have HO942 := n3_; have BK943 := n4_; have HO946 := n5_; have HO952 := n6_; have HO963 := n7_; have HO966 := n8_; have HB := n9_; have Zw67 := n10_; clear n0_ n1_ n2_ n3_ n4_ n5_ n6_ n7_ n8_ n9_ n10_; (try clear hb); (try clear hkp); (try clear hd_)))
             go_ret
             exact ⟨by first | rfl | (simp [errW_none, errW_some] <;> rfl) | (simp [*, errW_none, errW_some] <;> rfl), by repeat (first | (with_reducible first | exact HB.out | apply below_alloc | apply pw_below_drewN | apply below_drew1 | refine below_set ?_ GE929.out | refine below_set ?_ GE943.out) | exact HB.out)⟩
            ·rw [if_neg c33] at H
             have c33b0 : (t969 == t957) = false := beq_eq_false_iff_ne.mpr c33
             have c33b1 : (t969 != t957) = true := bne_iff_ne.mpr c33
             exact absurd H (by simp)
          ·rw [if_neg c30] at H
           have c30b0 : (t967 == t938) = false := beq_eq_false_iff_ne.mpr c30
           have c30b1 : (t967 != t938) = true := bne_iff_ne.mpr c30
           exact absurd H (by simp)
         ·replace c29 := Bool.eq_false_iff.mpr c29
          subst c29
          have H1 : (some false) = some true := by rw [if_neg (show ¬ (false = true) by decide)] at H; exact H
          clear H
          have H := H1
          clear H1
          exact absurd H (by simp)
        ·rw [if_neg c25] at H
         have c25b0 : (t959 == t957) = false := beq_eq_false_iff_ne.mpr c25
         have c25b1 : (t959 != t957) = true := bne_iff_ne.mpr c25
         exact absurd H (by simp)
      ·replace c21 := Bool.eq_false_iff.mpr c21
       subst c21
       have H1 : (some false) = some true := by rw [if_neg (show ¬ (false = true) by decide)] at H; exact H
       clear H
       have H := H1
       clear H1
       exact absurd H (by simp)
    ·replace c17 := Bool.eq_false_iff.mpr c17
     subst c17
     have H1 : (some false) = some true := by rw [if_neg (show ¬ (false = true) by decide)] at H; exact H
     clear H
     have H := H1
     clear H1
     exact absurd H (by simp)
   ·rw [if_neg c14] at H
    have c14b0 : (t947 == t938) = false := beq_eq_false_iff_ne.mpr c14
    have c14b1 : (t947 != t938) = true := bne_iff_ne.mpr c14
    exact absurd H (by simp)
  ·replace c13 := Bool.eq_false_iff.mpr c13
   subst c13
   have H1 : (some false) = some true := by rw [if_neg (show ¬ (false = true) by decide)] at H; exact H
   clear H
   have H := H1
   clear H1
   exact absurd H (by simp)

/-- THE ONE PURE STATEMENT of laws_FnExactWalkMatrix: yours. -/
def laws_FnExactWalkMatrix.Pure : Prop := ∀ (a0_0 : Int) (l0_1 : List (List Int)) (a1 : Int), (Lit.int .i64 a0_0).wf = true → l0_1.length ≤ maxLen → (∀ r ∈ l0_1, r.length ≤ maxLen ∧ ∀ y ∈ r, (Lit.int .i64 y).wf = true) → (Lit.int .i64 a1).wf = true → ∃ k, laws_FnExactWalkMatrix.f k a0_0 l0_1 a1 = some true
theorem laws_FnExactWalkMatrix.walk (P : laws_FnExactWalkMatrix.Pure) (a0_0 : Int) (A0_1 : Option Addr) (c0_1 : Nat) (l0_1 : List (List Int)) (a1 : Int) (w : World) (hw0_0 : (Lit.int .i64 a0_0).wf = true) (hm0_1 : l0_1.length ≤ maxLen) (hw0_1 : (∀ r ∈ l0_1, r.length ≤ maxLen ∧ ∀ y ∈ r, (Lit.int .i64 y).wf = true)) (hr0_1 : Kd.C (Kd.slice 2 (Kd.int .i64)) w A0_1 l0_1.length l0_1) (hc0_1 : l0_1.length ≤ c0_1) (hw1 : (Lit.int .i64 a1).wf = true) :
  Calls Try.prog 11 #[.agg #[.int .i64 a0_0, .slice A0_1 l0_1.length c0_1], .int .i64 a1] w fun e w' => e = .returned (.bool true) ∧ Below w.heap.size w w' := by
 obtain ⟨k, h⟩ := P a0_0 l0_1 a1 hw0_0 hm0_1 hw0_1 hw1
 refine (laws_FnExactWalkMatrix.calls k a0_0 _ _ l0_1 a1 w hr0_1 hc0_1 h).mono ?_
 rintro e w' ⟨rfl, hd⟩
 exact ⟨rfl, hd⟩

end Go.Proofs.Yteeoehohocoecaa.G
