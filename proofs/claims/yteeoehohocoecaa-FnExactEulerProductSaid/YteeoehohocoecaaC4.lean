/- The printed functions that this law reaches, and their contracts: part 4. -/
-- printed by this repo's wip/printer out of the kit's print with its own changes
import Derived.Test.YteeoehohocoecaaC3
namespace Go.Proofs.Yteeoehohocoecaa.G
open Go.RowKit Go.Proofs.YteeoehohocoecaaW.PrintWords Go.Proofs.YteeoehohocoecaaW.PrintLast Go.Proofs.YteeoehohocoecaaW.PrintMore
attribute [local go_sem] max2_int min2_int max_two min_two max_three min_three max_four min_four   -- for this text's walks alone
set_option linter.unusedVariables false
set_option linter.unusedSimpArgs false

/-! ### laws_FnExactEulerProduct: function 14 -/
def laws_FnExactEulerProduct.f (k : Nat) (a0_0 : Int) (l0_1 : List (List Int)) (a1 : Int) : Option (Bool) := (laws_szGraph.f k a0_0 l0_1 1048576).bind fun t1188 => (if t1188 < 0 then (some true) else ((laws_toGraph.f k a0_0 l0_1).bind fun bt1189 => ((spec_EulerProduct.f k bt1189.1 bt1189.2 a1).bind fun bt1193 => ((laws_toGraph.f k a0_0 l0_1).bind fun bt1197 => ((impl_EulerProduct.f k bt1197.1 bt1197.2 a1).bind fun bt1202 => ((laws_eqInt64S.f k bt1202.1 bt1193.1).bind fun t1206 => (if t1206 = true then (if bt1202.2 = bt1193.2 then ((laws_toGraph.f k a0_0 l0_1).bind fun bt1207 => ((laws_eqGraph.f k bt1197.1 bt1197.2 bt1207.1 bt1207.2).bind fun t1211 => (if t1211 = true then ((laws_markGraph.f k bt1197.1 bt1197.2 1).bind fun bt1212 => (if bt1212.1 < 0 then (some false) else ((laws_eqInt64S.f k bt1202.1 bt1193.1).bind fun t1214 => (if t1214 = true then ((laws_markInt64S.f k bt1202.1 1).bind fun bt1215 => ((laws_heldInt64S.f k bt1215.2 1).bind fun t1217 => (if t1217 < 0 then (some false) else (if t1217 = bt1215.1 then ((laws_toGraph.f k a0_0 l0_1).bind fun bt1218 => ((impl_EulerProduct.f k bt1218.1 bt1218.2 a1).bind fun bt1222 => ((laws_eqInt64S.f k bt1222.1 bt1193.1).bind fun t1226 => (if t1226 = true then (if bt1222.2 = bt1193.2 then ((laws_heldInt64S.f k bt1215.2 1).bind fun t1227 => (if t1227 < 0 then (some false) else (if t1227 = bt1215.1 then (some true) else (some false)))) else (some false)) else (some false))))) else (some false))))) else (some false))))) else (some false)))) else (some false)) else (some false))))))))
theorem laws_FnExactEulerProduct.mono : ∀ a0 a1 a2 k, LeO (laws_FnExactEulerProduct.f k a0 a1 a2) (laws_FnExactEulerProduct.f (k + 1) a0 a1 a2) := by
 intro a0 a1 a2 k
 unfold laws_FnExactEulerProduct.f
 repeat' first
   | (with_reducible exact impl_EulerProduct.mono _ _ _ _)
   | (with_reducible exact laws_eqGraph.mono _ _ _ _ _)
   | (with_reducible exact laws_eqInt64S.mono _ _ _)
   | (with_reducible exact laws_heldInt64S.mono _ _ _)
   | (with_reducible exact laws_markGraph.mono _ _ _ _)
   | (with_reducible exact laws_markInt64S.mono _ _ _)
   | (with_reducible exact laws_szGraph.mono _ _ _ _)
   | (with_reducible exact laws_toGraph.mono _ _ _)
   | (with_reducible exact spec_EulerProduct.mono _ _ _ _)
   | (with_reducible exact LeO.refl _)
   | (with_reducible exact LeO.none _)
   | (with_reducible refine LeO.ite ?_ ?_)
   | (with_reducible refine LeO.bind ?_ (fun _ => ?_))
set_option maxHeartbeats 8000000 in
set_option maxRecDepth 100000 in
theorem laws_FnExactEulerProduct.calls (k : Nat) (a0_0 : Int) (A0_1 : Option Addr) (c0_1 : Nat) (l0_1 : List (List Int)) (a1 : Int) (w : World) (hr0_1 : Kd.C (Kd.slice 2 (Kd.int .i64)) w A0_1 l0_1.length l0_1) (hc0_1 : l0_1.length ≤ c0_1) (h : laws_FnExactEulerProduct.f k a0_0 l0_1 a1 = some true) :
  Calls Try.prog 14 #[.agg #[.int .i64 a0_0, .slice A0_1 l0_1.length c0_1], .int .i64 a1] w fun e w' => e = .returned (.bool true) ∧ Below w.heap.size w w' := by
 have hu33 := Try.underlying33
 have hu37 := Try.underlying37
 have HR0_1 := Aside0.mk hr0_1
 have HC0_1 := Aside0.mk hc0_1
 clear hr0_1 hc0_1
 have HB := Aside0.mk (Below.refl w.heap.size w)
 have H : ((laws_szGraph.f k a0_0 l0_1 1048576).bind fun t1188 => (if t1188 < 0 then (some true) else ((laws_toGraph.f k a0_0 l0_1).bind fun bt1189 => ((spec_EulerProduct.f k bt1189.1 bt1189.2 a1).bind fun bt1193 => ((laws_toGraph.f k a0_0 l0_1).bind fun bt1197 => ((impl_EulerProduct.f k bt1197.1 bt1197.2 a1).bind fun bt1202 => ((laws_eqInt64S.f k bt1202.1 bt1193.1).bind fun t1206 => (if t1206 = true then (if bt1202.2 = bt1193.2 then ((laws_toGraph.f k a0_0 l0_1).bind fun bt1207 => ((laws_eqGraph.f k bt1197.1 bt1197.2 bt1207.1 bt1207.2).bind fun t1211 => (if t1211 = true then ((laws_markGraph.f k bt1197.1 bt1197.2 1).bind fun bt1212 => (if bt1212.1 < 0 then (some false) else ((laws_eqInt64S.f k bt1202.1 bt1193.1).bind fun t1214 => (if t1214 = true then ((laws_markInt64S.f k bt1202.1 1).bind fun bt1215 => ((laws_heldInt64S.f k bt1215.2 1).bind fun t1217 => (if t1217 < 0 then (some false) else (if t1217 = bt1215.1 then ((laws_toGraph.f k a0_0 l0_1).bind fun bt1218 => ((impl_EulerProduct.f k bt1218.1 bt1218.2 a1).bind fun bt1222 => ((laws_eqInt64S.f k bt1222.1 bt1193.1).bind fun t1226 => (if t1226 = true then (if bt1222.2 = bt1193.2 then ((laws_heldInt64S.f k bt1215.2 1).bind fun t1227 => (if t1227 < 0 then (some false) else (if t1227 = bt1215.1 then (some true) else (some false)))) else (some false)) else (some false))))) else (some false))))) else (some false))))) else (some false)))) else (some false)) else (some false))))))))) = some true := h
 clear h
 replace H := Option.bind_eq_some_iff.mp H
 obtain ⟨t1188, A30, H⟩ := H
 replace H : (if t1188 < 0 then (some true) else ((laws_toGraph.f k a0_0 l0_1).bind fun bt1189 => ((spec_EulerProduct.f k bt1189.1 bt1189.2 a1).bind fun bt1193 => ((laws_toGraph.f k a0_0 l0_1).bind fun bt1197 => ((impl_EulerProduct.f k bt1197.1 bt1197.2 a1).bind fun bt1202 => ((laws_eqInt64S.f k bt1202.1 bt1193.1).bind fun t1206 => (if t1206 = true then (if bt1202.2 = bt1193.2 then ((laws_toGraph.f k a0_0 l0_1).bind fun bt1207 => ((laws_eqGraph.f k bt1197.1 bt1197.2 bt1207.1 bt1207.2).bind fun t1211 => (if t1211 = true then ((laws_markGraph.f k bt1197.1 bt1197.2 1).bind fun bt1212 => (if bt1212.1 < 0 then (some false) else ((laws_eqInt64S.f k bt1202.1 bt1193.1).bind fun t1214 => (if t1214 = true then ((laws_markInt64S.f k bt1202.1 1).bind fun bt1215 => ((laws_heldInt64S.f k bt1215.2 1).bind fun t1217 => (if t1217 < 0 then (some false) else (if t1217 = bt1215.1 then ((laws_toGraph.f k a0_0 l0_1).bind fun bt1218 => ((impl_EulerProduct.f k bt1218.1 bt1218.2 a1).bind fun bt1222 => ((laws_eqInt64S.f k bt1222.1 bt1193.1).bind fun t1226 => (if t1226 = true then (if bt1222.2 = bt1193.2 then ((laws_heldInt64S.f k bt1215.2 1).bind fun t1227 => (if t1227 < 0 then (some false) else (if t1227 = bt1215.1 then (some true) else (some false)))) else (some false)) else (some false))))) else (some false))))) else (some false))))) else (some false)))) else (some false)) else (some false)))))))) = some true := H
 have A3 := Aside0.mk A30
 clear A30
 by_cases c4 : t1188 < 0
 ·rw [if_pos c4] at H
  have c4b0 : decide (t1188 < 0) = true := decide_eq_true c4
  clear c4
  try clear H
  go_enter Try.func14, Try.ntmps14
  go_wp2_with (first | ((with_reducible refine gate_dst (N := 2) rfl ?_); refine box_event ?hg (N := 2) ?hd (cs := #[.int .i64 a0_0, .slice A0_1 l0_1.length c0_1]) (t := 33) ?hr ?_; (case hd => rfl); (case hg => rfl); (case hr => first | (go_simp; done) | (go_simp; rfl)); intro gb1187 hg w5 hbox hb; have n0_ := Aside0.mk (hb.size); have n1_ := Aside0.mk ((⟨Nat.le_of_eq hg.symm, blk_lt hbox⟩ : w.heap.size ≤ gb1187 ∧ gb1187 < w5.heap.size)); have n2_ := Aside0.mk (below_step (by repeat (first | (with_reducible first | exact HB.out | apply below_alloc | apply pw_below_drewN | apply below_drew1) | exact HB.out)) hb); have n3_ := Aside0.mk (hbox); have n4_ := Aside0.mk ((by rw [hg]; exact (below_size (by repeat (first | (with_reducible first | exact HB.out | apply below_alloc | apply pw_below_drewN | apply below_drew1) | exact HB.out))) : w.heap.size ≤ gb1187)); have n5_ := Aside0.mk ((by rw [hg]; exact (below_size (by repeat (first | (with_reducible first | exact HB.out | apply below_alloc | apply pw_below_drewN | apply below_drew1) | exact HB.out))) : w.heap.size ≤ gb1187)); clear HB; have Zw5 := n0_; have ZB1187 := n1_; have HB := n2_; have BK1187 := n3_; have GW1187 := n4_; have GE1187 := n5_; clear n0_ n1_ n2_ n3_ n4_ n5_; clear hb hbox hg; have hcz6_0 : w5.cell? ⟨gb1187, 0, none⟩ = some (.int .i64 a0_0) := (blk_cell BK1187.out 0).trans rfl; have hcz6_1 : w5.cell? ⟨gb1187, 1, none⟩ = some (.slice A0_1 l0_1.length c0_1) := (blk_cell BK1187.out 1).trans rfl; have hfz6_0 := blk_frozen BK1187.out 0; have hfz6_1 := blk_frozen BK1187.out 1) | ((with_reducible refine gate_callee (f := 24) rfl ?_); refine goesL_ (some 18) rfl rfl Try.func24 (by kernel_rfl) rfl #[.agg #[.int .i64 a0_0, .slice A0_1 l0_1.length c0_1], .int .i64 1048576] rfl (by (try simp only [List.map_toArray, List.map_cons, List.map_nil]); first | done | rfl) ?_; (with_reducible refine (laws_szGraph.calls k a0_0 _ _ l0_1 1048576 t1188 _ ?side1 ?side2 A3.out).mono ?_); (case side1 => exact (Kd.C_below HR0_1.out HB.out)); (case side2 => exact HC0_1.out); rintro e w7 ⟨rfl, hb⟩; refine ⟨_, rfl, ?_⟩; have n0_ := Aside0.mk (blk_below (g := gb1187) (o := .cells #[.int .i64 a0_0, .slice A0_1 l0_1.length c0_1] 33 (0, 0)) (by (with_reducible repeat (first | refine blk_drewN ?_ _ | refine blk_drew ?_ | refine blk_alloc ?_ _)); exact BK1187.out) hb); have n1_ := Aside0.mk (below_step HB.out hb); have n2_ := Aside0.mk (hb.size); clear BK1187; clear HB; have BK1187 := n0_; have HB := n1_; have Zw7 := n2_; clear n0_ n1_ n2_; (try clear hb); (try clear hkp); (try clear hd_)))
  go_ret
  exact ⟨by first | rfl | (simp [errW_none, errW_some] <;> rfl) | (simp [*, errW_none, errW_some] <;> rfl), by repeat (first | (with_reducible first | exact HB.out | apply below_alloc | apply pw_below_drewN | apply below_drew1 | refine below_set ?_ GE1187.out) | exact HB.out)⟩
 ·rw [if_neg c4] at H
  have c4b0 : decide (t1188 < 0) = false := decide_eq_false c4
  clear c4
  replace H := Option.bind_eq_some_iff.mp H
  obtain ⟨⟨t1189, t1190⟩, A80, H⟩ := H
  replace H : ((spec_EulerProduct.f k t1189 t1190 a1).bind fun bt1193 => ((laws_toGraph.f k a0_0 l0_1).bind fun bt1197 => ((impl_EulerProduct.f k bt1197.1 bt1197.2 a1).bind fun bt1202 => ((laws_eqInt64S.f k bt1202.1 bt1193.1).bind fun t1206 => (if t1206 = true then (if bt1202.2 = bt1193.2 then ((laws_toGraph.f k a0_0 l0_1).bind fun bt1207 => ((laws_eqGraph.f k bt1197.1 bt1197.2 bt1207.1 bt1207.2).bind fun t1211 => (if t1211 = true then ((laws_markGraph.f k bt1197.1 bt1197.2 1).bind fun bt1212 => (if bt1212.1 < 0 then (some false) else ((laws_eqInt64S.f k bt1202.1 bt1193.1).bind fun t1214 => (if t1214 = true then ((laws_markInt64S.f k bt1202.1 1).bind fun bt1215 => ((laws_heldInt64S.f k bt1215.2 1).bind fun t1217 => (if t1217 < 0 then (some false) else (if t1217 = bt1215.1 then ((laws_toGraph.f k a0_0 l0_1).bind fun bt1218 => ((impl_EulerProduct.f k bt1218.1 bt1218.2 a1).bind fun bt1222 => ((laws_eqInt64S.f k bt1222.1 bt1193.1).bind fun t1226 => (if t1226 = true then (if bt1222.2 = bt1193.2 then ((laws_heldInt64S.f k bt1215.2 1).bind fun t1227 => (if t1227 < 0 then (some false) else (if t1227 = bt1215.1 then (some true) else (some false)))) else (some false)) else (some false))))) else (some false))))) else (some false))))) else (some false)))) else (some false)) else (some false)))))) = some true := H
  have A8 := Aside0.mk A80
  clear A80
  replace H := Option.bind_eq_some_iff.mp H
  obtain ⟨⟨t1193, t1196⟩, A90, H⟩ := H
  replace H : ((laws_toGraph.f k a0_0 l0_1).bind fun bt1197 => ((impl_EulerProduct.f k bt1197.1 bt1197.2 a1).bind fun bt1202 => ((laws_eqInt64S.f k bt1202.1 t1193).bind fun t1206 => (if t1206 = true then (if bt1202.2 = t1196 then ((laws_toGraph.f k a0_0 l0_1).bind fun bt1207 => ((laws_eqGraph.f k bt1197.1 bt1197.2 bt1207.1 bt1207.2).bind fun t1211 => (if t1211 = true then ((laws_markGraph.f k bt1197.1 bt1197.2 1).bind fun bt1212 => (if bt1212.1 < 0 then (some false) else ((laws_eqInt64S.f k bt1202.1 t1193).bind fun t1214 => (if t1214 = true then ((laws_markInt64S.f k bt1202.1 1).bind fun bt1215 => ((laws_heldInt64S.f k bt1215.2 1).bind fun t1217 => (if t1217 < 0 then (some false) else (if t1217 = bt1215.1 then ((laws_toGraph.f k a0_0 l0_1).bind fun bt1218 => ((impl_EulerProduct.f k bt1218.1 bt1218.2 a1).bind fun bt1222 => ((laws_eqInt64S.f k bt1222.1 t1193).bind fun t1226 => (if t1226 = true then (if bt1222.2 = t1196 then ((laws_heldInt64S.f k bt1215.2 1).bind fun t1227 => (if t1227 < 0 then (some false) else (if t1227 = bt1215.1 then (some true) else (some false)))) else (some false)) else (some false))))) else (some false))))) else (some false))))) else (some false)))) else (some false)) else (some false))))) = some true := H
  have A9 := Aside0.mk A90
  clear A90
  replace H := Option.bind_eq_some_iff.mp H
  obtain ⟨⟨t1197, t1198⟩, A100, H⟩ := H
  replace H : ((impl_EulerProduct.f k t1197 t1198 a1).bind fun bt1202 => ((laws_eqInt64S.f k bt1202.1 t1193).bind fun t1206 => (if t1206 = true then (if bt1202.2 = t1196 then ((laws_toGraph.f k a0_0 l0_1).bind fun bt1207 => ((laws_eqGraph.f k t1197 t1198 bt1207.1 bt1207.2).bind fun t1211 => (if t1211 = true then ((laws_markGraph.f k t1197 t1198 1).bind fun bt1212 => (if bt1212.1 < 0 then (some false) else ((laws_eqInt64S.f k bt1202.1 t1193).bind fun t1214 => (if t1214 = true then ((laws_markInt64S.f k bt1202.1 1).bind fun bt1215 => ((laws_heldInt64S.f k bt1215.2 1).bind fun t1217 => (if t1217 < 0 then (some false) else (if t1217 = bt1215.1 then ((laws_toGraph.f k a0_0 l0_1).bind fun bt1218 => ((impl_EulerProduct.f k bt1218.1 bt1218.2 a1).bind fun bt1222 => ((laws_eqInt64S.f k bt1222.1 t1193).bind fun t1226 => (if t1226 = true then (if bt1222.2 = t1196 then ((laws_heldInt64S.f k bt1215.2 1).bind fun t1227 => (if t1227 < 0 then (some false) else (if t1227 = bt1215.1 then (some true) else (some false)))) else (some false)) else (some false))))) else (some false))))) else (some false))))) else (some false)))) else (some false)) else (some false)))) = some true := H
  have A10 := Aside0.mk A100
  clear A100
  replace H := Option.bind_eq_some_iff.mp H
  obtain ⟨⟨t1202, t1205⟩, A110, H⟩ := H
  replace H : ((laws_eqInt64S.f k t1202 t1193).bind fun t1206 => (if t1206 = true then (if t1205 = t1196 then ((laws_toGraph.f k a0_0 l0_1).bind fun bt1207 => ((laws_eqGraph.f k t1197 t1198 bt1207.1 bt1207.2).bind fun t1211 => (if t1211 = true then ((laws_markGraph.f k t1197 t1198 1).bind fun bt1212 => (if bt1212.1 < 0 then (some false) else ((laws_eqInt64S.f k t1202 t1193).bind fun t1214 => (if t1214 = true then ((laws_markInt64S.f k t1202 1).bind fun bt1215 => ((laws_heldInt64S.f k bt1215.2 1).bind fun t1217 => (if t1217 < 0 then (some false) else (if t1217 = bt1215.1 then ((laws_toGraph.f k a0_0 l0_1).bind fun bt1218 => ((impl_EulerProduct.f k bt1218.1 bt1218.2 a1).bind fun bt1222 => ((laws_eqInt64S.f k bt1222.1 t1193).bind fun t1226 => (if t1226 = true then (if bt1222.2 = t1196 then ((laws_heldInt64S.f k bt1215.2 1).bind fun t1227 => (if t1227 < 0 then (some false) else (if t1227 = bt1215.1 then (some true) else (some false)))) else (some false)) else (some false))))) else (some false))))) else (some false))))) else (some false)))) else (some false)) else (some false))) = some true := H
  have A11 := Aside0.mk A110
  clear A110
  replace H := Option.bind_eq_some_iff.mp H
  obtain ⟨t1206, A120, H⟩ := H
  replace H : (if t1206 = true then (if t1205 = t1196 then ((laws_toGraph.f k a0_0 l0_1).bind fun bt1207 => ((laws_eqGraph.f k t1197 t1198 bt1207.1 bt1207.2).bind fun t1211 => (if t1211 = true then ((laws_markGraph.f k t1197 t1198 1).bind fun bt1212 => (if bt1212.1 < 0 then (some false) else ((laws_eqInt64S.f k t1202 t1193).bind fun t1214 => (if t1214 = true then ((laws_markInt64S.f k t1202 1).bind fun bt1215 => ((laws_heldInt64S.f k bt1215.2 1).bind fun t1217 => (if t1217 < 0 then (some false) else (if t1217 = bt1215.1 then ((laws_toGraph.f k a0_0 l0_1).bind fun bt1218 => ((impl_EulerProduct.f k bt1218.1 bt1218.2 a1).bind fun bt1222 => ((laws_eqInt64S.f k bt1222.1 t1193).bind fun t1226 => (if t1226 = true then (if bt1222.2 = t1196 then ((laws_heldInt64S.f k bt1215.2 1).bind fun t1227 => (if t1227 < 0 then (some false) else (if t1227 = bt1215.1 then (some true) else (some false)))) else (some false)) else (some false))))) else (some false))))) else (some false))))) else (some false)))) else (some false)) else (some false)) = some true := H
  have A12 := Aside0.mk A120
  clear A120
  by_cases c13 : t1206 = true
  ·subst c13
   have H1 : (if t1205 = t1196 then ((laws_toGraph.f k a0_0 l0_1).bind fun bt1207 => ((laws_eqGraph.f k t1197 t1198 bt1207.1 bt1207.2).bind fun t1211 => (if t1211 = true then ((laws_markGraph.f k t1197 t1198 1).bind fun bt1212 => (if bt1212.1 < 0 then (some false) else ((laws_eqInt64S.f k t1202 t1193).bind fun t1214 => (if t1214 = true then ((laws_markInt64S.f k t1202 1).bind fun bt1215 => ((laws_heldInt64S.f k bt1215.2 1).bind fun t1217 => (if t1217 < 0 then (some false) else (if t1217 = bt1215.1 then ((laws_toGraph.f k a0_0 l0_1).bind fun bt1218 => ((impl_EulerProduct.f k bt1218.1 bt1218.2 a1).bind fun bt1222 => ((laws_eqInt64S.f k bt1222.1 t1193).bind fun t1226 => (if t1226 = true then (if bt1222.2 = t1196 then ((laws_heldInt64S.f k bt1215.2 1).bind fun t1227 => (if t1227 < 0 then (some false) else (if t1227 = bt1215.1 then (some true) else (some false)))) else (some false)) else (some false))))) else (some false))))) else (some false))))) else (some false)))) else (some false)) = some true := by rw [if_pos rfl] at H; exact H
   clear H
   have H := H1
   clear H1
   by_cases c14 : t1205 = t1196
   ·rw [if_pos c14] at H
    have c14b0 : (t1205 == t1196) = true := beq_iff_eq.mpr c14
    have c14b1 : (t1205 != t1196) = false := bne_eq_false_iff_eq.mpr c14
    clear c14
    replace H := Option.bind_eq_some_iff.mp H
    obtain ⟨⟨t1207, t1208⟩, A150, H⟩ := H
    replace H : ((laws_eqGraph.f k t1197 t1198 t1207 t1208).bind fun t1211 => (if t1211 = true then ((laws_markGraph.f k t1197 t1198 1).bind fun bt1212 => (if bt1212.1 < 0 then (some false) else ((laws_eqInt64S.f k t1202 t1193).bind fun t1214 => (if t1214 = true then ((laws_markInt64S.f k t1202 1).bind fun bt1215 => ((laws_heldInt64S.f k bt1215.2 1).bind fun t1217 => (if t1217 < 0 then (some false) else (if t1217 = bt1215.1 then ((laws_toGraph.f k a0_0 l0_1).bind fun bt1218 => ((impl_EulerProduct.f k bt1218.1 bt1218.2 a1).bind fun bt1222 => ((laws_eqInt64S.f k bt1222.1 t1193).bind fun t1226 => (if t1226 = true then (if bt1222.2 = t1196 then ((laws_heldInt64S.f k bt1215.2 1).bind fun t1227 => (if t1227 < 0 then (some false) else (if t1227 = bt1215.1 then (some true) else (some false)))) else (some false)) else (some false))))) else (some false))))) else (some false))))) else (some false))) = some true := H
    have A15 := Aside0.mk A150
    clear A150
    replace H := Option.bind_eq_some_iff.mp H
    obtain ⟨t1211, A160, H⟩ := H
    replace H : (if t1211 = true then ((laws_markGraph.f k t1197 t1198 1).bind fun bt1212 => (if bt1212.1 < 0 then (some false) else ((laws_eqInt64S.f k t1202 t1193).bind fun t1214 => (if t1214 = true then ((laws_markInt64S.f k t1202 1).bind fun bt1215 => ((laws_heldInt64S.f k bt1215.2 1).bind fun t1217 => (if t1217 < 0 then (some false) else (if t1217 = bt1215.1 then ((laws_toGraph.f k a0_0 l0_1).bind fun bt1218 => ((impl_EulerProduct.f k bt1218.1 bt1218.2 a1).bind fun bt1222 => ((laws_eqInt64S.f k bt1222.1 t1193).bind fun t1226 => (if t1226 = true then (if bt1222.2 = t1196 then ((laws_heldInt64S.f k bt1215.2 1).bind fun t1227 => (if t1227 < 0 then (some false) else (if t1227 = bt1215.1 then (some true) else (some false)))) else (some false)) else (some false))))) else (some false))))) else (some false))))) else (some false)) = some true := H
    have A16 := Aside0.mk A160
    clear A160
    by_cases c17 : t1211 = true
    ·subst c17
     have H1 : ((laws_markGraph.f k t1197 t1198 1).bind fun bt1212 => (if bt1212.1 < 0 then (some false) else ((laws_eqInt64S.f k t1202 t1193).bind fun t1214 => (if t1214 = true then ((laws_markInt64S.f k t1202 1).bind fun bt1215 => ((laws_heldInt64S.f k bt1215.2 1).bind fun t1217 => (if t1217 < 0 then (some false) else (if t1217 = bt1215.1 then ((laws_toGraph.f k a0_0 l0_1).bind fun bt1218 => ((impl_EulerProduct.f k bt1218.1 bt1218.2 a1).bind fun bt1222 => ((laws_eqInt64S.f k bt1222.1 t1193).bind fun t1226 => (if t1226 = true then (if bt1222.2 = t1196 then ((laws_heldInt64S.f k bt1215.2 1).bind fun t1227 => (if t1227 < 0 then (some false) else (if t1227 = bt1215.1 then (some true) else (some false)))) else (some false)) else (some false))))) else (some false))))) else (some false))))) = some true := by rw [if_pos rfl] at H; exact H
     clear H
     have H := H1
     clear H1
     replace H := Option.bind_eq_some_iff.mp H
     obtain ⟨⟨t1212, t1213⟩, A180, H⟩ := H
     replace H : (if t1212 < 0 then (some false) else ((laws_eqInt64S.f k t1202 t1193).bind fun t1214 => (if t1214 = true then ((laws_markInt64S.f k t1202 1).bind fun bt1215 => ((laws_heldInt64S.f k bt1215.2 1).bind fun t1217 => (if t1217 < 0 then (some false) else (if t1217 = bt1215.1 then ((laws_toGraph.f k a0_0 l0_1).bind fun bt1218 => ((impl_EulerProduct.f k bt1218.1 bt1218.2 a1).bind fun bt1222 => ((laws_eqInt64S.f k bt1222.1 t1193).bind fun t1226 => (if t1226 = true then (if bt1222.2 = t1196 then ((laws_heldInt64S.f k bt1215.2 1).bind fun t1227 => (if t1227 < 0 then (some false) else (if t1227 = bt1215.1 then (some true) else (some false)))) else (some false)) else (some false))))) else (some false))))) else (some false)))) = some true := H
     have A18 := Aside0.mk A180
     clear A180
     by_cases c19 : t1212 < 0
     ·rw [if_pos c19] at H
      have c19b0 : decide (t1212 < 0) = true := decide_eq_true c19
      clear c19
      exact absurd H (by simp)
     ·rw [if_neg c19] at H
      have c19b0 : decide (t1212 < 0) = false := decide_eq_false c19
      clear c19
      replace H := Option.bind_eq_some_iff.mp H
      obtain ⟨t1214, A200, H⟩ := H
      replace H : (if t1214 = true then ((laws_markInt64S.f k t1202 1).bind fun bt1215 => ((laws_heldInt64S.f k bt1215.2 1).bind fun t1217 => (if t1217 < 0 then (some false) else (if t1217 = bt1215.1 then ((laws_toGraph.f k a0_0 l0_1).bind fun bt1218 => ((impl_EulerProduct.f k bt1218.1 bt1218.2 a1).bind fun bt1222 => ((laws_eqInt64S.f k bt1222.1 t1193).bind fun t1226 => (if t1226 = true then (if bt1222.2 = t1196 then ((laws_heldInt64S.f k bt1215.2 1).bind fun t1227 => (if t1227 < 0 then (some false) else (if t1227 = bt1215.1 then (some true) else (some false)))) else (some false)) else (some false))))) else (some false))))) else (some false)) = some true := H
      have A20 := Aside0.mk A200
      clear A200
      by_cases c21 : t1214 = true
      ·subst c21
       have H1 : ((laws_markInt64S.f k t1202 1).bind fun bt1215 => ((laws_heldInt64S.f k bt1215.2 1).bind fun t1217 => (if t1217 < 0 then (some false) else (if t1217 = bt1215.1 then ((laws_toGraph.f k a0_0 l0_1).bind fun bt1218 => ((impl_EulerProduct.f k bt1218.1 bt1218.2 a1).bind fun bt1222 => ((laws_eqInt64S.f k bt1222.1 t1193).bind fun t1226 => (if t1226 = true then (if bt1222.2 = t1196 then ((laws_heldInt64S.f k bt1215.2 1).bind fun t1227 => (if t1227 < 0 then (some false) else (if t1227 = bt1215.1 then (some true) else (some false)))) else (some false)) else (some false))))) else (some false))))) = some true := by rw [if_pos rfl] at H; exact H
       clear H
       have H := H1
       clear H1
       replace H := Option.bind_eq_some_iff.mp H
       obtain ⟨⟨t1215, t1216⟩, A220, H⟩ := H
       replace H : ((laws_heldInt64S.f k t1216 1).bind fun t1217 => (if t1217 < 0 then (some false) else (if t1217 = t1215 then ((laws_toGraph.f k a0_0 l0_1).bind fun bt1218 => ((impl_EulerProduct.f k bt1218.1 bt1218.2 a1).bind fun bt1222 => ((laws_eqInt64S.f k bt1222.1 t1193).bind fun t1226 => (if t1226 = true then (if bt1222.2 = t1196 then ((laws_heldInt64S.f k t1216 1).bind fun t1227 => (if t1227 < 0 then (some false) else (if t1227 = t1215 then (some true) else (some false)))) else (some false)) else (some false))))) else (some false)))) = some true := H
       have A22 := Aside0.mk A220
       clear A220
       replace H := Option.bind_eq_some_iff.mp H
       obtain ⟨t1217, A230, H⟩ := H
       replace H : (if t1217 < 0 then (some false) else (if t1217 = t1215 then ((laws_toGraph.f k a0_0 l0_1).bind fun bt1218 => ((impl_EulerProduct.f k bt1218.1 bt1218.2 a1).bind fun bt1222 => ((laws_eqInt64S.f k bt1222.1 t1193).bind fun t1226 => (if t1226 = true then (if bt1222.2 = t1196 then ((laws_heldInt64S.f k t1216 1).bind fun t1227 => (if t1227 < 0 then (some false) else (if t1227 = t1215 then (some true) else (some false)))) else (some false)) else (some false))))) else (some false))) = some true := H
       have A23 := Aside0.mk A230
       clear A230
       by_cases c24 : t1217 < 0
       ·rw [if_pos c24] at H
        have c24b0 : decide (t1217 < 0) = true := decide_eq_true c24
        clear c24
        exact absurd H (by simp)
       ·rw [if_neg c24] at H
        have c24b0 : decide (t1217 < 0) = false := decide_eq_false c24
        clear c24
        by_cases c25 : t1217 = t1215
        ·rw [if_pos c25] at H
         have c25b0 : (t1217 == t1215) = true := beq_iff_eq.mpr c25
         have c25b1 : (t1217 != t1215) = false := bne_eq_false_iff_eq.mpr c25
         clear c25
         replace H := Option.bind_eq_some_iff.mp H
         obtain ⟨⟨t1218, t1219⟩, A260, H⟩ := H
         replace H : ((impl_EulerProduct.f k t1218 t1219 a1).bind fun bt1222 => ((laws_eqInt64S.f k bt1222.1 t1193).bind fun t1226 => (if t1226 = true then (if bt1222.2 = t1196 then ((laws_heldInt64S.f k t1216 1).bind fun t1227 => (if t1227 < 0 then (some false) else (if t1227 = t1215 then (some true) else (some false)))) else (some false)) else (some false)))) = some true := H
         have A26 := Aside0.mk A260
         clear A260
         replace H := Option.bind_eq_some_iff.mp H
         obtain ⟨⟨t1222, t1225⟩, A270, H⟩ := H
         replace H : ((laws_eqInt64S.f k t1222 t1193).bind fun t1226 => (if t1226 = true then (if t1225 = t1196 then ((laws_heldInt64S.f k t1216 1).bind fun t1227 => (if t1227 < 0 then (some false) else (if t1227 = t1215 then (some true) else (some false)))) else (some false)) else (some false))) = some true := H
         have A27 := Aside0.mk A270
         clear A270
         replace H := Option.bind_eq_some_iff.mp H
         obtain ⟨t1226, A280, H⟩ := H
         replace H : (if t1226 = true then (if t1225 = t1196 then ((laws_heldInt64S.f k t1216 1).bind fun t1227 => (if t1227 < 0 then (some false) else (if t1227 = t1215 then (some true) else (some false)))) else (some false)) else (some false)) = some true := H
         have A28 := Aside0.mk A280
         clear A280
         by_cases c29 : t1226 = true
         ·subst c29
          have H1 : (if t1225 = t1196 then ((laws_heldInt64S.f k t1216 1).bind fun t1227 => (if t1227 < 0 then (some false) else (if t1227 = t1215 then (some true) else (some false)))) else (some false)) = some true := by rw [if_pos rfl] at H; exact H
          clear H
          have H := H1
          clear H1
          by_cases c30 : t1225 = t1196
          ·rw [if_pos c30] at H
           have c30b0 : (t1225 == t1196) = true := beq_iff_eq.mpr c30
           have c30b1 : (t1225 != t1196) = false := bne_eq_false_iff_eq.mpr c30
           clear c30
           replace H := Option.bind_eq_some_iff.mp H
           obtain ⟨t1227, A310, H⟩ := H
           replace H : (if t1227 < 0 then (some false) else (if t1227 = t1215 then (some true) else (some false))) = some true := H
           have A31 := Aside0.mk A310
           clear A310
           by_cases c32 : t1227 < 0
           ·rw [if_pos c32] at H
            have c32b0 : decide (t1227 < 0) = true := decide_eq_true c32
            clear c32
            exact absurd H (by simp)
           ·rw [if_neg c32] at H
            have c32b0 : decide (t1227 < 0) = false := decide_eq_false c32
            clear c32
            by_cases c33 : t1227 = t1215
            ·rw [if_pos c33] at H
             have c33b0 : (t1227 == t1215) = true := beq_iff_eq.mpr c33
             have c33b1 : (t1227 != t1215) = false := bne_eq_false_iff_eq.mpr c33
             clear c33
             try clear H
             go_enter Try.func14, Try.ntmps14
             try go_wp2_with (first | ((with_reducible refine gate_dst (N := 2) rfl ?_); refine box_event ?hg (N := 2) ?hd (cs := #[.int .i64 a0_0, .slice A0_1 l0_1.length c0_1]) (t := 33) ?hr ?_; (case hd => rfl); (case hg => rfl); (case hr => first | (go_simp; done) | (go_simp; rfl)); intro gb1187 hg w34 hbox hb; have n0_ := Aside0.mk (hb.size); have n1_ := Aside0.mk ((⟨Nat.le_of_eq hg.symm, blk_lt hbox⟩ : w.heap.size ≤ gb1187 ∧ gb1187 < w34.heap.size)); have n2_ := Aside0.mk (below_step (by repeat (first | (with_reducible first | exact HB.out | apply below_alloc | apply pw_below_drewN | apply below_drew1) | exact HB.out)) hb); have n3_ := Aside0.mk (hbox); have n4_ := Aside0.mk ((by rw [hg]; exact (below_size (by repeat (first | (with_reducible first | exact HB.out | apply below_alloc | apply pw_below_drewN | apply below_drew1) | exact HB.out))) : w.heap.size ≤ gb1187)); have n5_ := Aside0.mk ((by rw [hg]; exact (below_size (by repeat (first | (with_reducible first | exact HB.out | apply below_alloc | apply pw_below_drewN | apply below_drew1) | exact HB.out))) : w.heap.size ≤ gb1187)); clear HB; have Zw34 := n0_; have ZB1187 := n1_; have HB := n2_; have BK1187 := n3_; have GW1187 := n4_; have GE1187 := n5_; clear n0_ n1_ n2_ n3_ n4_ n5_; clear hb hbox hg; have hcz35_0 : w34.cell? ⟨gb1187, 0, none⟩ = some (.int .i64 a0_0) := (blk_cell BK1187.out 0).trans rfl; have hcz35_1 : w34.cell? ⟨gb1187, 1, none⟩ = some (.slice A0_1 l0_1.length c0_1) := (blk_cell BK1187.out 1).trans rfl; have hfz35_0 := blk_frozen BK1187.out 0; have hfz35_1 := blk_frozen BK1187.out 1) | ((with_reducible refine gate_callee (f := 24) rfl ?_); refine goesL_ (some 18) rfl rfl Try.func24 (by kernel_rfl) rfl #[.agg #[.int .i64 a0_0, .slice A0_1 l0_1.length c0_1], .int .i64 1048576] rfl (by (try simp only [List.map_toArray, List.map_cons, List.map_nil]); first | done | rfl) ?_; (with_reducible refine (laws_szGraph.calls k a0_0 _ _ l0_1 1048576 t1188 _ ?side1 ?side2 A3.out).mono ?_); (case side1 => exact (Kd.C_below HR0_1.out HB.out)); (case side2 => exact HC0_1.out); rintro e w36 ⟨rfl, hb⟩; refine ⟨_, rfl, ?_⟩; have n0_ := Aside0.mk (blk_below (g := gb1187) (o := .cells #[.int .i64 a0_0, .slice A0_1 l0_1.length c0_1] 33 (0, 0)) (by (with_reducible repeat (first | refine blk_drewN ?_ _ | refine blk_drew ?_ | refine blk_alloc ?_ _)); exact BK1187.out) hb); have n1_ := Aside0.mk (below_step HB.out hb); have n2_ := Aside0.mk (hb.size); clear BK1187; clear HB; have BK1187 := n0_; have HB := n1_; have Zw36 := n2_; clear n0_ n1_ n2_; (try clear hb); (try clear hkp); (try clear hd_); have hcz37_0 : w36.cell? ⟨gb1187, 0, none⟩ = some (.int .i64 a0_0) := (blk_cell BK1187.out 0).trans rfl; have hcz37_1 : w36.cell? ⟨gb1187, 1, none⟩ = some (.slice A0_1 l0_1.length c0_1) := (blk_cell BK1187.out 1).trans rfl; have hfz37_0 := blk_frozen BK1187.out 0; have hfz37_1 := blk_frozen BK1187.out 1) | ((with_reducible refine gate_callee (f := 26) rfl ?_); refine goesL_ (some 23) rfl rfl Try.func26 (by kernel_rfl) rfl #[.agg #[.int .i64 a0_0, .slice A0_1 l0_1.length c0_1]] rfl (by (try simp only [List.map_toArray, List.map_cons, List.map_nil]); first | done | rfl) ?_; (with_reducible refine (laws_toGraph.calls k a0_0 _ _ l0_1 t1189 t1190 _ ?side1 ?side2 A8.out).mono ?_); (case side1 => exact (Kd.C_below HR0_1.out HB.out)); (case side2 => exact HC0_1.out); rintro e w38 ⟨v1191, rfl, ho0, hb⟩; refine ⟨_, rfl, ?_⟩; have n0_ := Aside0.mk (blk_below (g := gb1187) (o := .cells #[.int .i64 a0_0, .slice A0_1 l0_1.length c0_1] 33 (0, 0)) (by (with_reducible repeat (first | refine blk_drewN ?_ _ | refine blk_drew ?_ | refine blk_alloc ?_ _)); exact BK1187.out) hb); have n1_ := Aside0.mk (Kd.S_lower (Kd.S_mono (Kd.S_bound ho0) (fun k_ hk_ => (⟨hk_.2.1, hk_.2.2.1⟩ : w36.heap.size ≤ k_ ∧ k_ < w38.heap.size))) HB.out.size); have n2_ := Aside0.mk (below_step HB.out hb); have n3_ := Aside0.mk (hb.size); clear BK1187; clear HB; have BK1187 := n0_; have HO1192 := n1_; have HB := n2_; have Zw38 := n3_; clear n0_ n1_ n2_ n3_; (try clear hb); (try clear hkp); (try clear hd_); (try clear ho0); obtain ⟨Ao39, co39, eo39⟩ := Kd.S_slice HO1192.out; subst eo39) | ((with_reducible refine gate_callee (f := 50) rfl ?_); refine goesL_ (some 25) rfl rfl Try.func50 (by kernel_rfl) rfl #[.agg #[.int .i64 t1189, .slice Ao39 t1190.length co39], .int .i64 a1] rfl (by (try simp only [List.map_toArray, List.map_cons, List.map_nil]); first | done | rfl) ?_; (with_reducible refine (spec_EulerProduct.calls k t1189 _ _ t1190 a1 t1193 t1196 _ ?side1 ?side2 A9.out).mono ?_); (case side1 => exact (Kd.S_reads' HO1192.out).2.2); (case side2 => (have e_ := Kd.S_reads' HO1192.out; have e1_ := e_.1; have e2_ := e_.2.1; omega)); rintro e w40 ⟨v1194, rfl, ho0, hb⟩; refine ⟨_, rfl, ?_⟩; have n0_ := Aside0.mk (blk_below (g := gb1187) (o := .cells #[.int .i64 a0_0, .slice A0_1 l0_1.length c0_1] 33 (0, 0)) (by (with_reducible repeat (first | refine blk_drewN ?_ _ | refine blk_drew ?_ | refine blk_alloc ?_ _)); exact BK1187.out) hb); have n1_ := Aside0.mk (Kd.S_below HO1192.out hb); have n2_ := Aside0.mk (Kd.R_lower (Kd.R_mono (Kd.R_bound ho0) (fun k_ hk_ => (⟨hk_.2.1, hk_.2.2.1⟩ : w38.heap.size ≤ k_ ∧ k_ < w40.heap.size))) HB.out.size); have n3_ := Aside0.mk (below_step HB.out hb); have n4_ := Aside0.mk (hb.size); clear BK1187; clear HO1192; clear HB; have BK1187 := n0_; have HO1192 := n1_; have HO1195 := n2_; have HB := n3_; have Zw40 := n4_; clear n0_ n1_ n2_ n3_ n4_; (try clear hb); (try clear hkp); (try clear hd_); (try clear ho0); obtain ⟨Ao41, co41, eo41⟩ := Kd.R_slice HO1195.out; subst eo41; have hcz42_0 : w40.cell? ⟨gb1187, 0, none⟩ = some (.int .i64 a0_0) := (blk_cell BK1187.out 0).trans rfl; have hcz42_1 : w40.cell? ⟨gb1187, 1, none⟩ = some (.slice A0_1 l0_1.length c0_1) := (blk_cell BK1187.out 1).trans rfl; have hfz42_0 := blk_frozen BK1187.out 0; have hfz42_1 := blk_frozen BK1187.out 1) | ((with_reducible refine gate_callee (f := 26) rfl ?_); refine goesL_ (some 29) rfl rfl Try.func26 (by kernel_rfl) rfl #[.agg #[.int .i64 a0_0, .slice A0_1 l0_1.length c0_1]] rfl (by (try simp only [List.map_toArray, List.map_cons, List.map_nil]); first | done | rfl) ?_; (with_reducible refine (laws_toGraph.calls k a0_0 _ _ l0_1 t1197 t1198 _ ?side1 ?side2 A10.out).mono ?_); (case side1 => exact (Kd.C_below HR0_1.out HB.out)); (case side2 => exact HC0_1.out); rintro e w43 ⟨v1199, rfl, ho0, hb⟩; refine ⟨_, rfl, ?_⟩; have n0_ := Aside0.mk (blk_below (g := gb1187) (o := .cells #[.int .i64 a0_0, .slice A0_1 l0_1.length c0_1] 33 (0, 0)) (by (with_reducible repeat (first | refine blk_drewN ?_ _ | refine blk_drew ?_ | refine blk_alloc ?_ _)); exact BK1187.out) hb); have n1_ := Aside0.mk (Kd.S_below HO1192.out hb); have n2_ := Aside0.mk (Kd.R_below HO1195.out hb); have n3_ := Aside0.mk (Kd.S_lower (Kd.S_mono (Kd.S_bound ho0) (fun k_ hk_ => (⟨hk_.2.1, hk_.2.2.1⟩ : w40.heap.size ≤ k_ ∧ k_ < w43.heap.size))) HB.out.size); have n4_ := Aside0.mk (below_step HB.out hb); have n5_ := Aside0.mk (hb.size); clear BK1187; clear HO1192; clear HO1195; clear HB; have BK1187 := n0_; have HO1192 := n1_; have HO1195 := n2_; have HO1200 := n3_; have HB := n4_; have Zw43 := n5_; clear n0_ n1_ n2_ n3_ n4_ n5_; (try clear hb); (try clear hkp); (try clear hd_); (try clear ho0); obtain ⟨Ao44, co44, eo44⟩ := Kd.S_slice HO1200.out; subst eo44) | ((with_reducible refine gate_dst (N := 8) rfl ?_); refine box_event ?hg (N := 8) ?hd (cs := #[.int .i64 0, .slice none 0 0]) (t := 37) ?hr ?_; (case hd => rfl); (case hg => rfl); (case hr => first | (go_simp; done) | (go_simp; rfl)); intro gb1201 hg w45 hbox hb; have n0_ := Aside0.mk (Kd.S_below HO1192.out hb); have n1_ := Aside0.mk (Kd.R_below HO1195.out hb); have n2_ := Aside0.mk (Kd.S_below HO1200.out hb); have n3_ := Aside0.mk (blk_below (g := gb1187) (o := .cells #[.int .i64 a0_0, .slice A0_1 l0_1.length c0_1] 33 (0, 0)) (by (with_reducible repeat (first | refine blk_drewN ?_ _ | refine blk_drew ?_ | refine blk_alloc ?_ _)); exact BK1187.out) hb); have n4_ := Aside0.mk (hb.size); have n5_ := Aside0.mk ((⟨Nat.le_of_eq hg.symm, blk_lt hbox⟩ : w43.heap.size ≤ gb1201 ∧ gb1201 < w45.heap.size)); have n6_ := Aside0.mk (below_step (by repeat (first | (with_reducible first | exact HB.out | apply below_alloc | apply pw_below_drewN | apply below_drew1 | refine below_set ?_ GE1187.out) | exact HB.out)) hb); have n7_ := Aside0.mk (hbox); have n8_ := Aside0.mk ((by rw [hg]; exact (below_size (by repeat (first | (with_reducible first | exact HB.out | apply below_alloc | apply pw_below_drewN | apply below_drew1 | refine below_set ?_ GE1187.out) | exact HB.out))) : w.heap.size ≤ gb1201)); have n9_ := Aside0.mk ((by rw [hg]; exact (below_size (by repeat (first | (with_reducible first | exact HB.out | apply below_alloc | apply pw_below_drewN | apply below_drew1 | refine below_set ?_ GE1187.out) | exact HB.out))) : w.heap.size ≤ gb1201)); have n10_ := Aside0.mk ((by rw [hg]; exact Nat.ne_of_lt (blk_lt (g := gb1187) (o := .cells #[.int .i64 a0_0, .slice A0_1 l0_1.length c0_1] 33 (0, 0)) (by (with_reducible repeat (first | refine blk_drewN ?_ _ | refine blk_drew ?_ | refine blk_alloc ?_ _)); exact BK1187.out)) : gb1187 ≠ gb1201)); have n11_ := Aside0.mk ((by rw [hg]; exact Nat.ne_of_gt (blk_lt (g := gb1187) (o := .cells #[.int .i64 a0_0, .slice A0_1 l0_1.length c0_1] 33 (0, 0)) (by (with_reducible repeat (first | refine blk_drewN ?_ _ | refine blk_drew ?_ | refine blk_alloc ?_ _)); exact BK1187.out)) : gb1201 ≠ gb1187)); clear HO1192; clear HO1195; clear HO1200; clear BK1187; clear HB; have HO1192 := n0_; have HO1195 := n1_; have HO1200 := n2_; have BK1187 := n3_; have Zw45 := n4_; have ZB1201 := n5_; have HB := n6_; have BK1201 := n7_; have GW1201 := n8_; have GE1201 := n9_; have NB1187_1201 := n10_; have NB1201_1187 := n11_; clear n0_ n1_ n2_ n3_ n4_ n5_ n6_ n7_ n8_ n9_ n10_ n11_; clear hb hbox hg; have hnb46 := NB1201_1187.out; have hnc46 := NB1187_1201.out; have hcz47_0 : w45.cell? ⟨gb1201, 0, none⟩ = some (.int .i64 0) := (blk_cell BK1201.out 0).trans rfl; have hcz47_1 : w45.cell? ⟨gb1201, 1, none⟩ = some (.slice none 0 0) := (blk_cell BK1201.out 1).trans rfl; have hfz47_0 := blk_frozen BK1201.out 0; have hfz47_1 := blk_frozen BK1201.out 1) | ((with_reducible refine gate_callee (f := 51) rfl ?_); have n0_ := Aside0.mk (show ((w45.setCell ⟨gb1201, 0, none⟩ (.int .i64 t1197)).setCell ⟨gb1201, 1, none⟩ (.slice Ao44 t1198.length co44)).heap[gb1187]? = some (.cells #[.int .i64 a0_0, .slice A0_1 l0_1.length c0_1] 33 (0, 0)) from (by (with_reducible repeat (first | refine blk_drewN ?_ _ | refine blk_drew ?_ | refine blk_alloc ?_ _)); refine blk_far ?_ NB1187_1201.out _; (with_reducible repeat (first | refine blk_drewN ?_ _ | refine blk_drew ?_ | refine blk_alloc ?_ _)); refine blk_far ?_ NB1187_1201.out _; (with_reducible repeat (first | refine blk_drewN ?_ _ | refine blk_drew ?_ | refine blk_alloc ?_ _)); exact BK1187.out)); have n1_ := Aside0.mk (show Kd.S (Kd.slice 2 (Kd.int .i64)) 24 ((w45.setCell ⟨gb1201, 0, none⟩ (.int .i64 t1197)).setCell ⟨gb1201, 1, none⟩ (.slice Ao44 t1198.length co44)) w.heap.size (fun k_ => w36.heap.size ≤ k_ ∧ k_ < w38.heap.size) (.slice Ao39 t1190.length co39) t1190 from (Kd.S_far (Kd.S_far HO1192.out (fun k_ ho_ => (show k_ ≠ gb1201 from by have h1_ := ho_.1; have h2_ := ho_.2; have h3_ := ZB1201.out.1; have h4_ := ZB1201.out.2; have := Zw34.out; have := Zw36.out; have := Zw38.out; have := Zw40.out; have := Zw43.out; have := Zw45.out; omega)) _) (fun k_ ho_ => (show k_ ≠ gb1201 from by have h1_ := ho_.1; have h2_ := ho_.2; have h3_ := ZB1201.out.1; have h4_ := ZB1201.out.2; have := Zw34.out; have := Zw36.out; have := Zw38.out; have := Zw40.out; have := Zw43.out; have := Zw45.out; omega)) _)); have n2_ := Aside0.mk (show Kd.R (Kd.int .i64) 2 ((w45.setCell ⟨gb1201, 0, none⟩ (.int .i64 t1197)).setCell ⟨gb1201, 1, none⟩ (.slice Ao44 t1198.length co44)) w.heap.size (fun k_ => w38.heap.size ≤ k_ ∧ k_ < w40.heap.size) (.slice Ao41 t1193.length co41) t1193 from (Kd.R_far (Kd.R_far HO1195.out (fun k_ ho_ => (show k_ ≠ gb1201 from by have h1_ := ho_.1; have h2_ := ho_.2; have h3_ := ZB1201.out.1; have h4_ := ZB1201.out.2; have := Zw34.out; have := Zw36.out; have := Zw38.out; have := Zw40.out; have := Zw43.out; have := Zw45.out; omega)) _) (fun k_ ho_ => (show k_ ≠ gb1201 from by have h1_ := ho_.1; have h2_ := ho_.2; have h3_ := ZB1201.out.1; have h4_ := ZB1201.out.2; have := Zw34.out; have := Zw36.out; have := Zw38.out; have := Zw40.out; have := Zw43.out; have := Zw45.out; omega)) _)); have n3_ := Aside0.mk (show Kd.S (Kd.slice 2 (Kd.int .i64)) 24 ((w45.setCell ⟨gb1201, 0, none⟩ (.int .i64 t1197)).setCell ⟨gb1201, 1, none⟩ (.slice Ao44 t1198.length co44)) w.heap.size (fun k_ => w40.heap.size ≤ k_ ∧ k_ < w43.heap.size) (.slice Ao44 t1198.length co44) t1198 from (Kd.S_far (Kd.S_far HO1200.out (fun k_ ho_ => (show k_ ≠ gb1201 from by have h1_ := ho_.1; have h2_ := ho_.2; have h3_ := ZB1201.out.1; have h4_ := ZB1201.out.2; have := Zw34.out; have := Zw36.out; have := Zw38.out; have := Zw40.out; have := Zw43.out; have := Zw45.out; omega)) _) (fun k_ ho_ => (show k_ ≠ gb1201 from by have h1_ := ho_.1; have h2_ := ho_.2; have h3_ := ZB1201.out.1; have h4_ := ZB1201.out.2; have := Zw34.out; have := Zw36.out; have := Zw38.out; have := Zw40.out; have := Zw43.out; have := Zw45.out; omega)) _)); have n4_ := Aside0.mk (show ((w45.setCell ⟨gb1201, 0, none⟩ (.int .i64 t1197)).setCell ⟨gb1201, 1, none⟩ (.slice Ao44 t1198.length co44)).heap[gb1201]? = some (.cells #[.int .i64 t1197, .slice Ao44 t1198.length co44] 37 (0, 0)) from (by (with_reducible repeat (first | refine blk_drewN ?_ _ | refine blk_drew ?_ | refine blk_alloc ?_ _)); refine blk_put (cs := #[.int .i64 t1197, .slice none 0 0]) ?_ 1 _ rfl; (with_reducible repeat (first | refine blk_drewN ?_ _ | refine blk_drew ?_ | refine blk_alloc ?_ _)); refine blk_put (cs := #[.int .i64 0, .slice none 0 0]) ?_ 0 _ rfl; (with_reducible repeat (first | refine blk_drewN ?_ _ | refine blk_drew ?_ | refine blk_alloc ?_ _)); exact BK1201.out)); have n5_ := Aside0.mk (show Below w.heap.size w ((w45.setCell ⟨gb1201, 0, none⟩ (.int .i64 t1197)).setCell ⟨gb1201, 1, none⟩ (.slice Ao44 t1198.length co44)) from (below_set (below_set HB.out GE1201.out) GE1201.out)); have n6_ := Aside0.mk (show w45.heap.size ≤ ((w45.setCell ⟨gb1201, 0, none⟩ (.int .i64 t1197)).setCell ⟨gb1201, 1, none⟩ (.slice Ao44 t1198.length co44)).heap.size from (Kept.setCell (Kept.setCell (Kept.refl w45 (fun _ => True)) (.inl trivial) _) (.inl trivial) _).1); clear BK1187; clear HO1192; clear HO1195; clear HO1200; clear BK1201; clear HB; generalize hW_ : ((w45.setCell ⟨gb1201, 0, none⟩ (.int .i64 t1197)).setCell ⟨gb1201, 1, none⟩ (.slice Ao44 t1198.length co44)) = w48 at n0_ n1_ n2_ n3_ n4_ n5_ n6_ ⊢; clear hW_; have BK1187 := n0_; have HO1192 := n1_; have HO1195 := n2_; have HO1200 := n3_; have BK1201 := n4_; have HB := n5_; have Zw48 := n6_; clear n0_ n1_ n2_ n3_ n4_ n5_ n6_; refine goesL_ (some 33) rfl rfl Try.func51 (by kernel_rfl) rfl #[.agg #[.int .i64 t1197, .slice Ao44 t1198.length co44], .int .i64 a1] rfl (by (try simp only [List.map_toArray, List.map_cons, List.map_nil]); first | done | rfl) ?_; (with_reducible refine (impl_EulerProduct.calls k t1197 _ _ t1198 a1 t1202 t1205 _ ?side1 ?side2 A11.out).mono ?_); (case side1 => exact (Kd.S_reads' HO1200.out).2.2); (case side2 => (have e_ := Kd.S_reads' HO1200.out; have e1_ := e_.1; have e2_ := e_.2.1; omega)); rintro e w49 ⟨v1203, rfl, ho0, hb⟩; refine ⟨_, rfl, ?_⟩; have n0_ := Aside0.mk (blk_below (g := gb1187) (o := .cells #[.int .i64 a0_0, .slice A0_1 l0_1.length c0_1] 33 (0, 0)) (by (with_reducible repeat (first | refine blk_drewN ?_ _ | refine blk_drew ?_ | refine blk_alloc ?_ _)); exact BK1187.out) hb); have n1_ := Aside0.mk (Kd.S_below HO1192.out hb); have n2_ := Aside0.mk (Kd.R_below HO1195.out hb); have n3_ := Aside0.mk (Kd.S_below HO1200.out hb); have n4_ := Aside0.mk (blk_below (g := gb1201) (o := .cells #[.int .i64 t1197, .slice Ao44 t1198.length co44] 37 (0, 0)) (by (with_reducible repeat (first | refine blk_drewN ?_ _ | refine blk_drew ?_ | refine blk_alloc ?_ _)); exact BK1201.out) hb); have n5_ := Aside0.mk (Kd.R_lower (Kd.R_mono (Kd.R_bound ho0) (fun k_ hk_ => (⟨hk_.2.1, hk_.2.2.1⟩ : w48.heap.size ≤ k_ ∧ k_ < w49.heap.size))) HB.out.size); have n6_ := Aside0.mk (below_step HB.out hb); have n7_ := Aside0.mk (hb.size); clear BK1187; clear HO1192; clear HO1195; clear HO1200; clear BK1201; clear HB; have BK1187 := n0_; have HO1192 := n1_; have HO1195 := n2_; have HO1200 := n3_; have BK1201 := n4_; have HO1204 := n5_; have HB := n6_; have Zw49 := n7_; clear n0_ n1_ n2_ n3_ n4_ n5_ n6_ n7_; (try clear hb); (try clear hkp); (try clear hd_); (try clear ho0); obtain ⟨Ao50, co50, eo50⟩ := Kd.R_slice HO1204.out; subst eo50) | ((with_reducible refine gate_callee (f := 19) rfl ?_); refine goesL_ (some 38) rfl rfl Try.func19 (by kernel_rfl) rfl #[.slice Ao50 t1202.length co50, .slice Ao41 t1193.length co41] rfl (by (try simp only [List.map_toArray, List.map_cons, List.map_nil]); first | done | rfl) ?_; (with_reducible refine (laws_eqInt64S.calls k _ _ t1202 _ _ t1193 true _ ?side1 ?side2 ?side3 ?side4 A12.out).mono ?_); (case side1 => exact (Kd.R_reads' HO1204.out).2.2); (case side2 => (have e_ := Kd.R_reads' HO1204.out; have e1_ := e_.1; have e2_ := e_.2.1; omega)); (case side3 => exact (Kd.R_reads' HO1195.out).2.2); (case side4 => (have e_ := Kd.R_reads' HO1195.out; have e1_ := e_.1; have e2_ := e_.2.1; omega)); rintro e w51 ⟨rfl, hd_⟩; refine ⟨_, rfl, ?_⟩; have hb := hd_.below; have n0_ := Aside0.mk (blk_below (g := gb1187) (o := .cells #[.int .i64 a0_0, .slice A0_1 l0_1.length c0_1] 33 (0, 0)) (by (with_reducible repeat (first | refine blk_drewN ?_ _ | refine blk_drew ?_ | refine blk_alloc ?_ _)); exact BK1187.out) hb); have n1_ := Aside0.mk (Kd.S_below HO1192.out hb); have n2_ := Aside0.mk (Kd.R_below HO1195.out hb); have n3_ := Aside0.mk (Kd.S_below HO1200.out hb); have n4_ := Aside0.mk (blk_below (g := gb1201) (o := .cells #[.int .i64 t1197, .slice Ao44 t1198.length co44] 37 (0, 0)) (by (with_reducible repeat (first | refine blk_drewN ?_ _ | refine blk_drew ?_ | refine blk_alloc ?_ _)); exact BK1201.out) hb); have n5_ := Aside0.mk (Kd.R_below HO1204.out hb); have n6_ := Aside0.mk (below_step HB.out hb); have n7_ := Aside0.mk (hb.size); clear BK1187; clear HO1192; clear HO1195; clear HO1200; clear BK1201; clear HO1204; clear HB; have BK1187 := n0_; have HO1192 := n1_; have HO1195 := n2_; have HO1200 := n3_; have BK1201 := n4_; have HO1204 := n5_; have HB := n6_; have Zw51 := n7_; clear n0_ n1_ n2_ n3_ n4_ n5_ n6_ n7_; (try clear hb); (try clear hkp); (try clear hd_)))
             have n0_ := Aside0.mk ((show w51.heap.size ≤ w51.drew.heap.size from Nat.le_refl _))
             have n1_ := Aside0.mk (Kd.S_drew HO1192.out)
             have n2_ := Aside0.mk (Kd.R_drew HO1195.out)
             have n3_ := Aside0.mk (Kd.S_drew HO1200.out)
             have n4_ := Aside0.mk (Kd.R_drew HO1204.out)
             have n5_ := Aside0.mk (blk_drew BK1187.out)
             have n6_ := Aside0.mk (blk_drew BK1201.out)
             have n7_ := Aside0.mk (below_drew1 HB.out)
             clear HO1192
             clear HO1195
             clear HO1200
             clear HO1204
             clear BK1187
             clear BK1201
             clear HB
             have Zw52 := n0_
             have HO1192 := n1_
             have HO1195 := n2_
             have HO1200 := n3_
             have HO1204 := n4_
             have BK1187 := n5_
             have BK1201 := n6_
             have HB := n7_
             clear n0_ n1_ n2_ n3_ n4_ n5_ n6_ n7_
             refine start_ (n := 5) (S := fun w' => w'.cell? ⟨gb1201, 0, none⟩ = some (.int .i64 t1197) ∧ w'.cell? ⟨gb1201, 1, none⟩ = some (.slice Ao44 t1198.length co44) ∧ w'.cell? ⟨gb1187, 0, none⟩ = some (.int .i64 a0_0) ∧ w'.cell? ⟨gb1187, 1, none⟩ = some (.slice A0_1 l0_1.length c0_1)) (ds := []) #[false, false, false, false, false] (by kernel_rfl) rfl rfl ⟨(blk_cell BK1201.out 0).trans rfl, (blk_cell BK1201.out 1).trans rfl, (blk_cell BK1187.out 0).trans rfl, (blk_cell BK1187.out 1).trans rfl⟩ (fun hHeld => ?_)
             generalize w51.drew = w52 at HO1192 HO1195 HO1200 HO1204 BK1187 BK1201 HB Zw52 hHeld ⊢
             refine take_ (i := 0) (N := some 45) (v := ?_) (a' := ?_) #[true, false, false, false, false] rfl rfl (by kernel_rfl) (fun _ _ _ h => h) (Or.inl ⟨by rfl, ?_⟩) hHeld ?_ ?_
             rotate_left
             ·rintro w' ⟨s0, s1, s2, s3⟩
              go_simp
              with_reducible rfl
             rotate_left
             ·simp only [Act.put, nf_]
              rfl
             refine take_ (i := 1) (N := some 46) (v := ?_) (a' := ?_) #[true, true, false, false, false] rfl rfl (by kernel_rfl) (fun _ _ _ h => h) (Or.inl ⟨by rfl, ?_⟩) hHeld ?_ ?_
             rotate_left
             ·rintro w' ⟨s0, s1, s2, s3⟩
              go_simp
              with_reducible rfl
             rotate_left
             ·simp only [Act.put, nf_]
              rfl
             refine one_ (i := 2) (N := some 47) #[true, true, true, false, false] rfl rfl (by kernel_rfl) (by decide) (fun K hK => ?_)
             refine goes_ Try.func26 (by kernel_rfl) rfl #[.agg #[.int .i64 a0_0, .slice A0_1 l0_1.length c0_1]] (by rfl) rfl rfl (by (try simp only [List.map_toArray, List.map_cons, List.map_nil]); first | done | rfl | (simp only [List.length_drop, List.length_take]; rfl)) ?_
             with_reducible refine (laws_toGraph.calls k a0_0 _ _ l0_1 t1207 t1208 _ ?side1 ?side2 A15.out).mono ?_
             (case side1 => exact (Kd.C_below HR0_1.out HB.out))
             (case side2 => exact HC0_1.out)
             rintro e w53 ⟨v1209, rfl, ho0, hb⟩
             refine ⟨_, rfl, ?_⟩
             have n0_ := Aside0.mk (blk_below (g := gb1187) (o := .cells #[.int .i64 a0_0, .slice A0_1 l0_1.length c0_1] 33 (0, 0)) (by (with_reducible repeat (first | refine blk_drewN ?_ _ | refine blk_drew ?_ | refine blk_alloc ?_ _)); exact BK1187.out) hb)
             have n1_ := Aside0.mk (Kd.S_below HO1192.out hb)
             have n2_ := Aside0.mk (Kd.R_below HO1195.out hb)
             have n3_ := Aside0.mk (Kd.S_below HO1200.out hb)
             have n4_ := Aside0.mk (blk_below (g := gb1201) (o := .cells #[.int .i64 t1197, .slice Ao44 t1198.length co44] 37 (0, 0)) (by (with_reducible repeat (first | refine blk_drewN ?_ _ | refine blk_drew ?_ | refine blk_alloc ?_ _)); exact BK1201.out) hb)
             have n5_ := Aside0.mk (Kd.R_below HO1204.out hb)
             have n6_ := Aside0.mk (Kd.S_lower (Kd.S_mono (Kd.S_bound ho0) (fun k_ hk_ => (⟨hk_.2.1, hk_.2.2.1⟩ : w52.heap.size ≤ k_ ∧ k_ < w53.heap.size))) HB.out.size)
             have n7_ := Aside0.mk (below_step HB.out hb)
             have n8_ := Aside0.mk (hb.size)
             clear BK1187
             clear HO1192
             clear HO1195
             clear HO1200
             clear BK1201
             clear HO1204
             clear HB
             have BK1187 := n0_
             have HO1192 := n1_
             have HO1195 := n2_
             have HO1200 := n3_
             have BK1201 := n4_
             have HO1204 := n5_
             have HO1210 := n6_
             have HB := n7_
             have Zw53 := n8_
             clear n0_ n1_ n2_ n3_ n4_ n5_ n6_ n7_ n8_
             (try clear hb)
             (try clear hkp)
             (try clear hd_)
             (try clear ho0)
             obtain ⟨Ao54, co54, eo54⟩ := Kd.S_slice HO1210.out
             subst eo54
             refine hK.out _ _ ⟨(blk_cell BK1201.out 0).trans rfl, (blk_cell BK1201.out 1).trans rfl, (blk_cell BK1187.out 0).trans rfl, (blk_cell BK1187.out 1).trans rfl⟩ (fun hHeld => ?_)
             clear hK K
             refine norm_ (a' := ?_) ?_ ?_
             rotate_left
             ·show Act.put _ (some 47) _ = _
              simp only [Act.put, nf_]
              rfl
             refine one_ (i := 3) (N := some 48) #[true, true, true, true, false] rfl rfl (by kernel_rfl) (by decide) (fun K hK => ?_)
             refine goes_ Try.func28 (by kernel_rfl) rfl #[.agg #[.int .i64 t1197, .slice Ao44 t1198.length co44], .agg #[.int .i64 t1207, .slice Ao54 t1208.length co54]] (by rfl) rfl rfl (by (try simp only [List.map_toArray, List.map_cons, List.map_nil]); first | done | rfl | (simp only [List.length_drop, List.length_take]; rfl)) ?_
             with_reducible refine (laws_eqGraph.calls k t1197 _ _ t1198 t1207 _ _ t1208 true _ ?side1 ?side2 ?side3 ?side4 A16.out).mono ?_
             (case side1 => exact (Kd.S_reads' HO1200.out).2.2)
             (case side2 => (have e_ := Kd.S_reads' HO1200.out; have e1_ := e_.1; have e2_ := e_.2.1; omega))
             (case side3 => exact (Kd.S_reads' HO1210.out).2.2)
             (case side4 => (have e_ := Kd.S_reads' HO1210.out; have e1_ := e_.1; have e2_ := e_.2.1; omega))
             rintro e w55 ⟨rfl, hb⟩
             refine ⟨_, rfl, ?_⟩
             have n0_ := Aside0.mk (blk_below (g := gb1187) (o := .cells #[.int .i64 a0_0, .slice A0_1 l0_1.length c0_1] 33 (0, 0)) (by (with_reducible repeat (first | refine blk_drewN ?_ _ | refine blk_drew ?_ | refine blk_alloc ?_ _)); exact BK1187.out) hb)
             have n1_ := Aside0.mk (Kd.S_below HO1192.out hb)
             have n2_ := Aside0.mk (Kd.R_below HO1195.out hb)
             have n3_ := Aside0.mk (Kd.S_below HO1200.out hb)
             have n4_ := Aside0.mk (blk_below (g := gb1201) (o := .cells #[.int .i64 t1197, .slice Ao44 t1198.length co44] 37 (0, 0)) (by (with_reducible repeat (first | refine blk_drewN ?_ _ | refine blk_drew ?_ | refine blk_alloc ?_ _)); exact BK1201.out) hb)
             have n5_ := Aside0.mk (Kd.R_below HO1204.out hb)
             have n6_ := Aside0.mk (Kd.S_below HO1210.out hb)
             have n7_ := Aside0.mk (below_step HB.out hb)
             have n8_ := Aside0.mk (hb.size)
             clear BK1187
             clear HO1192
             clear HO1195
             clear HO1200
             clear BK1201
             clear HO1204
             clear HO1210
             clear HB
             have BK1187 := n0_
             have HO1192 := n1_
             have HO1195 := n2_
             have HO1200 := n3_
             have BK1201 := n4_
             have HO1204 := n5_
             have HO1210 := n6_
             have HB := n7_
             have Zw55 := n8_
             clear n0_ n1_ n2_ n3_ n4_ n5_ n6_ n7_ n8_
             (try clear hb)
             (try clear hkp)
             (try clear hd_)
             refine hK.out _ _ ⟨(blk_cell BK1201.out 0).trans rfl, (blk_cell BK1201.out 1).trans rfl, (blk_cell BK1187.out 0).trans rfl, (blk_cell BK1187.out 1).trans rfl⟩ (fun hHeld => ?_)
             clear hK K
             refine norm_ (a' := ?_) ?_ ?_
             rotate_left
             ·show Act.put _ (some 48) _ = _
              simp only [Act.put, nf_]
              rfl
             refine pure_ (i := 4) (N := some 49) (v := ?_) (a' := ?_) #[true, true, true, true, true] rfl rfl (by kernel_rfl) (fun _ _ _ h => h) (Or.inl ⟨by rfl, ?_⟩) ?_ ?_
             rotate_left
             ·intro w'
              go_simp
              with_reducible rfl
             rotate_left
             ·simp only [Act.put, nf_]
              rfl
             refine done_ (by kernel_rfl) ?_
             have hcz56_0 : w55.cell? ⟨gb1201, 0, none⟩ = some (.int .i64 t1197) := (blk_cell BK1201.out 0).trans rfl
             have hcz56_1 : w55.cell? ⟨gb1201, 1, none⟩ = some (.slice Ao44 t1198.length co44) := (blk_cell BK1201.out 1).trans rfl
             have hfz56_0 := blk_frozen BK1201.out 0
             have hfz56_1 := blk_frozen BK1201.out 1
             try go_wp2_with (first | ((with_reducible refine gate_callee (f := 36) rfl ?_); refine goesL_ (some 52) rfl rfl Try.func36 (by kernel_rfl) rfl #[.agg #[.int .i64 t1197, .slice Ao44 t1198.length co44], .int .i64 1] rfl (by (try simp only [List.map_toArray, List.map_cons, List.map_nil]); first | done | rfl) ?_; (with_reducible refine (laws_markGraph.calls k t1197 (fun k_ => w40.heap.size ≤ k_ ∧ k_ < w43.heap.size) (.slice Ao44 t1198.length co44) t1198 1 t1212 t1213 w _ ?side1 ?side2 A18.out).mono ?_); (case side1 => exact HB.out); (case side2 => exact HO1200.out); rintro e w57 ⟨rfl, hy0, hb, hkp⟩; refine ⟨_, rfl, ?_⟩; have n0_ := Aside0.mk (blk_kept (by (with_reducible repeat (first | refine blk_drewN ?_ _ | refine blk_drew ?_ | refine blk_alloc ?_ _)); exact BK1187.out) hkp (fun hs_ => by have h1_ := ZB1187.out.1; have h2_ := ZB1187.out.2; have := Zw34.out; have := Zw36.out; have := Zw38.out; have := Zw40.out; have := Zw43.out; have := Zw45.out; have := Zw48.out; have := Zw49.out; have := Zw51.out; have := Zw52.out; have := Zw53.out; have := Zw55.out; have h3_ := hs_.1; have h4_ := hs_.2; omega)); have n1_ := Aside0.mk (Kd.S_step HO1192.out (fun k_ ho_ hl_ => hkp.2 k_ hl_ (fun hs_ => by have h1_ := ho_.1; have h2_ := ho_.2; have := Zw34.out; have := Zw36.out; have := Zw38.out; have := Zw40.out; have := Zw43.out; have := Zw45.out; have := Zw48.out; have := Zw49.out; have := Zw51.out; have := Zw52.out; have := Zw53.out; have := Zw55.out; have h3_ := hs_.1; have h4_ := hs_.2; omega))); have n2_ := Aside0.mk (Kd.R_step HO1195.out (fun k_ ho_ hl_ => hkp.2 k_ hl_ (fun hs_ => by have h1_ := ho_.1; have h2_ := ho_.2; have := Zw34.out; have := Zw36.out; have := Zw38.out; have := Zw40.out; have := Zw43.out; have := Zw45.out; have := Zw48.out; have := Zw49.out; have := Zw51.out; have := Zw52.out; have := Zw53.out; have := Zw55.out; have h3_ := hs_.1; have h4_ := hs_.2; omega))); have n3_ := Aside0.mk (hy0); have n4_ := Aside0.mk (blk_kept (by (with_reducible repeat (first | refine blk_drewN ?_ _ | refine blk_drew ?_ | refine blk_alloc ?_ _)); exact BK1201.out) hkp (fun hs_ => by have h1_ := ZB1201.out.1; have h2_ := ZB1201.out.2; have := Zw34.out; have := Zw36.out; have := Zw38.out; have := Zw40.out; have := Zw43.out; have := Zw45.out; have := Zw48.out; have := Zw49.out; have := Zw51.out; have := Zw52.out; have := Zw53.out; have := Zw55.out; have h3_ := hs_.1; have h4_ := hs_.2; omega)); have n5_ := Aside0.mk (Kd.R_step HO1204.out (fun k_ ho_ hl_ => hkp.2 k_ hl_ (fun hs_ => by have h1_ := ho_.1; have h2_ := ho_.2; have := Zw34.out; have := Zw36.out; have := Zw38.out; have := Zw40.out; have := Zw43.out; have := Zw45.out; have := Zw48.out; have := Zw49.out; have := Zw51.out; have := Zw52.out; have := Zw53.out; have := Zw55.out; have h3_ := hs_.1; have h4_ := hs_.2; omega))); have n6_ := Aside0.mk (Kd.S_step HO1210.out (fun k_ ho_ hl_ => hkp.2 k_ hl_ (fun hs_ => by have h1_ := ho_.1; have h2_ := ho_.2; have := Zw34.out; have := Zw36.out; have := Zw38.out; have := Zw40.out; have := Zw43.out; have := Zw45.out; have := Zw48.out; have := Zw49.out; have := Zw51.out; have := Zw52.out; have := Zw53.out; have := Zw55.out; have h3_ := hs_.1; have h4_ := hs_.2; omega))); have n7_ := Aside0.mk (hb); have n8_ := Aside0.mk (hkp.1); clear BK1187; clear HO1192; clear HO1195; clear HO1200; clear BK1201; clear HO1204; clear HO1210; clear HB; have BK1187 := n0_; have HO1192 := n1_; have HO1195 := n2_; have HO1200 := n3_; have BK1201 := n4_; have HO1204 := n5_; have HO1210 := n6_; have HB := n7_; have Zw57 := n8_; clear n0_ n1_ n2_ n3_ n4_ n5_ n6_ n7_ n8_; (try clear hb); (try clear hkp); (try clear hd_); (try clear hy0)) | (go_at_call 19; (with_reducible refine (laws_eqInt64S.calls k _ _ t1202 _ _ t1193 true _ ?side1 ?side2 ?side3 ?side4 A20.out).mono ?_); (case side1 => exact (Kd.R_reads' HO1204.out).2.2); (case side2 => (have e_ := Kd.R_reads' HO1204.out; have e1_ := e_.1; have e2_ := e_.2.1; omega)); (case side3 => exact (Kd.R_reads' HO1195.out).2.2); (case side4 => (have e_ := Kd.R_reads' HO1195.out; have e1_ := e_.1; have e2_ := e_.2.1; omega)); rintro e w58 ⟨rfl, hd_⟩; have hb := hd_.below; have n0_ := Aside0.mk (blk_below (g := gb1187) (o := .cells #[.int .i64 a0_0, .slice A0_1 l0_1.length c0_1] 33 (0, 0)) (by (with_reducible repeat (first | refine blk_drewN ?_ _ | refine blk_drew ?_ | refine blk_alloc ?_ _)); exact BK1187.out) hb); have n1_ := Aside0.mk (Kd.S_below HO1192.out hb); have n2_ := Aside0.mk (Kd.R_below HO1195.out hb); have n3_ := Aside0.mk (Kd.S_below HO1200.out hb); have n4_ := Aside0.mk (blk_below (g := gb1201) (o := .cells #[.int .i64 t1197, .slice Ao44 t1198.length co44] 37 (0, 0)) (by (with_reducible repeat (first | refine blk_drewN ?_ _ | refine blk_drew ?_ | refine blk_alloc ?_ _)); exact BK1201.out) hb); have n5_ := Aside0.mk (Kd.R_below HO1204.out hb); have n6_ := Aside0.mk (Kd.S_below HO1210.out hb); have n7_ := Aside0.mk (below_step HB.out hb); have n8_ := Aside0.mk (hb.size); clear BK1187; clear HO1192; clear HO1195; clear HO1200; clear BK1201; clear HO1204; clear HO1210; clear HB; have BK1187 := n0_; have HO1192 := n1_; have HO1195 := n2_; have HO1200 := n3_; have BK1201 := n4_; have HO1204 := n5_; have HO1210 := n6_; have HB := n7_; have Zw58 := n8_; clear n0_ n1_ n2_ n3_ n4_ n5_ n6_ n7_ n8_; (try clear hb); (try clear hkp); (try clear hd_)) | ((with_reducible refine gate_callee (f := 22) rfl ?_); refine goesL_ (some 68) rfl rfl Try.func22 (by kernel_rfl) rfl #[.slice Ao50 t1202.length co50, .int .i64 1] rfl (by (try simp only [List.map_toArray, List.map_cons, List.map_nil]); first | done | rfl) ?_; (with_reducible refine (laws_markInt64S.calls k (fun k_ => w48.heap.size ≤ k_ ∧ k_ < w49.heap.size) (.slice Ao50 t1202.length co50) t1202 1 t1215 t1216 w _ ?side1 ?side2 A22.out).mono ?_); (case side1 => exact HB.out); (case side2 => exact HO1204.out); rintro e w59 ⟨rfl, hy0, hb, hkp⟩; refine ⟨_, rfl, ?_⟩; have n0_ := Aside0.mk (blk_kept (by (with_reducible repeat (first | refine blk_drewN ?_ _ | refine blk_drew ?_ | refine blk_alloc ?_ _)); exact BK1187.out) hkp (fun hs_ => by have h1_ := ZB1187.out.1; have h2_ := ZB1187.out.2; have := Zw34.out; have := Zw36.out; have := Zw38.out; have := Zw40.out; have := Zw43.out; have := Zw45.out; have := Zw48.out; have := Zw49.out; have := Zw51.out; have := Zw52.out; have := Zw53.out; have := Zw55.out; have := Zw57.out; have := Zw58.out; have h3_ := hs_.1; have h4_ := hs_.2; omega)); have n1_ := Aside0.mk (Kd.S_step HO1192.out (fun k_ ho_ hl_ => hkp.2 k_ hl_ (fun hs_ => by have h1_ := ho_.1; have h2_ := ho_.2; have := Zw34.out; have := Zw36.out; have := Zw38.out; have := Zw40.out; have := Zw43.out; have := Zw45.out; have := Zw48.out; have := Zw49.out; have := Zw51.out; have := Zw52.out; have := Zw53.out; have := Zw55.out; have := Zw57.out; have := Zw58.out; have h3_ := hs_.1; have h4_ := hs_.2; omega))); have n2_ := Aside0.mk (Kd.R_step HO1195.out (fun k_ ho_ hl_ => hkp.2 k_ hl_ (fun hs_ => by have h1_ := ho_.1; have h2_ := ho_.2; have := Zw34.out; have := Zw36.out; have := Zw38.out; have := Zw40.out; have := Zw43.out; have := Zw45.out; have := Zw48.out; have := Zw49.out; have := Zw51.out; have := Zw52.out; have := Zw53.out; have := Zw55.out; have := Zw57.out; have := Zw58.out; have h3_ := hs_.1; have h4_ := hs_.2; omega))); have n3_ := Aside0.mk (Kd.S_step HO1200.out (fun k_ ho_ hl_ => hkp.2 k_ hl_ (fun hs_ => by have h1_ := ho_.1; have h2_ := ho_.2; have := Zw34.out; have := Zw36.out; have := Zw38.out; have := Zw40.out; have := Zw43.out; have := Zw45.out; have := Zw48.out; have := Zw49.out; have := Zw51.out; have := Zw52.out; have := Zw53.out; have := Zw55.out; have := Zw57.out; have := Zw58.out; have h3_ := hs_.1; have h4_ := hs_.2; omega))); have n4_ := Aside0.mk (blk_kept (by (with_reducible repeat (first | refine blk_drewN ?_ _ | refine blk_drew ?_ | refine blk_alloc ?_ _)); exact BK1201.out) hkp (fun hs_ => by have h1_ := ZB1201.out.1; have h2_ := ZB1201.out.2; have := Zw34.out; have := Zw36.out; have := Zw38.out; have := Zw40.out; have := Zw43.out; have := Zw45.out; have := Zw48.out; have := Zw49.out; have := Zw51.out; have := Zw52.out; have := Zw53.out; have := Zw55.out; have := Zw57.out; have := Zw58.out; have h3_ := hs_.1; have h4_ := hs_.2; omega)); have n5_ := Aside0.mk (Kd.R_reok rfl hy0 (fun k_ e_ => HO1204.out.1 k_ e_)); have n6_ := Aside0.mk (Kd.S_step HO1210.out (fun k_ ho_ hl_ => hkp.2 k_ hl_ (fun hs_ => by have h1_ := ho_.1; have h2_ := ho_.2; have := Zw34.out; have := Zw36.out; have := Zw38.out; have := Zw40.out; have := Zw43.out; have := Zw45.out; have := Zw48.out; have := Zw49.out; have := Zw51.out; have := Zw52.out; have := Zw53.out; have := Zw55.out; have := Zw57.out; have := Zw58.out; have h3_ := hs_.1; have h4_ := hs_.2; omega))); have n7_ := Aside0.mk (hb); have n8_ := Aside0.mk (hkp.1); clear BK1187; clear HO1192; clear HO1195; clear HO1200; clear BK1201; clear HO1204; clear HO1210; clear HB; have BK1187 := n0_; have HO1192 := n1_; have HO1195 := n2_; have HO1200 := n3_; have BK1201 := n4_; have HO1204 := n5_; have HO1210 := n6_; have HB := n7_; have Zw59 := n8_; clear n0_ n1_ n2_ n3_ n4_ n5_ n6_ n7_ n8_; (try clear hb); (try clear hkp); (try clear hd_); (try clear hy0)) | ((with_reducible refine gate_callee (f := 23) rfl ?_); refine goesL_ (some 71) rfl rfl Try.func23 (by kernel_rfl) rfl #[.slice Ao50 t1202.length co50, .int .i64 1] rfl (by (try simp only [List.map_toArray, List.map_cons, List.map_nil]); first | done | rfl) ?_; refine calls_of_args (args' := #[.slice Ao50 t1216.length co50, .int .i64 1]) (by first | rfl | (rw [show t1202.length = t1216.length from (Kd.R_reads' HO1204.out).1] <;> rfl) | (simp only [show t1202.length = t1216.length from (Kd.R_reads' HO1204.out).1])) ?_; (with_reducible refine (laws_heldInt64S.calls k _ _ t1216 1 t1217 _ ?side1 ?side2 A23.out).mono ?_); (case side1 => exact (Kd.R_reads' HO1204.out).2.2); (case side2 => (have e_ := Kd.R_reads' HO1204.out; have e1_ := e_.1; have e2_ := e_.2.1; omega)); rintro e w60 ⟨rfl, hd_⟩; refine ⟨_, rfl, ?_⟩; have hb := hd_.below; have n0_ := Aside0.mk (blk_below (g := gb1187) (o := .cells #[.int .i64 a0_0, .slice A0_1 l0_1.length c0_1] 33 (0, 0)) (by (with_reducible repeat (first | refine blk_drewN ?_ _ | refine blk_drew ?_ | refine blk_alloc ?_ _)); exact BK1187.out) hb); have n1_ := Aside0.mk (Kd.S_below HO1192.out hb); have n2_ := Aside0.mk (Kd.R_below HO1195.out hb); have n3_ := Aside0.mk (Kd.S_below HO1200.out hb); have n4_ := Aside0.mk (blk_below (g := gb1201) (o := .cells #[.int .i64 t1197, .slice Ao44 t1198.length co44] 37 (0, 0)) (by (with_reducible repeat (first | refine blk_drewN ?_ _ | refine blk_drew ?_ | refine blk_alloc ?_ _)); exact BK1201.out) hb); have n5_ := Aside0.mk (Kd.R_below HO1204.out hb); have n6_ := Aside0.mk (Kd.S_below HO1210.out hb); have n7_ := Aside0.mk (below_step HB.out hb); have n8_ := Aside0.mk (hb.size); clear BK1187; clear HO1192; clear HO1195; clear HO1200; clear BK1201; clear HO1204; clear HO1210; clear HB; have BK1187 := n0_; have HO1192 := n1_; have HO1195 := n2_; have HO1200 := n3_; have BK1201 := n4_; have HO1204 := n5_; have HO1210 := n6_; have HB := n7_; have Zw60 := n8_; clear n0_ n1_ n2_ n3_ n4_ n5_ n6_ n7_ n8_; (try clear hb); (try clear hkp); (try clear hd_); have hcz61_0 : w60.cell? ⟨gb1187, 0, none⟩ = some (.int .i64 a0_0) := (blk_cell BK1187.out 0).trans rfl; have hcz61_1 : w60.cell? ⟨gb1187, 1, none⟩ = some (.slice A0_1 l0_1.length c0_1) := (blk_cell BK1187.out 1).trans rfl; have hfz61_0 := blk_frozen BK1187.out 0; have hfz61_1 := blk_frozen BK1187.out 1) | ((with_reducible refine gate_callee (f := 26) rfl ?_); refine goesL_ (some 79) rfl rfl Try.func26 (by kernel_rfl) rfl #[.agg #[.int .i64 a0_0, .slice A0_1 l0_1.length c0_1]] rfl (by (try simp only [List.map_toArray, List.map_cons, List.map_nil]); first | done | rfl) ?_; (with_reducible refine (laws_toGraph.calls k a0_0 _ _ l0_1 t1218 t1219 _ ?side1 ?side2 A26.out).mono ?_); (case side1 => exact (Kd.C_below HR0_1.out HB.out)); (case side2 => exact HC0_1.out); rintro e w62 ⟨v1220, rfl, ho0, hb⟩; refine ⟨_, rfl, ?_⟩; have n0_ := Aside0.mk (blk_below (g := gb1187) (o := .cells #[.int .i64 a0_0, .slice A0_1 l0_1.length c0_1] 33 (0, 0)) (by (with_reducible repeat (first | refine blk_drewN ?_ _ | refine blk_drew ?_ | refine blk_alloc ?_ _)); exact BK1187.out) hb); have n1_ := Aside0.mk (Kd.S_below HO1192.out hb); have n2_ := Aside0.mk (Kd.R_below HO1195.out hb); have n3_ := Aside0.mk (Kd.S_below HO1200.out hb); have n4_ := Aside0.mk (blk_below (g := gb1201) (o := .cells #[.int .i64 t1197, .slice Ao44 t1198.length co44] 37 (0, 0)) (by (with_reducible repeat (first | refine blk_drewN ?_ _ | refine blk_drew ?_ | refine blk_alloc ?_ _)); exact BK1201.out) hb); have n5_ := Aside0.mk (Kd.R_below HO1204.out hb); have n6_ := Aside0.mk (Kd.S_below HO1210.out hb); have n7_ := Aside0.mk (Kd.S_lower (Kd.S_mono (Kd.S_bound ho0) (fun k_ hk_ => (⟨hk_.2.1, hk_.2.2.1⟩ : w60.heap.size ≤ k_ ∧ k_ < w62.heap.size))) HB.out.size); have n8_ := Aside0.mk (below_step HB.out hb); have n9_ := Aside0.mk (hb.size); clear BK1187; clear HO1192; clear HO1195; clear HO1200; clear BK1201; clear HO1204; clear HO1210; clear HB; have BK1187 := n0_; have HO1192 := n1_; have HO1195 := n2_; have HO1200 := n3_; have BK1201 := n4_; have HO1204 := n5_; have HO1210 := n6_; have HO1221 := n7_; have HB := n8_; have Zw62 := n9_; clear n0_ n1_ n2_ n3_ n4_ n5_ n6_ n7_ n8_ n9_; (try clear hb); (try clear hkp); (try clear hd_); (try clear ho0); obtain ⟨Ao63, co63, eo63⟩ := Kd.S_slice HO1221.out; subst eo63) | ((with_reducible refine gate_callee (f := 51) rfl ?_); refine goesL_ (some 81) rfl rfl Try.func51 (by kernel_rfl) rfl #[.agg #[.int .i64 t1218, .slice Ao63 t1219.length co63], .int .i64 a1] rfl (by (try simp only [List.map_toArray, List.map_cons, List.map_nil]); first | done | rfl) ?_; (with_reducible refine (impl_EulerProduct.calls k t1218 _ _ t1219 a1 t1222 t1225 _ ?side1 ?side2 A27.out).mono ?_); (case side1 => exact (Kd.S_reads' HO1221.out).2.2); (case side2 => (have e_ := Kd.S_reads' HO1221.out; have e1_ := e_.1; have e2_ := e_.2.1; omega)); rintro e w64 ⟨v1223, rfl, ho0, hb⟩; refine ⟨_, rfl, ?_⟩; have n0_ := Aside0.mk (blk_below (g := gb1187) (o := .cells #[.int .i64 a0_0, .slice A0_1 l0_1.length c0_1] 33 (0, 0)) (by (with_reducible repeat (first | refine blk_drewN ?_ _ | refine blk_drew ?_ | refine blk_alloc ?_ _)); exact BK1187.out) hb); have n1_ := Aside0.mk (Kd.S_below HO1192.out hb); have n2_ := Aside0.mk (Kd.R_below HO1195.out hb); have n3_ := Aside0.mk (Kd.S_below HO1200.out hb); have n4_ := Aside0.mk (blk_below (g := gb1201) (o := .cells #[.int .i64 t1197, .slice Ao44 t1198.length co44] 37 (0, 0)) (by (with_reducible repeat (first | refine blk_drewN ?_ _ | refine blk_drew ?_ | refine blk_alloc ?_ _)); exact BK1201.out) hb); have n5_ := Aside0.mk (Kd.R_below HO1204.out hb); have n6_ := Aside0.mk (Kd.S_below HO1210.out hb); have n7_ := Aside0.mk (Kd.S_below HO1221.out hb); have n8_ := Aside0.mk (Kd.R_lower (Kd.R_mono (Kd.R_bound ho0) (fun k_ hk_ => (⟨hk_.2.1, hk_.2.2.1⟩ : w62.heap.size ≤ k_ ∧ k_ < w64.heap.size))) HB.out.size); have n9_ := Aside0.mk (below_step HB.out hb); have n10_ := Aside0.mk (hb.size); clear BK1187; clear HO1192; clear HO1195; clear HO1200; clear BK1201; clear HO1204; clear HO1210; clear HO1221; clear HB; have BK1187 := n0_; have HO1192 := n1_; have HO1195 := n2_; have HO1200 := n3_; have BK1201 := n4_; have HO1204 := n5_; have HO1210 := n6_; have HO1221 := n7_; have HO1224 := n8_; have HB := n9_; have Zw64 := n10_; clear n0_ n1_ n2_ n3_ n4_ n5_ n6_ n7_ n8_ n9_ n10_; (try clear hb); (try clear hkp); (try clear hd_); (try clear ho0); obtain ⟨Ao65, co65, eo65⟩ := Kd.R_slice HO1224.out; subst eo65) | ((with_reducible refine gate_callee (f := 19) rfl ?_); refine goesL_ (some 86) rfl rfl Try.func19 (by kernel_rfl) rfl #[.slice Ao65 t1222.length co65, .slice Ao41 t1193.length co41] rfl (by (try simp only [List.map_toArray, List.map_cons, List.map_nil]); first | done | rfl) ?_; (with_reducible refine (laws_eqInt64S.calls k _ _ t1222 _ _ t1193 true _ ?side1 ?side2 ?side3 ?side4 A28.out).mono ?_); (case side1 => exact (Kd.R_reads' HO1224.out).2.2); (case side2 => (have e_ := Kd.R_reads' HO1224.out; have e1_ := e_.1; have e2_ := e_.2.1; omega)); (case side3 => exact (Kd.R_reads' HO1195.out).2.2); (case side4 => (have e_ := Kd.R_reads' HO1195.out; have e1_ := e_.1; have e2_ := e_.2.1; omega)); rintro e w66 ⟨rfl, hd_⟩; refine ⟨_, rfl, ?_⟩; have hb := hd_.below; have n0_ := Aside0.mk (blk_below (g := gb1187) (o := .cells #[.int .i64 a0_0, .slice A0_1 l0_1.length c0_1] 33 (0, 0)) (by (with_reducible repeat (first | refine blk_drewN ?_ _ | refine blk_drew ?_ | refine blk_alloc ?_ _)); exact BK1187.out) hb); have n1_ := Aside0.mk (Kd.S_below HO1192.out hb); have n2_ := Aside0.mk (Kd.R_below HO1195.out hb); have n3_ := Aside0.mk (Kd.S_below HO1200.out hb); have n4_ := Aside0.mk (blk_below (g := gb1201) (o := .cells #[.int .i64 t1197, .slice Ao44 t1198.length co44] 37 (0, 0)) (by (with_reducible repeat (first | refine blk_drewN ?_ _ | refine blk_drew ?_ | refine blk_alloc ?_ _)); exact BK1201.out) hb); have n5_ := Aside0.mk (Kd.R_below HO1204.out hb); have n6_ := Aside0.mk (Kd.S_below HO1210.out hb); have n7_ := Aside0.mk (Kd.S_below HO1221.out hb); have n8_ := Aside0.mk (Kd.R_below HO1224.out hb); have n9_ := Aside0.mk (below_step HB.out hb); have n10_ := Aside0.mk (hb.size); clear BK1187; clear HO1192; clear HO1195; clear HO1200; clear BK1201; clear HO1204; clear HO1210; clear HO1221; clear HO1224; clear HB; have BK1187 := n0_; have HO1192 := n1_; have HO1195 := n2_; have HO1200 := n3_; have BK1201 := n4_; have HO1204 := n5_; have HO1210 := n6_; have HO1221 := n7_; have HO1224 := n8_; have HB := n9_; have Zw66 := n10_; clear n0_ n1_ n2_ n3_ n4_ n5_ n6_ n7_ n8_ n9_ n10_; (try clear hb); (try clear hkp); (try clear hd_)) | ((with_reducible refine gate_callee (f := 23) rfl ?_); refine goesL_ (some 95) rfl rfl Try.func23 (by kernel_rfl) rfl #[.slice Ao50 t1202.length co50, .int .i64 1] rfl (by (try simp only [List.map_toArray, List.map_cons, List.map_nil]); first | done | rfl) ?_; refine calls_of_args (args' := #[.slice Ao50 t1216.length co50, .int .i64 1]) (by first | rfl | (rw [show t1202.length = t1216.length from (Kd.R_reads' HO1204.out).1] <;> rfl) | (simp only [show t1202.length = t1216.length from (Kd.R_reads' HO1204.out).1])) ?_; (with_reducible refine (laws_heldInt64S.calls k _ _ t1216 1 t1227 _ ?side1 ?side2 A31.out).mono ?_); (case side1 => exact (Kd.R_reads' HO1204.out).2.2); (case side2 => (have e_ := Kd.R_reads' HO1204.out; have e1_ := e_.1; have e2_ := e_.2.1; omega)); rintro e w67 ⟨rfl, hd_⟩; refine ⟨_, rfl, ?_⟩; have hb := hd_.below; have n0_ := Aside0.mk (blk_below (g := gb1187) (o := .cells #[.int .i64 a0_0, .slice A0_1 l0_1.length c0_1] 33 (0, 0)) (by (with_reducible repeat (first | refine blk_drewN ?_ _ | refine blk_drew ?_ | refine blk_alloc ?_ _)); exact BK1187.out) hb); have n1_ := Aside0.mk (Kd.S_below HO1192.out hb); have n2_ := Aside0.mk (Kd.R_below HO1195.out hb); have n3_ := Aside0.mk (Kd.S_below HO1200.out hb); have n4_ := Aside0.mk (blk_below (g := gb1201) (o := .cells #[.int .i64 t1197, .slice Ao44 t1198.length co44] 37 (0, 0)) (by (with_reducible repeat (first | refine blk_drewN ?_ _ | refine blk_drew ?_ | refine blk_alloc ?_ _)); exact BK1201.out) hb); have n5_ := Aside0.mk (Kd.R_below HO1204.out hb); have n6_ := Aside0.mk (Kd.S_below HO1210.out hb); have n7_ := Aside0.mk (Kd.S_below HO1221.out hb); have n8_ := Aside0.mk (Kd.R_below HO1224.out hb); have n9_ := Aside0.mk (below_step HB.out hb); have n10_ := Aside0.mk (hb.size); clear BK1187; clear HO1192; clear HO1195; clear HO1200; clear BK1201; clear HO1204; clear HO1210; clear HO1221; clear HO1224; clear HB; have BK1187 := n0_; have HO1192 := n1_; have HO1195 := n2_; have HO1200 := n3_; have BK1201 := n4_; have HO1204 := n5_; have HO1210 := n6_; have HO1221 := n7_; have HO1224 := n8_; have HB := n9_; have Zw67 := n10_; clear n0_ n1_ n2_ n3_ n4_ n5_ n6_ n7_ n8_ n9_ n10_; (try clear hb); (try clear hkp); (try clear hd_)))
             go_ret
             exact ⟨by first | rfl | (simp [errW_none, errW_some] <;> rfl) | (simp [*, errW_none, errW_some] <;> rfl), by repeat (first | (with_reducible first | exact HB.out | apply below_alloc | apply pw_below_drewN | apply below_drew1 | refine below_set ?_ GE1187.out | refine below_set ?_ GE1201.out) | exact HB.out)⟩
            ·rw [if_neg c33] at H
             have c33b0 : (t1227 == t1215) = false := beq_eq_false_iff_ne.mpr c33
             have c33b1 : (t1227 != t1215) = true := bne_iff_ne.mpr c33
             exact absurd H (by simp)
          ·rw [if_neg c30] at H
           have c30b0 : (t1225 == t1196) = false := beq_eq_false_iff_ne.mpr c30
           have c30b1 : (t1225 != t1196) = true := bne_iff_ne.mpr c30
           exact absurd H (by simp)
         ·replace c29 := Bool.eq_false_iff.mpr c29
          subst c29
          have H1 : (some false) = some true := by rw [if_neg (show ¬ (false = true) by decide)] at H; exact H
          clear H
          have H := H1
          clear H1
          exact absurd H (by simp)
        ·rw [if_neg c25] at H
         have c25b0 : (t1217 == t1215) = false := beq_eq_false_iff_ne.mpr c25
         have c25b1 : (t1217 != t1215) = true := bne_iff_ne.mpr c25
         exact absurd H (by simp)
      ·replace c21 := Bool.eq_false_iff.mpr c21
       subst c21
       have H1 : (some false) = some true := by rw [if_neg (show ¬ (false = true) by decide)] at H; exact H
       clear H
       have H := H1
       clear H1
       exact absurd H (by simp)
    ·replace c17 := Bool.eq_false_iff.mpr c17
     subst c17
     have H1 : (some false) = some true := by rw [if_neg (show ¬ (false = true) by decide)] at H; exact H
     clear H
     have H := H1
     clear H1
     exact absurd H (by simp)
   ·rw [if_neg c14] at H
    have c14b0 : (t1205 == t1196) = false := beq_eq_false_iff_ne.mpr c14
    have c14b1 : (t1205 != t1196) = true := bne_iff_ne.mpr c14
    exact absurd H (by simp)
  ·replace c13 := Bool.eq_false_iff.mpr c13
   subst c13
   have H1 : (some false) = some true := by rw [if_neg (show ¬ (false = true) by decide)] at H; exact H
   clear H
   have H := H1
   clear H1
   exact absurd H (by simp)

/-- THE ONE PURE STATEMENT of laws_FnExactEulerProduct: yours. -/
def laws_FnExactEulerProduct.Pure : Prop := ∀ (a0_0 : Int) (l0_1 : List (List Int)) (a1 : Int), (Lit.int .i64 a0_0).wf = true → l0_1.length ≤ maxLen → (∀ r ∈ l0_1, r.length ≤ maxLen ∧ ∀ y ∈ r, (Lit.int .i64 y).wf = true) → (Lit.int .i64 a1).wf = true → ∃ k, laws_FnExactEulerProduct.f k a0_0 l0_1 a1 = some true
theorem laws_FnExactEulerProduct.walk (P : laws_FnExactEulerProduct.Pure) (a0_0 : Int) (A0_1 : Option Addr) (c0_1 : Nat) (l0_1 : List (List Int)) (a1 : Int) (w : World) (hw0_0 : (Lit.int .i64 a0_0).wf = true) (hm0_1 : l0_1.length ≤ maxLen) (hw0_1 : (∀ r ∈ l0_1, r.length ≤ maxLen ∧ ∀ y ∈ r, (Lit.int .i64 y).wf = true)) (hr0_1 : Kd.C (Kd.slice 2 (Kd.int .i64)) w A0_1 l0_1.length l0_1) (hc0_1 : l0_1.length ≤ c0_1) (hw1 : (Lit.int .i64 a1).wf = true) :
  Calls Try.prog 14 #[.agg #[.int .i64 a0_0, .slice A0_1 l0_1.length c0_1], .int .i64 a1] w fun e w' => e = .returned (.bool true) ∧ Below w.heap.size w w' := by
 obtain ⟨k, h⟩ := P a0_0 l0_1 a1 hw0_0 hm0_1 hw0_1 hw1
 refine (laws_FnExactEulerProduct.calls k a0_0 _ _ l0_1 a1 w hr0_1 hc0_1 h).mono ?_
 rintro e w' ⟨rfl, hd⟩
 exact ⟨rfl, hd⟩

end Go.Proofs.Yteeoehohocoecaa.G
