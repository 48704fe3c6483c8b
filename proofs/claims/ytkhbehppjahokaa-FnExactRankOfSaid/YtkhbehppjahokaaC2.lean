/- The printed functions that this law reaches, and their contracts: part 2. -/
-- printed by this repo's wip/printer out of the kit's print with its own changes
import Derived.Test.YtkhbehppjahokaaC1
namespace Go.Proofs.Ytkhbehppjahokaa.G
open Go.RowKit Go.Proofs.YtkhbehppjahokaaW.PrintWords Go.Proofs.YtkhbehppjahokaaW.PrintLast Go.Proofs.YtkhbehppjahokaaW.PrintMore
attribute [local go_sem] max2_int min2_int max_two min_two max_three min_three max_four min_four   -- for this text's walks alone
set_option linter.unusedVariables false
set_option linter.unusedSimpArgs false

/-! ### impl_RankOf: function 53 -/
def impl_RankOf.f (k : Nat) (a0_0 : Int) (l0_1 : List (List Int)) : Option (Int × Int) := (impl_IsGraph.f k a0_0 l0_1).bind fun t1182 => (if t1182 = true then ((impl_Graph_rank.f k a0_0 l0_1).bind fun t1183 => (some (t1183, 0))) else (some (0, 1)))
theorem impl_RankOf.mono : ∀ a0 a1 k, LeO (impl_RankOf.f k a0 a1) (impl_RankOf.f (k + 1) a0 a1) := by
  intro a0 a1 k
  unfold impl_RankOf.f
  repeat' first
      | (with_reducible exact impl_Graph_rank.mono _ _ _)
      | (with_reducible exact impl_IsGraph.mono _ _ _)
      | (with_reducible exact LeO.refl _)
      | (with_reducible exact LeO.none _)
      | (with_reducible refine LeO.ite ?_ ?_)
      | (with_reducible refine LeO.bind ?_ (fun _ => ?_))
      | exact impl_Graph_rank.mono _ _ _
      | exact impl_IsGraph.mono _ _ _
      | exact LeO.none _
      | refine LeO.ite ?_ ?_
      | refine LeO.bind ?_ (fun _ => ?_)
set_option maxHeartbeats 8000000 in
set_option maxRecDepth 100000 in
theorem impl_RankOf.calls (k : Nat) (a0_0 : Int) (A0_1 : Option Addr) (c0_1 : Nat) (l0_1 : List (List Int)) (r1 : Int) (r2 : Int) (w : World) (hr0_1 : Kd.C (Kd.slice 2 (Kd.int .i64)) w A0_1 l0_1.length l0_1) (hc0_1 : l0_1.length ≤ c0_1) (h : impl_RankOf.f k a0_0 l0_1 = some (r1, r2)) :
    Calls Try.prog 53 #[.agg #[.int .i64 a0_0, .slice A0_1 l0_1.length c0_1]] w fun e w' => e = .returned (.tuple #[.int .i64 r1, .int .i64 r2]) ∧ Below w.heap.size w w' := by
  have hu36 := Try.underlying36
  have HR0_1 := Aside0.mk hr0_1
  have HC0_1 := Aside0.mk hc0_1
  clear hr0_1 hc0_1
  have HB := Aside0.mk (Below.refl w.heap.size w)
  have H : ((impl_IsGraph.f k a0_0 l0_1).bind fun t1182 => (if t1182 = true then ((impl_Graph_rank.f k a0_0 l0_1).bind fun t1183 => (some (t1183, 0))) else (some (0, 1)))) = some (r1, r2) := h
  clear h
  replace H := Option.bind_eq_some_iff.mp H
  obtain ⟨t1182, A20, H⟩ := H
  replace H : (if t1182 = true then ((impl_Graph_rank.f k a0_0 l0_1).bind fun t1183 => (some (t1183, 0))) else (some (0, 1))) = some (r1, r2) := H
  have A2 := Aside0.mk A20
  clear A20
  by_cases c3 : t1182 = true
  · subst c3
    have H1 : ((impl_Graph_rank.f k a0_0 l0_1).bind fun t1183 => (some (t1183, 0))) = some (r1, r2) := by rw [if_pos rfl] at H; exact H
    clear H
    have H := H1
    clear H1
    replace H := Option.bind_eq_some_iff.mp H
    obtain ⟨t1183, A40, H⟩ := H
    replace H : (some (t1183, 0)) = some (r1, r2) := H
    have A4 := Aside0.mk A40
    clear A40
    simp only [Option.some.injEq, Prod.mk.injEq] at H
    obtain ⟨rfl, rfl⟩ := H
    go_enter Try.func53, Try.ntmps53
    go_wp2_with (first | ((with_reducible refine gate_dst (N := 1) rfl ?_); refine box_event ?hg (N := 1) ?hd (cs := #[.int .i64 a0_0, .slice A0_1 l0_1.length c0_1]) (t := 36) ?hr ?_; (case hd => rfl); (case hg => rfl); (case hr => first | (go_simp; done) | (go_simp; rfl)); intro gb1181 hg w5 hbox hb; have n0_ := Aside0.mk (below_step (by repeat (first | (with_reducible first | exact HB.out | apply below_alloc | apply pw_below_drewN | apply below_drew1) | exact HB.out)) hb); have n1_ := Aside0.mk (hbox); have n2_ := Aside0.mk ((by rw [hg]; exact (below_size (by repeat (first | (with_reducible first | exact HB.out | apply below_alloc | apply pw_below_drewN | apply below_drew1) | exact HB.out))) : w.heap.size ≤ gb1181)); have n3_ := Aside0.mk ((by rw [hg]; exact (below_size (by repeat (first | (with_reducible first | exact HB.out | apply below_alloc | apply pw_below_drewN | apply below_drew1) | exact HB.out))) : w.heap.size ≤ gb1181)); clear HB; have HB := n0_; have BK1181 := n1_; have GW1181 := n2_; have GE1181 := n3_; clear n0_ n1_ n2_ n3_; clear hb hbox hg; have hcz6_0 : w5.cell? ⟨gb1181, 0, none⟩ = some (.int .i64 a0_0) := (blk_cell BK1181.out 0).trans rfl; have hcz6_1 : w5.cell? ⟨gb1181, 1, none⟩ = some (.slice A0_1 l0_1.length c0_1) := (blk_cell BK1181.out 1).trans rfl; have hfz6_0 := blk_frozen BK1181.out 0; have hfz6_1 := blk_frozen BK1181.out 1) | ((with_reducible refine gate_callee (f := 27) rfl ?_); refine goesL_ (some 5) rfl rfl Try.func27 (by kernel_rfl) rfl #[.agg #[.int .i64 a0_0, .slice A0_1 l0_1.length c0_1]] rfl (by (try simp only [List.map_toArray, List.map_cons, List.map_nil]); first | done | rfl | (simp only [List.length_drop, List.length_take]; rfl)) ?_; (with_reducible refine (impl_IsGraph.calls k a0_0 _ _ l0_1 true _ ?side1 ?side2 A2.out).mono ?_); (case side1 => repeat (first | exact (Kd.C_below HR0_1.out HB.out) | (with_reducible refine Kd.C_alloc ?_ _) | (with_reducible refine Kd.C_drewN ?_ _) | (with_reducible refine Kd.C_drew ?_))); (case side2 => exact HC0_1.out); rintro e w7 ⟨rfl, hb⟩; refine ⟨_, rfl, ?_⟩; have n0_ := Aside0.mk (blk_below (g := gb1181) (o := .cells #[.int .i64 a0_0, .slice A0_1 l0_1.length c0_1] 36 (0, 0)) (by (with_reducible repeat (first | refine blk_drewN ?_ _ | refine blk_drew ?_ | refine blk_alloc ?_ _)); exact BK1181.out) hb); have n1_ := Aside0.mk (below_step (by repeat (first | (with_reducible first | exact HB.out | apply below_alloc | apply pw_below_drewN | apply below_drew1 | refine below_set ?_ GE1181.out) | exact HB.out)) hb); clear BK1181; clear HB; have BK1181 := n0_; have HB := n1_; clear n0_ n1_; (try clear hb); (try clear hb2); (try clear hk); (try clear hi); have hcz8_0 : w7.cell? ⟨gb1181, 0, none⟩ = some (.int .i64 a0_0) := (blk_cell BK1181.out 0).trans rfl; have hcz8_1 : w7.cell? ⟨gb1181, 1, none⟩ = some (.slice A0_1 l0_1.length c0_1) := (blk_cell BK1181.out 1).trans rfl; have hfz8_0 := blk_frozen BK1181.out 0; have hfz8_1 := blk_frozen BK1181.out 1) | ((with_reducible refine gate_callee (f := 91) rfl ?_); refine goesL_ (some 8) rfl rfl Try.func91 (by kernel_rfl) rfl #[.agg #[.int .i64 a0_0, .slice A0_1 l0_1.length c0_1]] rfl (by (try simp only [List.map_toArray, List.map_cons, List.map_nil]); first | done | rfl | (simp only [List.length_drop, List.length_take]; rfl)) ?_; (with_reducible refine (impl_Graph_rank.calls k a0_0 _ _ l0_1 t1183 _ ?side1 ?side2 A4.out).mono ?_); (case side1 => repeat (first | exact (Kd.C_below HR0_1.out HB.out) | (with_reducible refine Kd.C_alloc ?_ _) | (with_reducible refine Kd.C_drewN ?_ _) | (with_reducible refine Kd.C_drew ?_))); (case side2 => exact HC0_1.out); rintro e w9 ⟨rfl, hb⟩; refine ⟨_, rfl, ?_⟩; have n0_ := Aside0.mk (blk_below (g := gb1181) (o := .cells #[.int .i64 a0_0, .slice A0_1 l0_1.length c0_1] 36 (0, 0)) (by (with_reducible repeat (first | refine blk_drewN ?_ _ | refine blk_drew ?_ | refine blk_alloc ?_ _)); exact BK1181.out) hb); have n1_ := Aside0.mk (below_step (by repeat (first | (with_reducible first | exact HB.out | apply below_alloc | apply pw_below_drewN | apply below_drew1 | refine below_set ?_ GE1181.out) | exact HB.out)) hb); clear BK1181; clear HB; have BK1181 := n0_; have HB := n1_; clear n0_ n1_; (try clear hb); (try clear hb2); (try clear hk); (try clear hi)))
    go_ret2
    exact ⟨by first | rfl | (simp [errW_none, errW_some] <;> rfl) | (simp [*, errW_none, errW_some] <;> rfl), by repeat (first | (with_reducible first | exact HB.out | apply below_alloc | apply pw_below_drewN | apply below_drew1 | refine below_set ?_ GE1181.out) | exact HB.out)⟩
  · replace c3 := Bool.eq_false_iff.mpr c3
    subst c3
    have H1 : (some (0, 1)) = some (r1, r2) := by rw [if_neg (show ¬ (false = true) by decide)] at H; exact H
    clear H
    have H := H1
    clear H1
    simp only [Option.some.injEq, Prod.mk.injEq] at H
    obtain ⟨rfl, rfl⟩ := H
    go_enter Try.func53, Try.ntmps53
    go_wp2_with (first | ((with_reducible refine gate_dst (N := 1) rfl ?_); refine box_event ?hg (N := 1) ?hd (cs := #[.int .i64 a0_0, .slice A0_1 l0_1.length c0_1]) (t := 36) ?hr ?_; (case hd => rfl); (case hg => rfl); (case hr => first | (go_simp; done) | (go_simp; rfl)); intro gb1181 hg w10 hbox hb; have n0_ := Aside0.mk (below_step (by repeat (first | (with_reducible first | exact HB.out | apply below_alloc | apply pw_below_drewN | apply below_drew1) | exact HB.out)) hb); have n1_ := Aside0.mk (hbox); have n2_ := Aside0.mk ((by rw [hg]; exact (below_size (by repeat (first | (with_reducible first | exact HB.out | apply below_alloc | apply pw_below_drewN | apply below_drew1) | exact HB.out))) : w.heap.size ≤ gb1181)); have n3_ := Aside0.mk ((by rw [hg]; exact (below_size (by repeat (first | (with_reducible first | exact HB.out | apply below_alloc | apply pw_below_drewN | apply below_drew1) | exact HB.out))) : w.heap.size ≤ gb1181)); clear HB; have HB := n0_; have BK1181 := n1_; have GW1181 := n2_; have GE1181 := n3_; clear n0_ n1_ n2_ n3_; clear hb hbox hg; have hcz11_0 : w10.cell? ⟨gb1181, 0, none⟩ = some (.int .i64 a0_0) := (blk_cell BK1181.out 0).trans rfl; have hcz11_1 : w10.cell? ⟨gb1181, 1, none⟩ = some (.slice A0_1 l0_1.length c0_1) := (blk_cell BK1181.out 1).trans rfl; have hfz11_0 := blk_frozen BK1181.out 0; have hfz11_1 := blk_frozen BK1181.out 1) | ((with_reducible refine gate_callee (f := 27) rfl ?_); refine goesL_ (some 5) rfl rfl Try.func27 (by kernel_rfl) rfl #[.agg #[.int .i64 a0_0, .slice A0_1 l0_1.length c0_1]] rfl (by (try simp only [List.map_toArray, List.map_cons, List.map_nil]); first | done | rfl | (simp only [List.length_drop, List.length_take]; rfl)) ?_; (with_reducible refine (impl_IsGraph.calls k a0_0 _ _ l0_1 false _ ?side1 ?side2 A2.out).mono ?_); (case side1 => repeat (first | exact (Kd.C_below HR0_1.out HB.out) | (with_reducible refine Kd.C_alloc ?_ _) | (with_reducible refine Kd.C_drewN ?_ _) | (with_reducible refine Kd.C_drew ?_))); (case side2 => exact HC0_1.out); rintro e w12 ⟨rfl, hb⟩; refine ⟨_, rfl, ?_⟩; have n0_ := Aside0.mk (blk_below (g := gb1181) (o := .cells #[.int .i64 a0_0, .slice A0_1 l0_1.length c0_1] 36 (0, 0)) (by (with_reducible repeat (first | refine blk_drewN ?_ _ | refine blk_drew ?_ | refine blk_alloc ?_ _)); exact BK1181.out) hb); have n1_ := Aside0.mk (below_step (by repeat (first | (with_reducible first | exact HB.out | apply below_alloc | apply pw_below_drewN | apply below_drew1 | refine below_set ?_ GE1181.out) | exact HB.out)) hb); clear BK1181; clear HB; have BK1181 := n0_; have HB := n1_; clear n0_ n1_; (try clear hb); (try clear hb2); (try clear hk); (try clear hi)))
    go_ret2
    exact ⟨by first | rfl | (simp [errW_none, errW_some] <;> rfl) | (simp [*, errW_none, errW_some] <;> rfl), by repeat (first | (with_reducible first | exact HB.out | apply below_alloc | apply pw_below_drewN | apply below_drew1 | refine below_set ?_ GE1181.out) | exact HB.out)⟩

/-! ### laws_FnExactRankOf: function 14 -/
def laws_FnExactRankOf.f (k : Nat) (a0_0 : Int) (l0_1 : List (List Int)) : Option (Bool) := (laws_szGraph.f k a0_0 l0_1 1048576).bind fun t1185 => (if t1185 < 0 then (some true) else ((laws_toGraph.f k a0_0 l0_1).bind fun bt1186 => ((spec_RankOf.f k bt1186.1 bt1186.2).bind fun bt1190 => ((laws_toGraph.f k a0_0 l0_1).bind fun bt1192 => ((impl_RankOf.f k bt1192.1 bt1192.2).bind fun bt1197 => (if bt1197.1 = bt1190.1 then (if bt1197.2 = bt1190.2 then ((laws_toGraph.f k a0_0 l0_1).bind fun bt1199 => ((laws_eqGraph.f k bt1192.1 bt1192.2 bt1199.1 bt1199.2).bind fun t1203 => (if t1203 = true then (some true) else (some false)))) else (some false)) else (some false)))))))
theorem laws_FnExactRankOf.mono : ∀ a0 a1 k, LeO (laws_FnExactRankOf.f k a0 a1) (laws_FnExactRankOf.f (k + 1) a0 a1) := by
  intro a0 a1 k
  unfold laws_FnExactRankOf.f
  repeat' first
      | (with_reducible exact impl_RankOf.mono _ _ _)
      | (with_reducible exact laws_eqGraph.mono _ _ _ _ _)
      | (with_reducible exact laws_szGraph.mono _ _ _ _)
      | (with_reducible exact laws_toGraph.mono _ _ _)
      | (with_reducible exact spec_RankOf.mono _ _ _)
      | (with_reducible exact LeO.refl _)
      | (with_reducible exact LeO.none _)
      | (with_reducible refine LeO.ite ?_ ?_)
      | (with_reducible refine LeO.bind ?_ (fun _ => ?_))
      | exact impl_RankOf.mono _ _ _
      | exact laws_eqGraph.mono _ _ _ _ _
      | exact laws_szGraph.mono _ _ _ _
      | exact laws_toGraph.mono _ _ _
      | exact spec_RankOf.mono _ _ _
      | exact LeO.none _
      | refine LeO.ite ?_ ?_
      | refine LeO.bind ?_ (fun _ => ?_)
set_option maxHeartbeats 8000000 in
set_option maxRecDepth 100000 in
theorem laws_FnExactRankOf.calls (k : Nat) (a0_0 : Int) (A0_1 : Option Addr) (c0_1 : Nat) (l0_1 : List (List Int)) (w : World) (hr0_1 : Kd.C (Kd.slice 2 (Kd.int .i64)) w A0_1 l0_1.length l0_1) (hc0_1 : l0_1.length ≤ c0_1) (h : laws_FnExactRankOf.f k a0_0 l0_1 = some true) :
    Calls Try.prog 14 #[.agg #[.int .i64 a0_0, .slice A0_1 l0_1.length c0_1]] w fun e w' => e = .returned (.bool true) ∧ Below w.heap.size w w' := by
  have hu33 := Try.underlying33
  have hu36 := Try.underlying36
  have HR0_1 := Aside0.mk hr0_1
  have HC0_1 := Aside0.mk hc0_1
  clear hr0_1 hc0_1
  have HB := Aside0.mk (Below.refl w.heap.size w)
  have H : ((laws_szGraph.f k a0_0 l0_1 1048576).bind fun t1185 => (if t1185 < 0 then (some true) else ((laws_toGraph.f k a0_0 l0_1).bind fun bt1186 => ((spec_RankOf.f k bt1186.1 bt1186.2).bind fun bt1190 => ((laws_toGraph.f k a0_0 l0_1).bind fun bt1192 => ((impl_RankOf.f k bt1192.1 bt1192.2).bind fun bt1197 => (if bt1197.1 = bt1190.1 then (if bt1197.2 = bt1190.2 then ((laws_toGraph.f k a0_0 l0_1).bind fun bt1199 => ((laws_eqGraph.f k bt1192.1 bt1192.2 bt1199.1 bt1199.2).bind fun t1203 => (if t1203 = true then (some true) else (some false)))) else (some false)) else (some false)))))))) = some true := h
  clear h
  replace H := Option.bind_eq_some_iff.mp H
  obtain ⟨t1185, A20, H⟩ := H
  replace H : (if t1185 < 0 then (some true) else ((laws_toGraph.f k a0_0 l0_1).bind fun bt1186 => ((spec_RankOf.f k bt1186.1 bt1186.2).bind fun bt1190 => ((laws_toGraph.f k a0_0 l0_1).bind fun bt1192 => ((impl_RankOf.f k bt1192.1 bt1192.2).bind fun bt1197 => (if bt1197.1 = bt1190.1 then (if bt1197.2 = bt1190.2 then ((laws_toGraph.f k a0_0 l0_1).bind fun bt1199 => ((laws_eqGraph.f k bt1192.1 bt1192.2 bt1199.1 bt1199.2).bind fun t1203 => (if t1203 = true then (some true) else (some false)))) else (some false)) else (some false))))))) = some true := H
  have A2 := Aside0.mk A20
  clear A20
  by_cases c3 : t1185 < 0
  · rw [if_pos c3] at H
    have c3b0 : decide (t1185 < 0) = true := decide_eq_true c3
    clear c3
    try clear H
    go_enter Try.func14, Try.ntmps14
    go_wp2_with (first | ((with_reducible refine gate_dst (N := 1) rfl ?_); refine box_event ?hg (N := 1) ?hd (cs := #[.int .i64 a0_0, .slice A0_1 l0_1.length c0_1]) (t := 33) ?hr ?_; (case hd => rfl); (case hg => rfl); (case hr => first | (go_simp; done) | (go_simp; rfl)); intro gb1184 hg w4 hbox hb; have n0_ := Aside0.mk (hb.size); have n1_ := Aside0.mk ((⟨Nat.le_of_eq hg.symm, blk_lt hbox⟩ : w.heap.size ≤ gb1184 ∧ gb1184 < w4.heap.size)); have n2_ := Aside0.mk (below_step (by repeat (first | (with_reducible first | exact HB.out | apply below_alloc | apply pw_below_drewN | apply below_drew1) | exact HB.out)) hb); have n3_ := Aside0.mk (hbox); have n4_ := Aside0.mk ((by rw [hg]; exact (below_size (by repeat (first | (with_reducible first | exact HB.out | apply below_alloc | apply pw_below_drewN | apply below_drew1) | exact HB.out))) : w.heap.size ≤ gb1184)); have n5_ := Aside0.mk ((by rw [hg]; exact (below_size (by repeat (first | (with_reducible first | exact HB.out | apply below_alloc | apply pw_below_drewN | apply below_drew1) | exact HB.out))) : w.heap.size ≤ gb1184)); clear HB; have Zw4 := n0_; have ZB1184 := n1_; have HB := n2_; have BK1184 := n3_; have GW1184 := n4_; have GE1184 := n5_; clear n0_ n1_ n2_ n3_ n4_ n5_; clear hb hbox hg; have hcz5_0 : w4.cell? ⟨gb1184, 0, none⟩ = some (.int .i64 a0_0) := (blk_cell BK1184.out 0).trans rfl; have hcz5_1 : w4.cell? ⟨gb1184, 1, none⟩ = some (.slice A0_1 l0_1.length c0_1) := (blk_cell BK1184.out 1).trans rfl; have hfz5_0 := blk_frozen BK1184.out 0; have hfz5_1 := blk_frozen BK1184.out 1) | ((with_reducible refine gate_callee (f := 24) rfl ?_); refine goesL_ (some 11) rfl rfl Try.func24 (by kernel_rfl) rfl #[.agg #[.int .i64 a0_0, .slice A0_1 l0_1.length c0_1], .int .i64 1048576] rfl (by (try simp only [List.map_toArray, List.map_cons, List.map_nil]); first | done | rfl) ?_; (with_reducible refine (laws_szGraph.calls k a0_0 _ _ l0_1 1048576 t1185 _ ?side1 ?side2 A2.out).mono ?_); (case side1 => exact (Kd.C_below HR0_1.out HB.out)); (case side2 => exact HC0_1.out); rintro e w6 ⟨rfl, hb⟩; refine ⟨_, rfl, ?_⟩; have n0_ := Aside0.mk (blk_below (g := gb1184) (o := .cells #[.int .i64 a0_0, .slice A0_1 l0_1.length c0_1] 33 (0, 0)) (by (with_reducible repeat (first | refine blk_drewN ?_ _ | refine blk_drew ?_ | refine blk_alloc ?_ _)); exact BK1184.out) hb); have n1_ := Aside0.mk (below_step HB.out hb); have n2_ := Aside0.mk (hb.size); clear BK1184; clear HB; have BK1184 := n0_; have HB := n1_; have Zw6 := n2_; clear n0_ n1_ n2_; (try clear hb); (try clear hkp); (try clear hd_)))
    go_ret
    exact ⟨by first | rfl | (simp [errW_none, errW_some] <;> rfl) | (simp [*, errW_none, errW_some] <;> rfl), by repeat (first | (with_reducible first | exact HB.out | apply below_alloc | apply pw_below_drewN | apply below_drew1 | refine below_set ?_ GE1184.out) | exact HB.out)⟩
  · rw [if_neg c3] at H
    have c3b0 : decide (t1185 < 0) = false := decide_eq_false c3
    clear c3
    replace H := Option.bind_eq_some_iff.mp H
    obtain ⟨⟨t1186, t1187⟩, A70, H⟩ := H
    replace H : ((spec_RankOf.f k t1186 t1187).bind fun bt1190 => ((laws_toGraph.f k a0_0 l0_1).bind fun bt1192 => ((impl_RankOf.f k bt1192.1 bt1192.2).bind fun bt1197 => (if bt1197.1 = bt1190.1 then (if bt1197.2 = bt1190.2 then ((laws_toGraph.f k a0_0 l0_1).bind fun bt1199 => ((laws_eqGraph.f k bt1192.1 bt1192.2 bt1199.1 bt1199.2).bind fun t1203 => (if t1203 = true then (some true) else (some false)))) else (some false)) else (some false))))) = some true := H
    have A7 := Aside0.mk A70
    clear A70
    replace H := Option.bind_eq_some_iff.mp H
    obtain ⟨⟨t1190, t1191⟩, A80, H⟩ := H
    replace H : ((laws_toGraph.f k a0_0 l0_1).bind fun bt1192 => ((impl_RankOf.f k bt1192.1 bt1192.2).bind fun bt1197 => (if bt1197.1 = t1190 then (if bt1197.2 = t1191 then ((laws_toGraph.f k a0_0 l0_1).bind fun bt1199 => ((laws_eqGraph.f k bt1192.1 bt1192.2 bt1199.1 bt1199.2).bind fun t1203 => (if t1203 = true then (some true) else (some false)))) else (some false)) else (some false)))) = some true := H
    have A8 := Aside0.mk A80
    clear A80
    replace H := Option.bind_eq_some_iff.mp H
    obtain ⟨⟨t1192, t1193⟩, A90, H⟩ := H
    replace H : ((impl_RankOf.f k t1192 t1193).bind fun bt1197 => (if bt1197.1 = t1190 then (if bt1197.2 = t1191 then ((laws_toGraph.f k a0_0 l0_1).bind fun bt1199 => ((laws_eqGraph.f k t1192 t1193 bt1199.1 bt1199.2).bind fun t1203 => (if t1203 = true then (some true) else (some false)))) else (some false)) else (some false))) = some true := H
    have A9 := Aside0.mk A90
    clear A90
    replace H := Option.bind_eq_some_iff.mp H
    obtain ⟨⟨t1197, t1198⟩, A100, H⟩ := H
    replace H : (if t1197 = t1190 then (if t1198 = t1191 then ((laws_toGraph.f k a0_0 l0_1).bind fun bt1199 => ((laws_eqGraph.f k t1192 t1193 bt1199.1 bt1199.2).bind fun t1203 => (if t1203 = true then (some true) else (some false)))) else (some false)) else (some false)) = some true := H
    have A10 := Aside0.mk A100
    clear A100
    by_cases c11 : t1197 = t1190
    · rw [if_pos c11] at H
      have c11b0 : (t1197 == t1190) = true := beq_iff_eq.mpr c11
      have c11b1 : (t1197 != t1190) = false := bne_eq_false_iff_eq.mpr c11
      clear c11
      by_cases c12 : t1198 = t1191
      · rw [if_pos c12] at H
        have c12b0 : (t1198 == t1191) = true := beq_iff_eq.mpr c12
        have c12b1 : (t1198 != t1191) = false := bne_eq_false_iff_eq.mpr c12
        clear c12
        replace H := Option.bind_eq_some_iff.mp H
        obtain ⟨⟨t1199, t1200⟩, A130, H⟩ := H
        replace H : ((laws_eqGraph.f k t1192 t1193 t1199 t1200).bind fun t1203 => (if t1203 = true then (some true) else (some false))) = some true := H
        have A13 := Aside0.mk A130
        clear A130
        replace H := Option.bind_eq_some_iff.mp H
        obtain ⟨t1203, A140, H⟩ := H
        replace H : (if t1203 = true then (some true) else (some false)) = some true := H
        have A14 := Aside0.mk A140
        clear A140
        by_cases c15 : t1203 = true
        · subst c15
          have H1 : some true = some true := rfl
          clear H
          have H := H1
          clear H1
          try clear H
          go_enter Try.func14, Try.ntmps14
          try go_wp2_with (first | ((with_reducible refine gate_dst (N := 1) rfl ?_); refine box_event ?hg (N := 1) ?hd (cs := #[.int .i64 a0_0, .slice A0_1 l0_1.length c0_1]) (t := 33) ?hr ?_; (case hd => rfl); (case hg => rfl); (case hr => first | (go_simp; done) | (go_simp; rfl)); intro gb1184 hg w16 hbox hb; have n0_ := Aside0.mk (hb.size); have n1_ := Aside0.mk ((⟨Nat.le_of_eq hg.symm, blk_lt hbox⟩ : w.heap.size ≤ gb1184 ∧ gb1184 < w16.heap.size)); have n2_ := Aside0.mk (below_step (by repeat (first | (with_reducible first | exact HB.out | apply below_alloc | apply pw_below_drewN | apply below_drew1) | exact HB.out)) hb); have n3_ := Aside0.mk (hbox); have n4_ := Aside0.mk ((by rw [hg]; exact (below_size (by repeat (first | (with_reducible first | exact HB.out | apply below_alloc | apply pw_below_drewN | apply below_drew1) | exact HB.out))) : w.heap.size ≤ gb1184)); have n5_ := Aside0.mk ((by rw [hg]; exact (below_size (by repeat (first | (with_reducible first | exact HB.out | apply below_alloc | apply pw_below_drewN | apply below_drew1) | exact HB.out))) : w.heap.size ≤ gb1184)); clear HB; have Zw16 := n0_; have ZB1184 := n1_; have HB := n2_; have BK1184 := n3_; have GW1184 := n4_; have GE1184 := n5_; clear n0_ n1_ n2_ n3_ n4_ n5_; clear hb hbox hg; have hcz17_0 : w16.cell? ⟨gb1184, 0, none⟩ = some (.int .i64 a0_0) := (blk_cell BK1184.out 0).trans rfl; have hcz17_1 : w16.cell? ⟨gb1184, 1, none⟩ = some (.slice A0_1 l0_1.length c0_1) := (blk_cell BK1184.out 1).trans rfl; have hfz17_0 := blk_frozen BK1184.out 0; have hfz17_1 := blk_frozen BK1184.out 1) | ((with_reducible refine gate_callee (f := 24) rfl ?_); refine goesL_ (some 11) rfl rfl Try.func24 (by kernel_rfl) rfl #[.agg #[.int .i64 a0_0, .slice A0_1 l0_1.length c0_1], .int .i64 1048576] rfl (by (try simp only [List.map_toArray, List.map_cons, List.map_nil]); first | done | rfl) ?_; (with_reducible refine (laws_szGraph.calls k a0_0 _ _ l0_1 1048576 t1185 _ ?side1 ?side2 A2.out).mono ?_); (case side1 => exact (Kd.C_below HR0_1.out HB.out)); (case side2 => exact HC0_1.out); rintro e w18 ⟨rfl, hb⟩; refine ⟨_, rfl, ?_⟩; have n0_ := Aside0.mk (blk_below (g := gb1184) (o := .cells #[.int .i64 a0_0, .slice A0_1 l0_1.length c0_1] 33 (0, 0)) (by (with_reducible repeat (first | refine blk_drewN ?_ _ | refine blk_drew ?_ | refine blk_alloc ?_ _)); exact BK1184.out) hb); have n1_ := Aside0.mk (below_step HB.out hb); have n2_ := Aside0.mk (hb.size); clear BK1184; clear HB; have BK1184 := n0_; have HB := n1_; have Zw18 := n2_; clear n0_ n1_ n2_; (try clear hb); (try clear hkp); (try clear hd_); have hcz19_0 : w18.cell? ⟨gb1184, 0, none⟩ = some (.int .i64 a0_0) := (blk_cell BK1184.out 0).trans rfl; have hcz19_1 : w18.cell? ⟨gb1184, 1, none⟩ = some (.slice A0_1 l0_1.length c0_1) := (blk_cell BK1184.out 1).trans rfl; have hfz19_0 := blk_frozen BK1184.out 0; have hfz19_1 := blk_frozen BK1184.out 1) | ((with_reducible refine gate_callee (f := 26) rfl ?_); refine goesL_ (some 16) rfl rfl Try.func26 (by kernel_rfl) rfl #[.agg #[.int .i64 a0_0, .slice A0_1 l0_1.length c0_1]] rfl (by (try simp only [List.map_toArray, List.map_cons, List.map_nil]); first | done | rfl) ?_; (with_reducible refine (laws_toGraph.calls k a0_0 _ _ l0_1 t1186 t1187 _ ?side1 ?side2 A7.out).mono ?_); (case side1 => exact (Kd.C_below HR0_1.out HB.out)); (case side2 => exact HC0_1.out); rintro e w20 ⟨v1188, rfl, ho0, hb⟩; refine ⟨_, rfl, ?_⟩; have n0_ := Aside0.mk (blk_below (g := gb1184) (o := .cells #[.int .i64 a0_0, .slice A0_1 l0_1.length c0_1] 33 (0, 0)) (by (with_reducible repeat (first | refine blk_drewN ?_ _ | refine blk_drew ?_ | refine blk_alloc ?_ _)); exact BK1184.out) hb); have n1_ := Aside0.mk (Kd.S_lower (Kd.S_mono (Kd.S_bound ho0) (fun k_ hk_ => (⟨hk_.2.1, hk_.2.2.1⟩ : w18.heap.size ≤ k_ ∧ k_ < w20.heap.size))) HB.out.size); have n2_ := Aside0.mk (below_step HB.out hb); have n3_ := Aside0.mk (hb.size); clear BK1184; clear HB; have BK1184 := n0_; have HO1189 := n1_; have HB := n2_; have Zw20 := n3_; clear n0_ n1_ n2_ n3_; (try clear hb); (try clear hkp); (try clear hd_); (try clear ho0); obtain ⟨Ao21, co21, eo21⟩ := Kd.S_slice HO1189.out; subst eo21) | ((with_reducible refine gate_callee (f := 52) rfl ?_); refine goesL_ (some 17) rfl rfl Try.func52 (by kernel_rfl) rfl #[.agg #[.int .i64 t1186, .slice Ao21 t1187.length co21]] rfl (by (try simp only [List.map_toArray, List.map_cons, List.map_nil]); first | done | rfl) ?_; (with_reducible refine (spec_RankOf.calls k t1186 _ _ t1187 t1190 t1191 _ ?side1 ?side2 A8.out).mono ?_); (case side1 => exact (Kd.S_reads' HO1189.out).2.2); (case side2 => (have e_ := Kd.S_reads' HO1189.out; have e1_ := e_.1; have e2_ := e_.2.1; omega)); rintro e w22 ⟨rfl, hb⟩; refine ⟨_, rfl, ?_⟩; have n0_ := Aside0.mk (blk_below (g := gb1184) (o := .cells #[.int .i64 a0_0, .slice A0_1 l0_1.length c0_1] 33 (0, 0)) (by (with_reducible repeat (first | refine blk_drewN ?_ _ | refine blk_drew ?_ | refine blk_alloc ?_ _)); exact BK1184.out) hb); have n1_ := Aside0.mk (Kd.S_below HO1189.out hb); have n2_ := Aside0.mk (below_step HB.out hb); have n3_ := Aside0.mk (hb.size); clear BK1184; clear HO1189; clear HB; have BK1184 := n0_; have HO1189 := n1_; have HB := n2_; have Zw22 := n3_; clear n0_ n1_ n2_ n3_; (try clear hb); (try clear hkp); (try clear hd_); have hcz23_0 : w22.cell? ⟨gb1184, 0, none⟩ = some (.int .i64 a0_0) := (blk_cell BK1184.out 0).trans rfl; have hcz23_1 : w22.cell? ⟨gb1184, 1, none⟩ = some (.slice A0_1 l0_1.length c0_1) := (blk_cell BK1184.out 1).trans rfl; have hfz23_0 := blk_frozen BK1184.out 0; have hfz23_1 := blk_frozen BK1184.out 1) | ((with_reducible refine gate_callee (f := 26) rfl ?_); refine goesL_ (some 21) rfl rfl Try.func26 (by kernel_rfl) rfl #[.agg #[.int .i64 a0_0, .slice A0_1 l0_1.length c0_1]] rfl (by (try simp only [List.map_toArray, List.map_cons, List.map_nil]); first | done | rfl) ?_; (with_reducible refine (laws_toGraph.calls k a0_0 _ _ l0_1 t1192 t1193 _ ?side1 ?side2 A9.out).mono ?_); (case side1 => exact (Kd.C_below HR0_1.out HB.out)); (case side2 => exact HC0_1.out); rintro e w24 ⟨v1194, rfl, ho0, hb⟩; refine ⟨_, rfl, ?_⟩; have n0_ := Aside0.mk (blk_below (g := gb1184) (o := .cells #[.int .i64 a0_0, .slice A0_1 l0_1.length c0_1] 33 (0, 0)) (by (with_reducible repeat (first | refine blk_drewN ?_ _ | refine blk_drew ?_ | refine blk_alloc ?_ _)); exact BK1184.out) hb); have n1_ := Aside0.mk (Kd.S_below HO1189.out hb); have n2_ := Aside0.mk (Kd.S_lower (Kd.S_mono (Kd.S_bound ho0) (fun k_ hk_ => (⟨hk_.2.1, hk_.2.2.1⟩ : w22.heap.size ≤ k_ ∧ k_ < w24.heap.size))) HB.out.size); have n3_ := Aside0.mk (below_step HB.out hb); have n4_ := Aside0.mk (hb.size); clear BK1184; clear HO1189; clear HB; have BK1184 := n0_; have HO1189 := n1_; have HO1195 := n2_; have HB := n3_; have Zw24 := n4_; clear n0_ n1_ n2_ n3_ n4_; (try clear hb); (try clear hkp); (try clear hd_); (try clear ho0); obtain ⟨Ao25, co25, eo25⟩ := Kd.S_slice HO1195.out; subst eo25) | ((with_reducible refine gate_dst (N := 6) rfl ?_); refine box_event ?hg (N := 6) ?hd (cs := #[.int .i64 0, .slice none 0 0]) (t := 36) ?hr ?_; (case hd => rfl); (case hg => rfl); (case hr => first | (go_simp; done) | (go_simp; rfl)); intro gb1196 hg w26 hbox hb; have n0_ := Aside0.mk (Kd.S_below HO1189.out hb); have n1_ := Aside0.mk (Kd.S_below HO1195.out hb); have n2_ := Aside0.mk (blk_below (g := gb1184) (o := .cells #[.int .i64 a0_0, .slice A0_1 l0_1.length c0_1] 33 (0, 0)) (by (with_reducible repeat (first | refine blk_drewN ?_ _ | refine blk_drew ?_ | refine blk_alloc ?_ _)); exact BK1184.out) hb); have n3_ := Aside0.mk (hb.size); have n4_ := Aside0.mk ((⟨Nat.le_of_eq hg.symm, blk_lt hbox⟩ : w24.heap.size ≤ gb1196 ∧ gb1196 < w26.heap.size)); have n5_ := Aside0.mk (below_step (by repeat (first | (with_reducible first | exact HB.out | apply below_alloc | apply pw_below_drewN | apply below_drew1 | refine below_set ?_ GE1184.out) | exact HB.out)) hb); have n6_ := Aside0.mk (hbox); have n7_ := Aside0.mk ((by rw [hg]; exact (below_size (by repeat (first | (with_reducible first | exact HB.out | apply below_alloc | apply pw_below_drewN | apply below_drew1 | refine below_set ?_ GE1184.out) | exact HB.out))) : w.heap.size ≤ gb1196)); have n8_ := Aside0.mk ((by rw [hg]; exact (below_size (by repeat (first | (with_reducible first | exact HB.out | apply below_alloc | apply pw_below_drewN | apply below_drew1 | refine below_set ?_ GE1184.out) | exact HB.out))) : w.heap.size ≤ gb1196)); have n9_ := Aside0.mk ((by rw [hg]; exact Nat.ne_of_lt (blk_lt (g := gb1184) (o := .cells #[.int .i64 a0_0, .slice A0_1 l0_1.length c0_1] 33 (0, 0)) (by (with_reducible repeat (first | refine blk_drewN ?_ _ | refine blk_drew ?_ | refine blk_alloc ?_ _)); exact BK1184.out)) : gb1184 ≠ gb1196)); have n10_ := Aside0.mk ((by rw [hg]; exact Nat.ne_of_gt (blk_lt (g := gb1184) (o := .cells #[.int .i64 a0_0, .slice A0_1 l0_1.length c0_1] 33 (0, 0)) (by (with_reducible repeat (first | refine blk_drewN ?_ _ | refine blk_drew ?_ | refine blk_alloc ?_ _)); exact BK1184.out)) : gb1196 ≠ gb1184)); clear HO1189; clear HO1195; clear BK1184; clear HB; have HO1189 := n0_; have HO1195 := n1_; have BK1184 := n2_; have Zw26 := n3_; have ZB1196 := n4_; have HB := n5_; have BK1196 := n6_; have GW1196 := n7_; have GE1196 := n8_; have NB1184_1196 := n9_; have NB1196_1184 := n10_; clear n0_ n1_ n2_ n3_ n4_ n5_ n6_ n7_ n8_ n9_ n10_; clear hb hbox hg; have hnb27 := NB1196_1184.out; have hnc27 := NB1184_1196.out; have hcz28_0 : w26.cell? ⟨gb1196, 0, none⟩ = some (.int .i64 0) := (blk_cell BK1196.out 0).trans rfl; have hcz28_1 : w26.cell? ⟨gb1196, 1, none⟩ = some (.slice none 0 0) := (blk_cell BK1196.out 1).trans rfl; have hfz28_0 := blk_frozen BK1196.out 0; have hfz28_1 := blk_frozen BK1196.out 1) | ((with_reducible refine gate_callee (f := 53) rfl ?_); have n0_ := Aside0.mk (show ((w26.setCell ⟨gb1196, 0, none⟩ (.int .i64 t1192)).setCell ⟨gb1196, 1, none⟩ (.slice Ao25 t1193.length co25)).heap[gb1184]? = some (.cells #[.int .i64 a0_0, .slice A0_1 l0_1.length c0_1] 33 (0, 0)) from (by (with_reducible repeat (first | refine blk_drewN ?_ _ | refine blk_drew ?_ | refine blk_alloc ?_ _)); refine blk_far ?_ NB1184_1196.out _; (with_reducible repeat (first | refine blk_drewN ?_ _ | refine blk_drew ?_ | refine blk_alloc ?_ _)); refine blk_far ?_ NB1184_1196.out _; (with_reducible repeat (first | refine blk_drewN ?_ _ | refine blk_drew ?_ | refine blk_alloc ?_ _)); exact BK1184.out)); have n1_ := Aside0.mk (show Kd.S (Kd.slice 2 (Kd.int .i64)) 23 ((w26.setCell ⟨gb1196, 0, none⟩ (.int .i64 t1192)).setCell ⟨gb1196, 1, none⟩ (.slice Ao25 t1193.length co25)) w.heap.size (fun k_ => w18.heap.size ≤ k_ ∧ k_ < w20.heap.size) (.slice Ao21 t1187.length co21) t1187 from (Kd.S_far (Kd.S_far HO1189.out (fun k_ ho_ => (show k_ ≠ gb1196 from by have h1_ := ho_.1; have h2_ := ho_.2; have h3_ := ZB1196.out.1; have h4_ := ZB1196.out.2; have z0_ := Zw16.out; have z1_ := Zw18.out; have z2_ := Zw20.out; have z3_ := Zw22.out; have z4_ := Zw24.out; have z5_ := Zw26.out; omega)) _) (fun k_ ho_ => (show k_ ≠ gb1196 from by have h1_ := ho_.1; have h2_ := ho_.2; have h3_ := ZB1196.out.1; have h4_ := ZB1196.out.2; have z0_ := Zw16.out; have z1_ := Zw18.out; have z2_ := Zw20.out; have z3_ := Zw22.out; have z4_ := Zw24.out; have z5_ := Zw26.out; omega)) _)); have n2_ := Aside0.mk (show Kd.S (Kd.slice 2 (Kd.int .i64)) 23 ((w26.setCell ⟨gb1196, 0, none⟩ (.int .i64 t1192)).setCell ⟨gb1196, 1, none⟩ (.slice Ao25 t1193.length co25)) w.heap.size (fun k_ => w22.heap.size ≤ k_ ∧ k_ < w24.heap.size) (.slice Ao25 t1193.length co25) t1193 from (Kd.S_far (Kd.S_far HO1195.out (fun k_ ho_ => (show k_ ≠ gb1196 from by have h1_ := ho_.1; have h2_ := ho_.2; have h3_ := ZB1196.out.1; have h4_ := ZB1196.out.2; have z0_ := Zw16.out; have z1_ := Zw18.out; have z2_ := Zw20.out; have z3_ := Zw22.out; have z4_ := Zw24.out; have z5_ := Zw26.out; omega)) _) (fun k_ ho_ => (show k_ ≠ gb1196 from by have h1_ := ho_.1; have h2_ := ho_.2; have h3_ := ZB1196.out.1; have h4_ := ZB1196.out.2; have z0_ := Zw16.out; have z1_ := Zw18.out; have z2_ := Zw20.out; have z3_ := Zw22.out; have z4_ := Zw24.out; have z5_ := Zw26.out; omega)) _)); have n3_ := Aside0.mk (show ((w26.setCell ⟨gb1196, 0, none⟩ (.int .i64 t1192)).setCell ⟨gb1196, 1, none⟩ (.slice Ao25 t1193.length co25)).heap[gb1196]? = some (.cells #[.int .i64 t1192, .slice Ao25 t1193.length co25] 36 (0, 0)) from (by (with_reducible repeat (first | refine blk_drewN ?_ _ | refine blk_drew ?_ | refine blk_alloc ?_ _)); refine blk_put (cs := #[.int .i64 t1192, .slice none 0 0]) ?_ 1 _ rfl; (with_reducible repeat (first | refine blk_drewN ?_ _ | refine blk_drew ?_ | refine blk_alloc ?_ _)); refine blk_put (cs := #[.int .i64 0, .slice none 0 0]) ?_ 0 _ rfl; (with_reducible repeat (first | refine blk_drewN ?_ _ | refine blk_drew ?_ | refine blk_alloc ?_ _)); exact BK1196.out)); have n4_ := Aside0.mk (show Below w.heap.size w ((w26.setCell ⟨gb1196, 0, none⟩ (.int .i64 t1192)).setCell ⟨gb1196, 1, none⟩ (.slice Ao25 t1193.length co25)) from (below_set (below_set HB.out GE1196.out) GE1196.out)); have n5_ := Aside0.mk (show w26.heap.size ≤ ((w26.setCell ⟨gb1196, 0, none⟩ (.int .i64 t1192)).setCell ⟨gb1196, 1, none⟩ (.slice Ao25 t1193.length co25)).heap.size from (Kept.setCell (Kept.setCell (Kept.refl w26 (fun _ => True)) (.inl trivial) _) (.inl trivial) _).1); clear BK1184; clear HO1189; clear HO1195; clear BK1196; clear HB; generalize hW_ : ((w26.setCell ⟨gb1196, 0, none⟩ (.int .i64 t1192)).setCell ⟨gb1196, 1, none⟩ (.slice Ao25 t1193.length co25)) = w29 at n0_ n1_ n2_ n3_ n4_ n5_ ⊢; clear hW_; have BK1184 := n0_; have HO1189 := n1_; have HO1195 := n2_; have BK1196 := n3_; have HB := n4_; have Zw29 := n5_; clear n0_ n1_ n2_ n3_ n4_ n5_; refine goesL_ (some 24) rfl rfl Try.func53 (by kernel_rfl) rfl #[.agg #[.int .i64 t1192, .slice Ao25 t1193.length co25]] rfl (by (try simp only [List.map_toArray, List.map_cons, List.map_nil]); first | done | rfl) ?_; (with_reducible refine (impl_RankOf.calls k t1192 _ _ t1193 t1197 t1198 _ ?side1 ?side2 A10.out).mono ?_); (case side1 => exact (Kd.S_reads' HO1195.out).2.2); (case side2 => (have e_ := Kd.S_reads' HO1195.out; have e1_ := e_.1; have e2_ := e_.2.1; omega)); rintro e w30 ⟨rfl, hb⟩; refine ⟨_, rfl, ?_⟩; have n0_ := Aside0.mk (blk_below (g := gb1184) (o := .cells #[.int .i64 a0_0, .slice A0_1 l0_1.length c0_1] 33 (0, 0)) (by (with_reducible repeat (first | refine blk_drewN ?_ _ | refine blk_drew ?_ | refine blk_alloc ?_ _)); exact BK1184.out) hb); have n1_ := Aside0.mk (Kd.S_below HO1189.out hb); have n2_ := Aside0.mk (Kd.S_below HO1195.out hb); have n3_ := Aside0.mk (blk_below (g := gb1196) (o := .cells #[.int .i64 t1192, .slice Ao25 t1193.length co25] 36 (0, 0)) (by (with_reducible repeat (first | refine blk_drewN ?_ _ | refine blk_drew ?_ | refine blk_alloc ?_ _)); exact BK1196.out) hb); have n4_ := Aside0.mk (below_step HB.out hb); have n5_ := Aside0.mk (hb.size); clear BK1184; clear HO1189; clear HO1195; clear BK1196; clear HB; have BK1184 := n0_; have HO1189 := n1_; have HO1195 := n2_; have BK1196 := n3_; have HB := n4_; have Zw30 := n5_; clear n0_ n1_ n2_ n3_ n4_ n5_; (try clear hb); (try clear hkp); (try clear hd_)))
          have n0_ := Aside0.mk ((show w30.heap.size ≤ w30.drew.heap.size from Nat.le_refl _))
          have n1_ := Aside0.mk (Kd.S_drew HO1189.out)
          have n2_ := Aside0.mk (Kd.S_drew HO1195.out)
          have n3_ := Aside0.mk (blk_drew BK1184.out)
          have n4_ := Aside0.mk (blk_drew BK1196.out)
          have n5_ := Aside0.mk (below_drew1 HB.out)
          clear HO1189
          clear HO1195
          clear BK1184
          clear BK1196
          clear HB
          have Zw31 := n0_
          have HO1189 := n1_
          have HO1195 := n2_
          have BK1184 := n3_
          have BK1196 := n4_
          have HB := n5_
          clear n0_ n1_ n2_ n3_ n4_ n5_
          refine start_ (n := 5) (S := fun w' => w'.cell? ⟨gb1196, 0, none⟩ = some (.int .i64 t1192) ∧ w'.cell? ⟨gb1196, 1, none⟩ = some (.slice Ao25 t1193.length co25) ∧ w'.cell? ⟨gb1184, 0, none⟩ = some (.int .i64 a0_0) ∧ w'.cell? ⟨gb1184, 1, none⟩ = some (.slice A0_1 l0_1.length c0_1)) (ds := []) #[false, false, false, false, false] (by kernel_rfl) rfl rfl ⟨(blk_cell BK1196.out 0).trans rfl, (blk_cell BK1196.out 1).trans rfl, (blk_cell BK1184.out 0).trans rfl, (blk_cell BK1184.out 1).trans rfl⟩ (fun hHeld => ?_)
          generalize w30.drew = w31 at HO1189 HO1195 BK1184 BK1196 HB Zw31 hHeld ⊢
          refine take_ (i := 0) (N := some 35) (v := ?_) (a' := ?_) #[true, false, false, false, false] rfl rfl (by kernel_rfl) (fun _ _ _ h => h) (Or.inl ⟨by rfl, ?_⟩) hHeld ?_ ?_
          rotate_left
          · rintro w' ⟨s0, s1, s2, s3⟩
            go_simp
            with_reducible rfl
          rotate_left
          · simp only [Act.put, List.setIfInBounds_toArray, List.set_cons_zero, List.set_cons_succ, i64_w, i32_w]
            rfl
          refine take_ (i := 1) (N := some 36) (v := ?_) (a' := ?_) #[true, true, false, false, false] rfl rfl (by kernel_rfl) (fun _ _ _ h => h) (Or.inl ⟨by rfl, ?_⟩) hHeld ?_ ?_
          rotate_left
          · rintro w' ⟨s0, s1, s2, s3⟩
            go_simp
            with_reducible rfl
          rotate_left
          · simp only [Act.put, List.setIfInBounds_toArray, List.set_cons_zero, List.set_cons_succ, i64_w, i32_w]
            rfl
          refine one_ (i := 2) (N := some 37) #[true, true, true, false, false] rfl rfl (by kernel_rfl) (by decide) (fun K hK => ?_)
          refine goes_ Try.func26 (by kernel_rfl) rfl #[.agg #[.int .i64 a0_0, .slice A0_1 l0_1.length c0_1]] (by rfl) rfl rfl (by (try simp only [List.map_toArray, List.map_cons, List.map_nil]); first | done | rfl | (simp only [List.length_drop, List.length_take]; rfl)) ?_
          with_reducible refine (laws_toGraph.calls k a0_0 _ _ l0_1 t1199 t1200 _ ?side1 ?side2 A13.out).mono ?_
          (case side1 => exact (Kd.C_below HR0_1.out HB.out))
          (case side2 => exact HC0_1.out)
          rintro e w32 ⟨v1201, rfl, ho0, hb⟩
          refine ⟨_, rfl, ?_⟩
          have n0_ := Aside0.mk (blk_below (g := gb1184) (o := .cells #[.int .i64 a0_0, .slice A0_1 l0_1.length c0_1] 33 (0, 0)) (by (with_reducible repeat (first | refine blk_drewN ?_ _ | refine blk_drew ?_ | refine blk_alloc ?_ _)); exact BK1184.out) hb)
          have n1_ := Aside0.mk (Kd.S_below HO1189.out hb)
          have n2_ := Aside0.mk (Kd.S_below HO1195.out hb)
          have n3_ := Aside0.mk (blk_below (g := gb1196) (o := .cells #[.int .i64 t1192, .slice Ao25 t1193.length co25] 36 (0, 0)) (by (with_reducible repeat (first | refine blk_drewN ?_ _ | refine blk_drew ?_ | refine blk_alloc ?_ _)); exact BK1196.out) hb)
          have n4_ := Aside0.mk (Kd.S_lower (Kd.S_mono (Kd.S_bound ho0) (fun k_ hk_ => (⟨hk_.2.1, hk_.2.2.1⟩ : w31.heap.size ≤ k_ ∧ k_ < w32.heap.size))) HB.out.size)
          have n5_ := Aside0.mk (below_step HB.out hb)
          have n6_ := Aside0.mk (hb.size)
          clear BK1184
          clear HO1189
          clear HO1195
          clear BK1196
          clear HB
          have BK1184 := n0_
          have HO1189 := n1_
          have HO1195 := n2_
          have BK1196 := n3_
          have HO1202 := n4_
          have HB := n5_
          have Zw32 := n6_
          clear n0_ n1_ n2_ n3_ n4_ n5_ n6_
          (try clear hb)
          (try clear hkp)
          (try clear hd_)
          (try clear ho0)
          obtain ⟨Ao33, co33, eo33⟩ := Kd.S_slice HO1202.out
          subst eo33
          refine hK.out _ _ ⟨(blk_cell BK1196.out 0).trans rfl, (blk_cell BK1196.out 1).trans rfl, (blk_cell BK1184.out 0).trans rfl, (blk_cell BK1184.out 1).trans rfl⟩ (fun hHeld => ?_)
          clear hK K
          refine norm_ (a' := ?_) ?_ ?_
          rotate_left
          · show Act.put _ (some 37) _ = _
            simp only [Act.put, List.setIfInBounds_toArray, List.set_cons_zero, List.set_cons_succ, i64_w, i32_w]
            rfl
          refine one_ (i := 3) (N := some 38) #[true, true, true, true, false] rfl rfl (by kernel_rfl) (by decide) (fun K hK => ?_)
          refine goes_ Try.func28 (by kernel_rfl) rfl #[.agg #[.int .i64 t1192, .slice Ao25 t1193.length co25], .agg #[.int .i64 t1199, .slice Ao33 t1200.length co33]] (by rfl) rfl rfl (by (try simp only [List.map_toArray, List.map_cons, List.map_nil]); first | done | rfl | (simp only [List.length_drop, List.length_take]; rfl)) ?_
          with_reducible refine (laws_eqGraph.calls k t1192 _ _ t1193 t1199 _ _ t1200 true _ ?side1 ?side2 ?side3 ?side4 A14.out).mono ?_
          (case side1 => exact (Kd.S_reads' HO1195.out).2.2)
          (case side2 => (have e_ := Kd.S_reads' HO1195.out; have e1_ := e_.1; have e2_ := e_.2.1; omega))
          (case side3 => exact (Kd.S_reads' HO1202.out).2.2)
          (case side4 => (have e_ := Kd.S_reads' HO1202.out; have e1_ := e_.1; have e2_ := e_.2.1; omega))
          rintro e w34 ⟨rfl, hb⟩
          refine ⟨_, rfl, ?_⟩
          have n0_ := Aside0.mk (blk_below (g := gb1184) (o := .cells #[.int .i64 a0_0, .slice A0_1 l0_1.length c0_1] 33 (0, 0)) (by (with_reducible repeat (first | refine blk_drewN ?_ _ | refine blk_drew ?_ | refine blk_alloc ?_ _)); exact BK1184.out) hb)
          have n1_ := Aside0.mk (Kd.S_below HO1189.out hb)
          have n2_ := Aside0.mk (Kd.S_below HO1195.out hb)
          have n3_ := Aside0.mk (blk_below (g := gb1196) (o := .cells #[.int .i64 t1192, .slice Ao25 t1193.length co25] 36 (0, 0)) (by (with_reducible repeat (first | refine blk_drewN ?_ _ | refine blk_drew ?_ | refine blk_alloc ?_ _)); exact BK1196.out) hb)
          have n4_ := Aside0.mk (Kd.S_below HO1202.out hb)
          have n5_ := Aside0.mk (below_step HB.out hb)
          have n6_ := Aside0.mk (hb.size)
          clear BK1184
          clear HO1189
          clear HO1195
          clear BK1196
          clear HO1202
          clear HB
          have BK1184 := n0_
          have HO1189 := n1_
          have HO1195 := n2_
          have BK1196 := n3_
          have HO1202 := n4_
          have HB := n5_
          have Zw34 := n6_
          clear n0_ n1_ n2_ n3_ n4_ n5_ n6_
          (try clear hb)
          (try clear hkp)
          (try clear hd_)
          refine hK.out _ _ ⟨(blk_cell BK1196.out 0).trans rfl, (blk_cell BK1196.out 1).trans rfl, (blk_cell BK1184.out 0).trans rfl, (blk_cell BK1184.out 1).trans rfl⟩ (fun hHeld => ?_)
          clear hK K
          refine norm_ (a' := ?_) ?_ ?_
          rotate_left
          · show Act.put _ (some 38) _ = _
            simp only [Act.put, List.setIfInBounds_toArray, List.set_cons_zero, List.set_cons_succ, i64_w, i32_w]
            rfl
          refine pure_ (i := 4) (N := some 39) (v := ?_) (a' := ?_) #[true, true, true, true, true] rfl rfl (by kernel_rfl) (fun _ _ _ h => h) (Or.inl ⟨by rfl, ?_⟩) ?_ ?_
          rotate_left
          · intro w'
            go_simp
            with_reducible rfl
          rotate_left
          · simp only [Act.put, List.setIfInBounds_toArray, List.set_cons_zero, List.set_cons_succ, i64_w, i32_w]
            rfl
          refine done_ (by kernel_rfl) ?_
          try go_wp2
          go_ret
          exact ⟨by first | rfl | (simp [errW_none, errW_some] <;> rfl) | (simp [*, errW_none, errW_some] <;> rfl), by repeat (first | (with_reducible first | exact HB.out | apply below_alloc | apply pw_below_drewN | apply below_drew1 | refine below_set ?_ GE1184.out | refine below_set ?_ GE1196.out) | exact HB.out)⟩
        · replace c15 := Bool.eq_false_iff.mpr c15
          subst c15
          have H1 : (some false) = some true := by rw [if_neg (show ¬ (false = true) by decide)] at H; exact H
          clear H
          have H := H1
          clear H1
          exact absurd H (by simp)
      · rw [if_neg c12] at H
        have c12b0 : (t1198 == t1191) = false := beq_eq_false_iff_ne.mpr c12
        have c12b1 : (t1198 != t1191) = true := bne_iff_ne.mpr c12
        exact absurd H (by simp)
    · rw [if_neg c11] at H
      have c11b0 : (t1197 == t1190) = false := beq_eq_false_iff_ne.mpr c11
      have c11b1 : (t1197 != t1190) = true := bne_iff_ne.mpr c11
      exact absurd H (by simp)

/-- THE ONE PURE STATEMENT of laws_FnExactRankOf: yours. -/
def laws_FnExactRankOf.Pure : Prop := ∀ (a0_0 : Int) (l0_1 : List (List Int)), (Lit.int .i64 a0_0).wf = true → l0_1.length ≤ maxLen → (∀ r ∈ l0_1, r.length ≤ maxLen ∧ ∀ y ∈ r, (Lit.int .i64 y).wf = true) → ∃ k, laws_FnExactRankOf.f k a0_0 l0_1 = some true
theorem laws_FnExactRankOf.walk (P : laws_FnExactRankOf.Pure) (a0_0 : Int) (A0_1 : Option Addr) (c0_1 : Nat) (l0_1 : List (List Int)) (w : World) (hw0_0 : (Lit.int .i64 a0_0).wf = true) (hm0_1 : l0_1.length ≤ maxLen) (hw0_1 : (∀ r ∈ l0_1, r.length ≤ maxLen ∧ ∀ y ∈ r, (Lit.int .i64 y).wf = true)) (hr0_1 : Kd.C (Kd.slice 2 (Kd.int .i64)) w A0_1 l0_1.length l0_1) (hc0_1 : l0_1.length ≤ c0_1) :
    Calls Try.prog 14 #[.agg #[.int .i64 a0_0, .slice A0_1 l0_1.length c0_1]] w fun e w' => e = .returned (.bool true) ∧ Below w.heap.size w w' := by
  obtain ⟨k, h⟩ := P a0_0 l0_1 hw0_0 hm0_1 hw0_1
  refine (laws_FnExactRankOf.calls k a0_0 _ _ l0_1 w hr0_1 hc0_1 h).mono ?_
  rintro e w' ⟨rfl, hd⟩
  exact ⟨rfl, hd⟩

end Go.Proofs.Ytkhbehppjahokaa.G
