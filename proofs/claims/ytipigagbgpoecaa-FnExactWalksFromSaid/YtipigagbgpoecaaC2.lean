/- The printed functions that this law reaches, and their contracts: part 2. -/
-- printed by this repo's wip/printer out of the kit's print with its own changes
import Derived.Test.YtipigagbgpoecaaC1
namespace Go.Proofs.Ytipigagbgpoecaa.G
open Go.RowKit Go.Proofs.YtipigagbgpoecaaW.PrintWords Go.Proofs.YtipigagbgpoecaaW.PrintLast Go.Proofs.YtipigagbgpoecaaW.PrintMore
attribute [local go_sem] max2_int min2_int max_two min_two max_three min_three max_four min_four   -- for this text's walks alone
set_option linter.unusedVariables false
set_option linter.unusedSimpArgs false

/-! ### impl_graphCode_at_WalksFrom_1: function 100000 -/
def impl_graphCode_at_WalksFrom_1.f (k : Nat) (a0_0 : Int) (l0_1 : List (List Int)) (a1_0 : Int) (a1_1 : Int) (l1_2 : List (List Int)) (a1_3 : Int) : Option (Int) := (impl_IsGraph.f k a0_0 l0_1).bind fun t300 => (if t300 = true then ((impl_WalksFrom_1.f a1_0 a1_1 l1_2 a1_3).bind fun t301 => (if t301 = true then (some 0) else (some 2))) else (some 1))
set_option maxHeartbeats 8000000 in
set_option maxRecDepth 100000 in
theorem impl_graphCode_at_WalksFrom_1.calls (k : Nat) (a0_0 : Int) (A0_1 : Option Addr) (c0_1 : Nat) (l0_1 : List (List Int)) (gq1_0 : Nat) (gq1_1 : Nat) (gq1_2 : Nat) (a1_0 : Int) (a1_1 : Int) (A1_2 : Option Addr) (c1_2 : Nat) (l1_2 : List (List Int)) (a1_3 : Int) (r : Int) (w : World) (hr0_1 : Kd.C (Kd.slice 2 (Kd.int .i64)) w A0_1 l0_1.length l0_1) (hc0_1 : l0_1.length ≤ c0_1) (hbgq1_0 : w.heap[gq1_0]? = some (.cells #[.int .i64 a1_0] 2 (0, 0))) (hbgq1_1 : w.heap[gq1_1]? = some (.cells #[.int .i64 a1_1, .slice A1_2 l1_2.length c1_2] 29 (0, 0))) (hbgq1_2 : w.heap[gq1_2]? = some (.cells #[.int .i64 a1_3] 2 (0, 0))) (hr1_2 : Kd.C (Kd.slice 2 (Kd.int .i64)) w A1_2 l1_2.length l1_2) (hc1_2 : l1_2.length ≤ c1_2) (h : impl_graphCode_at_WalksFrom_1.f k a0_0 l0_1 a1_0 a1_1 l1_2 a1_3 = some r) :
    Calls Try.prog 50 #[.agg #[.int .i64 a0_0, .slice A0_1 l0_1.length c0_1], .func (.func 66) #[] #[.pointer (some ⟨gq1_0, 0, none⟩), .pointer (some ⟨gq1_1, 0, none⟩), .pointer (some ⟨gq1_2, 0, none⟩)]] w fun e w' => e = .returned (.int .i64 r) ∧ Below w.heap.size w w' := by
  have hu29 := Try.underlying29
  have HR0_1 := Aside0.mk hr0_1
  have HC0_1 := Aside0.mk hc0_1
  clear hr0_1 hc0_1
  have HR1_2 := Aside0.mk hr1_2
  have HC1_2 := Aside0.mk hc1_2
  clear hr1_2 hc1_2
  have BK296 := Aside0.mk hbgq1_0
  clear hbgq1_0
  have BK297 := Aside0.mk hbgq1_1
  clear hbgq1_1
  have BK298 := Aside0.mk hbgq1_2
  clear hbgq1_2
  have HB := Aside0.mk (Below.refl w.heap.size w)
  have H : ((impl_IsGraph.f k a0_0 l0_1).bind fun t300 => (if t300 = true then ((impl_WalksFrom_1.f a1_0 a1_1 l1_2 a1_3).bind fun t301 => (if t301 = true then (some 0) else (some 2))) else (some 1))) = some r := h
  clear h
  obtain ⟨t300, A3, H⟩ := bnd_ H
  by_cases c4 : t300 = true
  · subst c4
    have H1 : ((impl_WalksFrom_1.f a1_0 a1_1 l1_2 a1_3).bind fun t301 => (if t301 = true then (some 0) else (some 2))) = some r := by rw [if_pos rfl] at H; exact H
    clear H
    have H := H1
    clear H1
    obtain ⟨t301, A5, H⟩ := bnd_ H
    by_cases c6 : t301 = true
    · subst c6
      have H1 : (some 0) = some r := by rw [if_pos rfl] at H; exact H
      clear H
      have H := H1
      clear H1
      obtain rfl := Option.some.inj H
      go_enter Try.func50, Try.ntmps50
      go_wp2_with (first | ((with_reducible refine gate_dst (N := 2) rfl ?_); refine box_event ?hg (N := 2) ?hd (cs := #[.int .i64 a0_0, .slice A0_1 l0_1.length c0_1]) (t := 29) ?hr ?_; (case hd => rfl); (case hg => rfl); (case hr => first | (go_simp; done) | (go_simp; rfl)); intro gb299 hg w7 hbox hb; have BK299 := Aside0.mk (hbox); have GW299 := Aside0.mk ((by rw [hg]; exact (below_size hbs_) : w.heap.size ≤ gb299)); have GE299 := Aside0.mk ((by rw [hg]; exact (below_size hbs_) : w.heap.size ≤ gb299)); replace HB := Aside0.mk (below_step hbs_ hb); have NB296_299 := Aside0.mk ((by rw [hg]; exact Nat.ne_of_lt (blk_lt (g := gq1_0) (o := .cells #[.int .i64 a1_0] 2 (0, 0)) (blk_below BK296.out bgo_)) : gq1_0 ≠ gb299)); have NB299_296 := Aside0.mk ((by rw [hg]; exact Nat.ne_of_gt (blk_lt (g := gq1_0) (o := .cells #[.int .i64 a1_0] 2 (0, 0)) (blk_below BK296.out bgo_)) : gb299 ≠ gq1_0)); replace BK296 := Aside0.mk (blk_below (g := gq1_0) (o := .cells #[.int .i64 a1_0] 2 (0, 0)) (blk_below BK296.out bgo_) hb); have NB297_299 := Aside0.mk ((by rw [hg]; exact Nat.ne_of_lt (blk_lt (g := gq1_1) (o := .cells #[.int .i64 a1_1, .slice A1_2 l1_2.length c1_2] 29 (0, 0)) (blk_below BK297.out bgo_)) : gq1_1 ≠ gb299)); have NB299_297 := Aside0.mk ((by rw [hg]; exact Nat.ne_of_gt (blk_lt (g := gq1_1) (o := .cells #[.int .i64 a1_1, .slice A1_2 l1_2.length c1_2] 29 (0, 0)) (blk_below BK297.out bgo_)) : gb299 ≠ gq1_1)); replace BK297 := Aside0.mk (blk_below (g := gq1_1) (o := .cells #[.int .i64 a1_1, .slice A1_2 l1_2.length c1_2] 29 (0, 0)) (blk_below BK297.out bgo_) hb); have NB298_299 := Aside0.mk ((by rw [hg]; exact Nat.ne_of_lt (blk_lt (g := gq1_2) (o := .cells #[.int .i64 a1_3] 2 (0, 0)) (blk_below BK298.out bgo_)) : gq1_2 ≠ gb299)); have NB299_298 := Aside0.mk ((by rw [hg]; exact Nat.ne_of_gt (blk_lt (g := gq1_2) (o := .cells #[.int .i64 a1_3] 2 (0, 0)) (blk_below BK298.out bgo_)) : gb299 ≠ gq1_2)); replace BK298 := Aside0.mk (blk_below (g := gq1_2) (o := .cells #[.int .i64 a1_3] 2 (0, 0)) (blk_below BK298.out bgo_) hb); clear hb hbox hg; have hnb8 := NB299_296.out; have hnc8 := NB296_299.out; have hnb9 := NB299_297.out; have hnc9 := NB297_299.out; have hnb10 := NB299_298.out; have hnc10 := NB298_299.out; have hcz11_0 : w7.cell? ⟨gb299, 0, none⟩ = some (.int .i64 a0_0) := (blk_cell BK299.out 0).trans rfl; have hcz11_1 : w7.cell? ⟨gb299, 1, none⟩ = some (.slice A0_1 l0_1.length c0_1) := (blk_cell BK299.out 1).trans rfl; have hfz11_0 := blk_frozen BK299.out 0; have hfz11_1 := blk_frozen BK299.out 1) | ((with_reducible refine gate_callee (f := 46) rfl ?_); refine goesL_ (some 7) rfl rfl Try.func46 (by kernel_rfl) rfl #[.agg #[.int .i64 a0_0, .slice A0_1 l0_1.length c0_1]] rfl arg_ ?_; (with_reducible refine (impl_IsGraph.calls k a0_0 _ _ l0_1 true _ ?side1 ?side2 A3.out).mono ?_); (case side1 => exact Kd.C_below (Kd.C_below HR0_1.out HB.out) bgo_); (case side2 => exact HC0_1.out); rintro e w12 ⟨rfl, hb⟩; refine ⟨_, rfl, ?_⟩; replace BK296 := Aside0.mk (blk_below (g := gq1_0) (o := .cells #[.int .i64 a1_0] 2 (0, 0)) (blk_below BK296.out bgo_) hb); replace BK297 := Aside0.mk (blk_below (g := gq1_1) (o := .cells #[.int .i64 a1_1, .slice A1_2 l1_2.length c1_2] 29 (0, 0)) (blk_below BK297.out bgo_) hb); replace BK298 := Aside0.mk (blk_below (g := gq1_2) (o := .cells #[.int .i64 a1_3] 2 (0, 0)) (blk_below BK298.out bgo_) hb); replace BK299 := Aside0.mk (blk_below (g := gb299) (o := .cells #[.int .i64 a0_0, .slice A0_1 l0_1.length c0_1] 29 (0, 0)) (blk_below BK299.out bgo_) hb); replace HB := Aside0.mk (below_step hbs_ hb); (try clear hb); (try clear hb2); (try clear hk); (try clear hi)) | ((with_reducible refine gate_fn (t := 10) rfl ?_); refine goesF_ (some 11) rfl rfl Try.func66 (by kernel_rfl) rfl (lb := #[.pointer (some ⟨gq1_0, 0, none⟩), .pointer (some ⟨gq1_1, 0, none⟩), .pointer (some ⟨gq1_2, 0, none⟩)]) #[.pointer (some ⟨gq1_0, 0, none⟩), .pointer (some ⟨gq1_1, 0, none⟩), .pointer (some ⟨gq1_2, 0, none⟩)] rfl (by first | rfl | (simp; done)) (by (try simp only [List.map_toArray, List.map_cons, List.map_nil, List.append_toArray, List.cons_append, List.nil_append]); first | done | rfl | (simp only [List.length_drop, List.length_take]; rfl)) ?_; (with_reducible refine (impl_WalksFrom_1.calls gq1_0 a1_0 gq1_1 a1_1 A1_2 c1_2 l1_2 gq1_2 a1_3 true _ ?side1 ?side2 ?side3 ?side4 ?side5 A5.out).mono ?_); (case side1 => exact (blk_below BK296.out bgo_)); (case side2 => exact (blk_below BK297.out bgo_)); (case side3 => exact Kd.C_below (Kd.C_below HR1_2.out HB.out) bgo_); (case side4 => exact HC1_2.out); (case side5 => exact (blk_below BK298.out bgo_)); rintro e w13 ⟨rfl, hb⟩; refine ⟨_, rfl, ?_⟩; replace BK296 := Aside0.mk (blk_below (g := gq1_0) (o := .cells #[.int .i64 a1_0] 2 (0, 0)) (blk_below BK296.out bgo_) hb); replace BK297 := Aside0.mk (blk_below (g := gq1_1) (o := .cells #[.int .i64 a1_1, .slice A1_2 l1_2.length c1_2] 29 (0, 0)) (blk_below BK297.out bgo_) hb); replace BK298 := Aside0.mk (blk_below (g := gq1_2) (o := .cells #[.int .i64 a1_3] 2 (0, 0)) (blk_below BK298.out bgo_) hb); replace BK299 := Aside0.mk (blk_below (g := gb299) (o := .cells #[.int .i64 a0_0, .slice A0_1 l0_1.length c0_1] 29 (0, 0)) (blk_below BK299.out bgo_) hb); replace HB := Aside0.mk (below_step hbs_ hb); (try clear hb); (try clear hb2); (try clear hk); (try clear hi)))
      go_ret
      exact ⟨er_, hbs_⟩
    · replace c6 := Bool.eq_false_iff.mpr c6
      subst c6
      have H1 : (some 2) = some r := by rw [if_neg (show ¬ (false = true) by decide)] at H; exact H
      clear H
      have H := H1
      clear H1
      obtain rfl := Option.some.inj H
      go_enter Try.func50, Try.ntmps50
      go_wp2_with (first | ((with_reducible refine gate_dst (N := 2) rfl ?_); refine box_event ?hg (N := 2) ?hd (cs := #[.int .i64 a0_0, .slice A0_1 l0_1.length c0_1]) (t := 29) ?hr ?_; (case hd => rfl); (case hg => rfl); (case hr => first | (go_simp; done) | (go_simp; rfl)); intro gb299 hg w14 hbox hb; have BK299 := Aside0.mk (hbox); have GW299 := Aside0.mk ((by rw [hg]; exact (below_size hbs_) : w.heap.size ≤ gb299)); have GE299 := Aside0.mk ((by rw [hg]; exact (below_size hbs_) : w.heap.size ≤ gb299)); replace HB := Aside0.mk (below_step hbs_ hb); have NB296_299 := Aside0.mk ((by rw [hg]; exact Nat.ne_of_lt (blk_lt (g := gq1_0) (o := .cells #[.int .i64 a1_0] 2 (0, 0)) (blk_below BK296.out bgo_)) : gq1_0 ≠ gb299)); have NB299_296 := Aside0.mk ((by rw [hg]; exact Nat.ne_of_gt (blk_lt (g := gq1_0) (o := .cells #[.int .i64 a1_0] 2 (0, 0)) (blk_below BK296.out bgo_)) : gb299 ≠ gq1_0)); replace BK296 := Aside0.mk (blk_below (g := gq1_0) (o := .cells #[.int .i64 a1_0] 2 (0, 0)) (blk_below BK296.out bgo_) hb); have NB297_299 := Aside0.mk ((by rw [hg]; exact Nat.ne_of_lt (blk_lt (g := gq1_1) (o := .cells #[.int .i64 a1_1, .slice A1_2 l1_2.length c1_2] 29 (0, 0)) (blk_below BK297.out bgo_)) : gq1_1 ≠ gb299)); have NB299_297 := Aside0.mk ((by rw [hg]; exact Nat.ne_of_gt (blk_lt (g := gq1_1) (o := .cells #[.int .i64 a1_1, .slice A1_2 l1_2.length c1_2] 29 (0, 0)) (blk_below BK297.out bgo_)) : gb299 ≠ gq1_1)); replace BK297 := Aside0.mk (blk_below (g := gq1_1) (o := .cells #[.int .i64 a1_1, .slice A1_2 l1_2.length c1_2] 29 (0, 0)) (blk_below BK297.out bgo_) hb); have NB298_299 := Aside0.mk ((by rw [hg]; exact Nat.ne_of_lt (blk_lt (g := gq1_2) (o := .cells #[.int .i64 a1_3] 2 (0, 0)) (blk_below BK298.out bgo_)) : gq1_2 ≠ gb299)); have NB299_298 := Aside0.mk ((by rw [hg]; exact Nat.ne_of_gt (blk_lt (g := gq1_2) (o := .cells #[.int .i64 a1_3] 2 (0, 0)) (blk_below BK298.out bgo_)) : gb299 ≠ gq1_2)); replace BK298 := Aside0.mk (blk_below (g := gq1_2) (o := .cells #[.int .i64 a1_3] 2 (0, 0)) (blk_below BK298.out bgo_) hb); clear hb hbox hg; have hnb15 := NB299_296.out; have hnc15 := NB296_299.out; have hnb16 := NB299_297.out; have hnc16 := NB297_299.out; have hnb17 := NB299_298.out; have hnc17 := NB298_299.out; have hcz18_0 : w14.cell? ⟨gb299, 0, none⟩ = some (.int .i64 a0_0) := (blk_cell BK299.out 0).trans rfl; have hcz18_1 : w14.cell? ⟨gb299, 1, none⟩ = some (.slice A0_1 l0_1.length c0_1) := (blk_cell BK299.out 1).trans rfl; have hfz18_0 := blk_frozen BK299.out 0; have hfz18_1 := blk_frozen BK299.out 1) | ((with_reducible refine gate_callee (f := 46) rfl ?_); refine goesL_ (some 7) rfl rfl Try.func46 (by kernel_rfl) rfl #[.agg #[.int .i64 a0_0, .slice A0_1 l0_1.length c0_1]] rfl arg_ ?_; (with_reducible refine (impl_IsGraph.calls k a0_0 _ _ l0_1 true _ ?side1 ?side2 A3.out).mono ?_); (case side1 => exact Kd.C_below (Kd.C_below HR0_1.out HB.out) bgo_); (case side2 => exact HC0_1.out); rintro e w19 ⟨rfl, hb⟩; refine ⟨_, rfl, ?_⟩; replace BK296 := Aside0.mk (blk_below (g := gq1_0) (o := .cells #[.int .i64 a1_0] 2 (0, 0)) (blk_below BK296.out bgo_) hb); replace BK297 := Aside0.mk (blk_below (g := gq1_1) (o := .cells #[.int .i64 a1_1, .slice A1_2 l1_2.length c1_2] 29 (0, 0)) (blk_below BK297.out bgo_) hb); replace BK298 := Aside0.mk (blk_below (g := gq1_2) (o := .cells #[.int .i64 a1_3] 2 (0, 0)) (blk_below BK298.out bgo_) hb); replace BK299 := Aside0.mk (blk_below (g := gb299) (o := .cells #[.int .i64 a0_0, .slice A0_1 l0_1.length c0_1] 29 (0, 0)) (blk_below BK299.out bgo_) hb); replace HB := Aside0.mk (below_step hbs_ hb); (try clear hb); (try clear hb2); (try clear hk); (try clear hi)) | ((with_reducible refine gate_fn (t := 10) rfl ?_); refine goesF_ (some 11) rfl rfl Try.func66 (by kernel_rfl) rfl (lb := #[.pointer (some ⟨gq1_0, 0, none⟩), .pointer (some ⟨gq1_1, 0, none⟩), .pointer (some ⟨gq1_2, 0, none⟩)]) #[.pointer (some ⟨gq1_0, 0, none⟩), .pointer (some ⟨gq1_1, 0, none⟩), .pointer (some ⟨gq1_2, 0, none⟩)] rfl (by first | rfl | (simp; done)) (by (try simp only [List.map_toArray, List.map_cons, List.map_nil, List.append_toArray, List.cons_append, List.nil_append]); first | done | rfl | (simp only [List.length_drop, List.length_take]; rfl)) ?_; (with_reducible refine (impl_WalksFrom_1.calls gq1_0 a1_0 gq1_1 a1_1 A1_2 c1_2 l1_2 gq1_2 a1_3 false _ ?side1 ?side2 ?side3 ?side4 ?side5 A5.out).mono ?_); (case side1 => exact (blk_below BK296.out bgo_)); (case side2 => exact (blk_below BK297.out bgo_)); (case side3 => exact Kd.C_below (Kd.C_below HR1_2.out HB.out) bgo_); (case side4 => exact HC1_2.out); (case side5 => exact (blk_below BK298.out bgo_)); rintro e w20 ⟨rfl, hb⟩; refine ⟨_, rfl, ?_⟩; replace BK296 := Aside0.mk (blk_below (g := gq1_0) (o := .cells #[.int .i64 a1_0] 2 (0, 0)) (blk_below BK296.out bgo_) hb); replace BK297 := Aside0.mk (blk_below (g := gq1_1) (o := .cells #[.int .i64 a1_1, .slice A1_2 l1_2.length c1_2] 29 (0, 0)) (blk_below BK297.out bgo_) hb); replace BK298 := Aside0.mk (blk_below (g := gq1_2) (o := .cells #[.int .i64 a1_3] 2 (0, 0)) (blk_below BK298.out bgo_) hb); replace BK299 := Aside0.mk (blk_below (g := gb299) (o := .cells #[.int .i64 a0_0, .slice A0_1 l0_1.length c0_1] 29 (0, 0)) (blk_below BK299.out bgo_) hb); replace HB := Aside0.mk (below_step hbs_ hb); (try clear hb); (try clear hb2); (try clear hk); (try clear hi)))
      go_ret
      exact ⟨er_, hbs_⟩
  · replace c4 := Bool.eq_false_iff.mpr c4
    subst c4
    have H1 : (some 1) = some r := by rw [if_neg (show ¬ (false = true) by decide)] at H; exact H
    clear H
    have H := H1
    clear H1
    obtain rfl := Option.some.inj H
    go_enter Try.func50, Try.ntmps50
    go_wp2_with (first | ((with_reducible refine gate_dst (N := 2) rfl ?_); refine box_event ?hg (N := 2) ?hd (cs := #[.int .i64 a0_0, .slice A0_1 l0_1.length c0_1]) (t := 29) ?hr ?_; (case hd => rfl); (case hg => rfl); (case hr => first | (go_simp; done) | (go_simp; rfl)); intro gb299 hg w21 hbox hb; have BK299 := Aside0.mk (hbox); have GW299 := Aside0.mk ((by rw [hg]; exact (below_size hbs_) : w.heap.size ≤ gb299)); have GE299 := Aside0.mk ((by rw [hg]; exact (below_size hbs_) : w.heap.size ≤ gb299)); replace HB := Aside0.mk (below_step hbs_ hb); have NB296_299 := Aside0.mk ((by rw [hg]; exact Nat.ne_of_lt (blk_lt (g := gq1_0) (o := .cells #[.int .i64 a1_0] 2 (0, 0)) (blk_below BK296.out bgo_)) : gq1_0 ≠ gb299)); have NB299_296 := Aside0.mk ((by rw [hg]; exact Nat.ne_of_gt (blk_lt (g := gq1_0) (o := .cells #[.int .i64 a1_0] 2 (0, 0)) (blk_below BK296.out bgo_)) : gb299 ≠ gq1_0)); replace BK296 := Aside0.mk (blk_below (g := gq1_0) (o := .cells #[.int .i64 a1_0] 2 (0, 0)) (blk_below BK296.out bgo_) hb); have NB297_299 := Aside0.mk ((by rw [hg]; exact Nat.ne_of_lt (blk_lt (g := gq1_1) (o := .cells #[.int .i64 a1_1, .slice A1_2 l1_2.length c1_2] 29 (0, 0)) (blk_below BK297.out bgo_)) : gq1_1 ≠ gb299)); have NB299_297 := Aside0.mk ((by rw [hg]; exact Nat.ne_of_gt (blk_lt (g := gq1_1) (o := .cells #[.int .i64 a1_1, .slice A1_2 l1_2.length c1_2] 29 (0, 0)) (blk_below BK297.out bgo_)) : gb299 ≠ gq1_1)); replace BK297 := Aside0.mk (blk_below (g := gq1_1) (o := .cells #[.int .i64 a1_1, .slice A1_2 l1_2.length c1_2] 29 (0, 0)) (blk_below BK297.out bgo_) hb); have NB298_299 := Aside0.mk ((by rw [hg]; exact Nat.ne_of_lt (blk_lt (g := gq1_2) (o := .cells #[.int .i64 a1_3] 2 (0, 0)) (blk_below BK298.out bgo_)) : gq1_2 ≠ gb299)); have NB299_298 := Aside0.mk ((by rw [hg]; exact Nat.ne_of_gt (blk_lt (g := gq1_2) (o := .cells #[.int .i64 a1_3] 2 (0, 0)) (blk_below BK298.out bgo_)) : gb299 ≠ gq1_2)); replace BK298 := Aside0.mk (blk_below (g := gq1_2) (o := .cells #[.int .i64 a1_3] 2 (0, 0)) (blk_below BK298.out bgo_) hb); clear hb hbox hg; have hnb22 := NB299_296.out; have hnc22 := NB296_299.out; have hnb23 := NB299_297.out; have hnc23 := NB297_299.out; have hnb24 := NB299_298.out; have hnc24 := NB298_299.out; have hcz25_0 : w21.cell? ⟨gb299, 0, none⟩ = some (.int .i64 a0_0) := (blk_cell BK299.out 0).trans rfl; have hcz25_1 : w21.cell? ⟨gb299, 1, none⟩ = some (.slice A0_1 l0_1.length c0_1) := (blk_cell BK299.out 1).trans rfl; have hfz25_0 := blk_frozen BK299.out 0; have hfz25_1 := blk_frozen BK299.out 1) | ((with_reducible refine gate_callee (f := 46) rfl ?_); refine goesL_ (some 7) rfl rfl Try.func46 (by kernel_rfl) rfl #[.agg #[.int .i64 a0_0, .slice A0_1 l0_1.length c0_1]] rfl arg_ ?_; (with_reducible refine (impl_IsGraph.calls k a0_0 _ _ l0_1 false _ ?side1 ?side2 A3.out).mono ?_); (case side1 => exact Kd.C_below (Kd.C_below HR0_1.out HB.out) bgo_); (case side2 => exact HC0_1.out); rintro e w26 ⟨rfl, hb⟩; refine ⟨_, rfl, ?_⟩; replace BK296 := Aside0.mk (blk_below (g := gq1_0) (o := .cells #[.int .i64 a1_0] 2 (0, 0)) (blk_below BK296.out bgo_) hb); replace BK297 := Aside0.mk (blk_below (g := gq1_1) (o := .cells #[.int .i64 a1_1, .slice A1_2 l1_2.length c1_2] 29 (0, 0)) (blk_below BK297.out bgo_) hb); replace BK298 := Aside0.mk (blk_below (g := gq1_2) (o := .cells #[.int .i64 a1_3] 2 (0, 0)) (blk_below BK298.out bgo_) hb); replace BK299 := Aside0.mk (blk_below (g := gb299) (o := .cells #[.int .i64 a0_0, .slice A0_1 l0_1.length c0_1] 29 (0, 0)) (blk_below BK299.out bgo_) hb); replace HB := Aside0.mk (below_step hbs_ hb); (try clear hb); (try clear hb2); (try clear hk); (try clear hi)))
    go_ret
    exact ⟨er_, hbs_⟩

/-! ### impl_WalksFrom_2: function 100003 -/
def impl_WalksFrom_2.f (a0 : Int) (a1_0 : Int) (l1_1 : List (List Int)) (a2_0 : Int) : Option (Bool) := (impl_Graph_ends.f a1_0 l1_1 a0).bind fun bt315 => (some (bt315.1 == a2_0))
set_option maxHeartbeats 8000000 in
set_option maxRecDepth 100000 in
theorem impl_WalksFrom_2.calls (a0 : Int) (gq1_0 : Nat) (a1_0 : Int) (A1_1 : Option Addr) (c1_1 : Nat) (l1_1 : List (List Int)) (gq2_0 : Nat) (a2_0 : Int) (r : Bool) (w : World) (hbgq1_0 : w.heap[gq1_0]? = some (.cells #[.int .i64 a1_0, .slice A1_1 l1_1.length c1_1] 29 (0, 0))) (hr1_1 : Kd.C (Kd.slice 2 (Kd.int .i64)) w A1_1 l1_1.length l1_1) (hc1_1 : l1_1.length ≤ c1_1) (hbgq2_0 : w.heap[gq2_0]? = some (.cells #[.int .i64 a2_0] 2 (0, 0))) (h : impl_WalksFrom_2.f a0 a1_0 l1_1 a2_0 = some r) :
    Calls Try.prog 70 #[.int .i64 a0, .pointer (some ⟨gq1_0, 0, none⟩), .pointer (some ⟨gq2_0, 0, none⟩)] w fun e w' => e = .returned (.bool r) ∧ Below w.heap.size w w' := by
  have hu29 := Try.underlying29
  have HR1_1 := Aside0.mk hr1_1
  have HC1_1 := Aside0.mk hc1_1
  clear hr1_1 hc1_1
  have BK313 := Aside0.mk hbgq1_0
  clear hbgq1_0
  have BK314 := Aside0.mk hbgq2_0
  clear hbgq2_0
  have HB := Aside0.mk (Below.refl w.heap.size w)
  have H : ((impl_Graph_ends.f a1_0 l1_1 a0).bind fun bt315 => (some (bt315.1 == a2_0))) = some r := h
  clear h
  obtain ⟨⟨t315, t316⟩, A4, H⟩ := bnd_ H
  dsimp only at H
  obtain rfl := Option.some.inj H
  have hcz5_0 : w.cell? ⟨gq1_0, 0, none⟩ = some (.int .i64 a1_0) := (blk_cell BK313.out 0).trans rfl
  have hcz5_1 : w.cell? ⟨gq1_0, 1, none⟩ = some (.slice A1_1 l1_1.length c1_1) := (blk_cell BK313.out 1).trans rfl
  have hfz5_0 := blk_frozen BK313.out 0
  have hfz5_1 := blk_frozen BK313.out 1
  go_enter Try.func70, Try.ntmps70
  go_wp2_with (first | ((with_reducible refine gate_callee (f := 71) rfl ?_); refine goesL_ (some 10) rfl rfl Try.func71 (by kernel_rfl) rfl #[.agg #[.int .i64 a1_0, .slice A1_1 l1_1.length c1_1], .int .i64 a0] rfl arg_ ?_; (with_reducible refine (impl_Graph_ends.calls a1_0 _ _ l1_1 a0 t315 t316 _ ?side1 ?side2 A4.out).mono ?_); (case side1 => exact Kd.C_below HR1_1.out bgo_); (case side2 => exact HC1_1.out); rintro e w6 ⟨rfl, hb⟩; refine ⟨_, rfl, ?_⟩; replace BK313 := Aside0.mk (blk_below (g := gq1_0) (o := .cells #[.int .i64 a1_0, .slice A1_1 l1_1.length c1_1] 29 (0, 0)) (blk_below BK313.out bgo_) hb); replace BK314 := Aside0.mk (blk_below (g := gq2_0) (o := .cells #[.int .i64 a2_0] 2 (0, 0)) (blk_below BK314.out bgo_) hb); replace HB := Aside0.mk (below_step hbs_ hb); (try clear hb); (try clear hb2); (try clear hk); (try clear hi); have hcz7_0 : w6.cell? ⟨gq2_0, 0, none⟩ = some (.int .i64 a2_0) := (blk_cell BK314.out 0).trans rfl; have hfz7_0 := blk_frozen BK314.out 0))
  go_ret
  exact ⟨er_, hbs_⟩

/-! ### impl_Graph_walks_at_WalksFrom_2_at_WalksFrom_3: function 100002 -/
theorem impl_Graph_walks_at_WalksFrom_2_at_WalksFrom_3.run_one {P : Program} (w : World) (base : Nat) (t ty e : TypeId) (i : TypeInfo) (z : Value) (bytes : Nat) (ht : P.underlying t = some (.slice e)) (hi : P.info? e = some i) (hz : i.zero = some z)
    (hsize : i.size = 1) (hby : i.bytes = bytes) (hzs : z.cells.size = 1) (v : Value) (n : Nat) (xs : List Value) (hown : w.ownsRow base e 1 v n xs)
    (a : Addr) (c : Nat) (news : List Value) (hl : news.length = 1) (hnews : ∀ j u, news[j]? = some u → w.cell? (a.add j) = some u) (h1 : ∀ u ∈ news, u.oneCell' = true)
    (h63 : n + 1 ≤ maxLen) (hbytes : (n + 1) * bytes ≤ 140737488355328) (hbase : base ≤ w.heap.size) :
    ∃ v' w', (Builtin.append_ #[t, t] ty #[v, .slice (some a) 1 c]).run P w = .ok v' w' ∧ w'.ownsRow base e 1 v' (n + 1) (xs ++ news) ∧ w.grownBy w' v.ownBlock ∧
      ((∃ A c, v = .slice A n c ∧ v' = .slice A (n + 1) c) ∨ (w'.ownsRow base e 1 v n xs ∧ ∃ b, v'.ownBlock = some b ∧ w.heap.size ≤ b)) := by
  obtain ⟨v', w', hr, h2, h3, h4, h5⟩ := run_append_own_at (P := P) w base t ty e i z 1 bytes ht hi hz hsize hby hzs (by decide) v n xs hown a 1 c news (by rw [hl]) hnews h1 h63 hbytes hbase
  refine ⟨v', w', hr, h2, h3, ?_⟩
  have hn : ∀ b, v'.ownBlock = some b → v.ownBlock = none → w.heap.size ≤ b := fun b hb h0 => by
    rcases h5 with h5 | h5
    · rw [h5, h0] at hb
      cases hb
    · rw [h5] at hb
      injection hb with hb
      omega
  rcases hown.2 with ⟨rfl, rfl⟩ | ⟨g, cap, cur, rfl, hbg, hg, hnc, hcm, hcs, htake⟩
  · have hx : xs = [] := List.eq_nil_of_length_eq_zero (by simpa using hown.1)
    subst hx
    refine .inr ⟨World.ownsRow_nil _ _ _ _, ?_⟩
    rcases h2.2 with ⟨_, h0⟩ | ⟨g, cap, cur, rfl, _⟩
    · omega
    · exact ⟨g, rfl, hn g rfl rfl⟩
  · by_cases hroom : n + 1 ≤ cap
    · have hr2 := run_append_room (P := P) w t ty e i ht hi g n cap cur hg a 1 c news (by rw [hl, hsize]) hnews h1 hroom (by rw [hl, hcs, hsize]; omega)
      rw [hr] at hr2
      injection hr2 with hv hw
      exact .inl ⟨_, _, rfl, hv⟩
    · have holds : ∀ j u, xs[j]? = some u → w.cell? ((⟨g, 0, none⟩ : Addr).add j) = some u := hown.cells (g := g) rfl
      have hr2 := run_append_grow (P := P) w t ty e i z ht hi hz ⟨g, 0, none⟩ n cap xs (by rw [hsize]; exact hown.1) holds a 1 c news (by rw [hl, hsize]) hnews (by simp only [maxLen] at h63; omega) (by simp only [maxLen] at h63; omega) (growslice_fits (by omega) (by rw [hby]; exact hbytes))
      rw [hr] at hr2
      injection hr2 with hv hw
      refine .inr ⟨?_, w.heap.size, by rw [hv]; rfl, Nat.le_refl _⟩
      rw [hw]
      exact (hown.drew).alloc _
section
variable {P : Program} {ops : Array Oper} {o : Oper} {a : Act} {Q : Exit → Act → World → Prop} {Kc : Act → World → Prop}
theorem impl_Graph_walks_at_WalksFrom_2_at_WalksFrom_3.one_step {w0 W : World} (base : Nat) (hw : Region.wanted o (yielded ops a.tmps) = true) (s x : Operand) (t e : TypeId) (z : Value) (bytes : Nat)
    (ho : o.op = .call { callee := .builtin .append, args := #[s, x], argTypes := #[t, t] })
    (ht : P.underlying t = some (.slice e)) (hinfo : (P.info? e).map (fun i => (i.zero, i.size, i.bytes)) = some (some z, 1, bytes)) (hz : z.cells.size = 1) (hb0 : 0 < bytes)
    (v : Value) (xs : List Int) (p : Int) (ok : Nat → Prop) (hs : a.eval s = v) (hx : a.eval x = .slice (some ⟨W.heap.size, 0, none⟩) 1 1)
    (HO : (Kd.int .i64).R e W base ok v xs) (HB : Below base w0 W) (hbase : base ≤ W.heap.size) (hl : (xs.length + 1) * bytes ≤ 140737488355328)
    (h : ∀ v1 w1, (Kd.int .i64).R e w1 base (fun _ => True) v1 (xs ++ [p]) → Below base w0 w1 → W.grownBy w1 v.ownBlock →
      ((∃ A c, v = .slice A xs.length c ∧ v1 = .slice A (xs.length + 1) c) ∨ ((Kd.int .i64).R e w1 base ok v xs ∧ ∃ b, v1.ownBlock = some b ∧ W.heap.size ≤ b)) → Kc (a.put o.dst v1) w1) :
    if Region.wanted o (yielded ops a.tmps) = true then Oper.wp P o a (W.alloc (.cells #[.int .i64 p] e)) Kc Q else Kc (a.put o.dst undef) (W.alloc (.cells #[.int .i64 p] e)) := by
  obtain ⟨i0, hi, hzz⟩ := Option.map_eq_some_iff.1 hinfo
  simp only [Prod.mk.injEq] at hzz
  obtain ⟨hz0, hz1, hz2⟩ := hzz
  have hlen : xs.length + 1 ≤ 140737488355328 := Nat.le_trans (Nat.le_mul_of_pos_right _ hb0) hl
  obtain ⟨hok, inner, hown, hr⟩ := HO
  rw [if_pos hw]
  obtain ⟨v1, w1, hrun, hown1, hg, hat⟩ := impl_Graph_walks_at_WalksFrom_2_at_WalksFrom_3.run_one (P := P) (W.alloc (.cells #[.int .i64 p] e)) base t o.type e i0 z bytes ht hi hz0 hz1 hz2 hz v xs.length _ (hown.alloc _) ⟨W.heap.size, 0, none⟩ 1 [.int .i64 p] rfl
    (by simpa using World.news_of_block (cs := #[Value.int .i64 p]) (t := e) (fr := (0, 0)) (heap_alloc_new W (.cells #[.int .i64 p] e))) (by simp [Value.oneCell']) (by simp only [maxLen]; omega) hl (by simp; omega)
  unfold Oper.wp execOp
  simp only [ho, resolve, invoke, builtin, Sem.run_bind, Sem.run_pure, Result.andThen_ok, List.map_toArray, List.map_cons, List.map_nil, hs, hx, hrun]
  refine h v1 w1 ?_ ((HB.alloc hbase _).grown hg (by simp; omega) (own_base hown)) (World.grownBy.trans (World.grownBy_alloc W _ _) hg) ?_
  · refine Kd.R_appended (W := W) (okp := fun _ => False) (cs := [.int .i64 p]) (fun _ _ => trivial) (hr.imp_ (fun _ _ hp => (Kd.int .i64).M_mono (fun k hk => ⟨trivial, hk.2⟩) hp)) rfl (fun _ hk => hk.elim) (fun _ _ => trivial) hown1 (World.grownBy.trans (World.grownBy_alloc W _ _) hg) ?_
    rcases hat with ⟨A, c, rfl, rfl⟩ | ⟨_, b, hb, hle⟩
    · exact .inl (by cases A <;> rfl)
    · exact .inr ⟨b, hb, by simp at hle; omega⟩
  · rcases hat with hat | ⟨hat, b, hb, hle⟩
    · exact .inl hat
    · exact .inr ⟨⟨hok, _, hat, hr⟩, b, hb, by simp at hle; omega⟩
end
def impl_Graph_walks_at_WalksFrom_2_at_WalksFrom_3.lp (n : Int) (l : List (List Int)) (n' : Int) (l' : List (List Int)) (v : Int) (F : List Int → List (List Int) → Option (List (List Int))) (ws : List Int) (m : Int) : Nat → Int → List (List Int) → Option (List (List Int))
  | 0, _, _ => none
  | q + 1, e, xs => if e < m then ((if (ws.length : Int) = 0 then impl_WalksFrom_2.f e n' l' v else impl_Graph_follows.f n l (rd ws (wrap64 ((ws.length : Int) - 1))) e).bind fun b =>
      if b = true then (if ws.length + 1 < 17592186044416 then (F (ws ++ [e]) xs).bind fun ys => impl_Graph_walks_at_WalksFrom_2_at_WalksFrom_3.lp n l n' l' v F ws m q (wrap64 (e + 1)) ys else none) else impl_Graph_walks_at_WalksFrom_2_at_WalksFrom_3.lp n l n' l' v F ws m q (wrap64 (e + 1)) xs) else some xs
def impl_Graph_walks_at_WalksFrom_2_at_WalksFrom_3.go (n : Int) (l : List (List Int)) (n' : Int) (l' : List (List Int)) (v : Int) : Nat → List Int → List (List Int) → Option (List (List Int))
  | 0, ws, xs => (slices_Clone_int64_int64.f ws).bind fun t => if xs.length + 1 < 5864062014805 then some (xs ++ [t]) else none
  | d + 1, ws, xs => (impl_Graph_size.f n l).bind fun s => impl_Graph_walks_at_WalksFrom_2_at_WalksFrom_3.lp n l n' l' v (impl_Graph_walks_at_WalksFrom_2_at_WalksFrom_3.go n l n' l' v d) ws (wrap64 (2 * s)) ((wrap64 (2 * s)).toNat + 1) 0 xs
def impl_Graph_walks_at_WalksFrom_2_at_WalksFrom_3.f (a0_0 : Int) (l0_1 : List (List Int)) (a1 : Int) (a2_0 : Int) (l2_1 : List (List Int)) (a2_2 : Int) : Option (List (List Int)) := if 0 ≤ a1 ∧ a1 ≤ 1000 then impl_Graph_walks_at_WalksFrom_2_at_WalksFrom_3.go a0_0 l0_1 a2_0 l2_1 a2_2 a1.toNat [] [] else none
set_option maxHeartbeats 8000000 in
set_option maxRecDepth 100000 in
theorem impl_Graph_walks_at_WalksFrom_2_at_WalksFrom_3.base (n v n' : Int) (l l' : List (List Int)) (w0 : World) (K bk bi bo bg bb bx : Nat) (hlo : w0.heap.size ≤ bo)
    (ws : List Int) (xs r : List (List Int)) (walk vout : Value) (P okw : Nat → Prop) (w : World) (hd : ws.length = K) (h : impl_Graph_walks_at_WalksFrom_2_at_WalksFrom_3.go n l n' l' v 0 ws xs = some r) (hB : Below w0.heap.size w0 w)
    (hk : w.heap[bk]? = some (.cells #[.int .i64 K] 2 (0, 0))) (hi : w.heap[bi]? = some (.cells #[.func (.func 72) #[] #[]] 65 (0, 0)))
    (ho : w.heap[bo]? = some (.cells #[vout] 22 (0, 0))) (hS : Kd.S (Kd.slice 2 (Kd.int .i64)) 26 w w0.heap.size P vout xs) (hW : Kd.R (Kd.int .i64) 2 w w0.heap.size okw walk ws)
    (hWo : ∀ k, walk.ownBlock = some k → ¬ P k) :
    Calls Try.prog 105 #[walk, .pointer (some ⟨bk, 0, none⟩), .pointer (some ⟨bi, 0, none⟩), .pointer (some ⟨bo, 0, none⟩), .pointer (some ⟨bg, 0, none⟩), .pointer (some ⟨bb, 0, none⟩), .pointer (some ⟨bx, 0, none⟩)] w fun e w' =>
      e = .returned (.tuple #[]) ∧ ∃ vout', w'.heap[bo]? = some (.cells #[vout'] 22 (0, 0)) ∧ Kd.S (Kd.slice 2 (Kd.int .i64)) 26 w' w0.heap.size (fun k => P k ∨ w.heap.size ≤ k) vout' r ∧ Kd.R (Kd.int .i64) 2 w' w0.heap.size okw walk ws ∧ Below w0.heap.size w0 w' ∧
        Kept w w' (fun k => k = bo ∨ P k ∨ walk.ownBlock = some k) := by
  subst hd
  obtain ⟨A1, c1, rfl⟩ := Kd.R_slice hW
  obtain ⟨A2, c2, rfl⟩ := Kd.S_slice hS
  obtain ⟨t, A0, H⟩ := bnd_ h
  obtain ⟨hlen, H⟩ := itn_ H
  obtain rfl := Option.some.inj H
  clear H h
  have c4b0 : ((ws.length : Int) == (ws.length : Int)) = true := beq_iff_eq.mpr rfl
  have hck : w.cell? ⟨bk, 0, none⟩ = some (.int .i64 ws.length) := (blk_cell hk 0).trans rfl
  have hci : w.cell? ⟨bi, 0, none⟩ = some (.func (.func 72) #[] #[]) := (blk_cell hi 0).trans rfl
  have hfk := blk_frozen hk 0
  have hfi := blk_frozen hi 0
  obtain ⟨hrl, hrc, hrC⟩ := Kd.R_reads' hW
  go_enter Try.func105, Try.ntmps105
  go_wp2_with (first | ((with_reducible refine gate_fn (t := 15) rfl ?_); refine goesF_ (some 17) rfl rfl Try.func72 (by kernel_rfl) rfl (lb := #[]) #[.slice A1 ws.length c1] rfl (by first | rfl | (simp; done)) (by (try simp only [List.map_toArray, List.map_cons, List.map_nil, List.append_toArray, List.cons_append, List.nil_append]); first | done | rfl) ?_; (with_reducible refine (impl_WalksFrom_3.calls A1 c1 ws true _ ?side1 ?side2 rfl).mono ?_); (case side1 => exact Kd.C_below hrC bgo_); (case side2 => exact hrc); rintro e w' ⟨rfl, ⟨nd, rfl⟩⟩; refine ⟨_, rfl, ?_⟩))
  have ho1 : (w.drewN nd).drew.heap[bo]? = some (.cells #[.slice A2 xs.length c2] 22 (0, 0)) := ho
  have hS1 := Kd.S_drew (Kd.S_drewN hS nd)
  have hW1 := Kd.R_drew (Kd.R_drewN (Kd.R_tight rfl hW) nd)
  have hB1 : Below w0.heap.size w0 (w.drewN nd).drew := below_drew1 (pw_below_drewN hB nd)
  have hK1 : Kept w (w.drewN nd).drew (fun k => k = bo ∨ P k ∨ (Value.slice A1 ws.length c1).ownBlock = some k) := (Kept.refl w _)
  have hz1 : (w.drewN nd).drew.heap.size = w.heap.size := rfl
  have hH0 : (w.drewN nd).drew.cell? ⟨bo, 0, none⟩ = some (.slice A2 xs.length c2) := (blk_cell ho1 0).trans rfl
  refine start_ (n := 6) (S := fun w' => w'.cell? ⟨bo, 0, none⟩ = some (.slice A2 xs.length c2)) (ds := [5]) #[false, false, false, false, false, false] (by kernel_rfl) rfl rfl hH0 (fun hHeld => ?_)
  clear hH0
  generalize (w.drewN nd).drew = w1 at ho1 hS1 hW1 hB1 hK1 hz1 hHeld ⊢
  refine pure_ (i := 1) (N := some 19) (v := ?_) (a' := ?_) #[false, true, false, false, false, false] rfl rfl (by kernel_rfl) (fun _ _ _ h => h) (Or.inl ⟨by rfl, ?_⟩) ?_ ?_
  rotate_left
  · intro w'
    go_simp
    with_reducible rfl
  rotate_left
  · simp only [Act.put, List.setIfInBounds_toArray, List.set_cons_zero, List.set_cons_succ, i64_w, i32_w]
    rfl
  refine take_ (i := 0) (N := some 18) (v := ?_) (a' := ?_) #[true, true, false, false, false, false] rfl rfl (by kernel_rfl) (fun _ _ _ h => h) (Or.inl ⟨by rfl, ?_⟩) hHeld ?_ ?_
  rotate_left
  · intro w' s0
    go_simp
    with_reducible rfl
  rotate_left
  · simp only [Act.put, List.setIfInBounds_toArray, List.set_cons_zero, List.set_cons_succ, i64_w, i32_w]
    rfl
  refine one_ (i := 2) (N := some 20) #[true, true, true, false, false, false] rfl rfl (by kernel_rfl) (by decide) (fun K hK => ?_)
  refine goes_ Try.func106 (by kernel_rfl) rfl #[.slice A1 ws.length c1] (by rfl) rfl rfl arg_ ?_
  with_reducible refine (slices_Clone_int64_int64.calls A1 c1 ws t _ ?side1 ?side2 A0.out).mono ?_
  (case side1 => exact (Kd.R_reads' hW1).2.2)
  (case side2 => exact hrc)
  rintro e w2 ⟨v2, rfl, hC2, hb2⟩
  refine ⟨_, rfl, ?_⟩
  have ho2 := blk_below ho1 hb2
  have hS2 := Kd.S_old hS1 hb2
  have hW2 := Kd.R_below hW1 hb2
  have hB2 : Below w0.heap.size w0 w2 := below_step hB1 hb2
  have hK2 := hK1.below hb2
  have hbs2 : ∀ k, v2.ownBlock = some k → w.heap.size ≤ k := fun k hk => by have := Kd.R_base hC2 k hk; omega
  obtain ⟨A3, c3, rfl⟩ := Kd.R_slice hC2
  refine hK.out _ _ ((blk_cell ho2 0).trans rfl) (fun hHeld => ?_)
  clear hK K
  refine norm_ (a' := ?_) ?_ ?_
  rotate_left
  · show Act.put _ (some 20) _ = _
    simp only [Act.put, List.setIfInBounds_toArray, List.set_cons_zero, List.set_cons_succ, i64_w, i32_w]
    rfl
  refine one_ (i := 3) (N := some 21) #[true, true, true, true, false, false] rfl rfl (by kernel_rfl) (by decide) (fun K hK => ?_)
  refine event_step (v := .slice (some ⟨w2.heap.size, 0, none⟩) 1 1) (w1 := w2.alloc (.cells #[.slice A3 t.length c3] 26 (0, 0))) (by rfl) ?hr ?_
  (case hr => first | (go_simp; done) | (go_simp; rfl))
  refine hK.out _ _ ((blk_cell (blk_alloc ho2 _) 0).trans rfl) (fun hHeld => ?_)
  clear hK K
  refine norm_ (a' := ?_) ?_ ?_
  rotate_left
  · show Act.put _ (some 21) _ = _
    simp only [Act.put, List.setIfInBounds_toArray, List.set_cons_zero, List.set_cons_succ, i64_w, i32_w]
    rfl
  refine one_ (i := 4) (N := some 22) #[true, true, true, true, true, false] rfl rfl (by kernel_rfl) (by decide) (fun K hK => ?_)
  refine Kd.S_append_step (Kd.slice 2 (Kd.int .i64)) (w0 := w0) w0.heap.size (by rfl) (.tmp 18) (.tmp 21) 22 26 (.slice none 0 0) 24 rfl Try.underlying22 info26 rfl (by decide) (by omega) (.slice A2 xs.length c2) xs t [.slice A3 t.length c3] (fun k => P k ∨ w.heap.size ≤ k) (fun k => some k = (.slice A3 t.length c3 : Value).ownBlock) rfl rfl ?aP ?aK ?aF ?aO hB2 ?aS ?aL ?_
  (case aP => exact Kd.M_row (Kd.R_lower (Kd.R_tight rfl hC2) (by rw [hz1]; exact hB.size)))
  (case aK => exact fun k hk => ⟨.inr (hbs2 k hk.symm), fun e => by have h1 := hbs2 k hk.symm; have h2 := Kd.S_lt hS k e.symm; omega⟩)
  (case aF => exact fun k hk => .inr (by have := hb2.size; omega))
  (case aO => exact Kd.S_mono hS2 (fun k hk => ⟨.inl hk.1, fun e => by have h1 := hbs2 k e.symm; have h2 := hk.2; omega⟩))
  (case aS => exact hB2.size)
  (case aL => omega)
  intro v3 w3 hS3 hB3 hg3 hat3
  obtain ⟨A4, c4, e4⟩ := Kd.S_slice hS3
  rw [List.length_append, List.length_singleton] at e4
  subst e4
  have ho3 := blk_grown ho2 hg3 (Kd.S_ne hS2 ho2 (by decide))
  have hW3 := Kd.R_grown hW2 hg3 (fun k hk e => hWo k hk.symm ((Kd.S_R hS).1 k e.symm))
  have hK3 := Kept.of_grown hg3 hK2 (fun k hk => .inl (.inr (.inl ((Kd.S_R hS).1 k hk))))
  refine hK.out _ _ ((blk_cell ho3 0).trans rfl) (fun hHeld => ?_)
  clear hK K
  refine norm_ (a' := ?_) ?_ ?_
  rotate_left
  · show Act.put _ (some 22) _ = _
    simp only [Act.put, List.setIfInBounds_toArray, List.set_cons_zero, List.set_cons_succ, i64_w, i32_w]
    rfl
  refine last_ (i := 5) (N := none) #[true, true, true, true, true, true] rfl rfl (by kernel_rfl) (by decide) (fun K hK => ?_)
  have hs3 : w3.cell? ⟨bo, 0, none⟩ = some (.slice A2 xs.length c2) := (blk_cell ho3 0).trans rfl
  have hf3 := blk_frozen ho3 0
  refine skip_ (w1 := ?_) (by rfl) rfl ?_ ?_
  rotate_left
  · go_simp
    rfl
  refine hK.out _ _ ?_
  clear hK K
  refine done_ (by kernel_rfl) ?_
  go_wp2
  (try simp only [Exit.inBlock, Exit.then])
  refine bodyPost_ret (results_none rfl _ _ _) rfl ?_
  refine ⟨rfl, _, blk_put (cs := #[.slice A2 xs.length c2]) ho3 0 _ rfl, Kd.S_set hS3 ho3 (by decide) 0 _, Kd.R_mono (Kd.R_set hW3 ho3 (by decide) 0 _) (fun k hk => hW.1 k hk.symm), below_set hB3 hlo, hK3.setCell (.inl (.inl rfl)) _⟩
/-- The variables that the literal reads. -/
def impl_Graph_walks_at_WalksFrom_2_at_WalksFrom_3.Env (n : Int) (A : Option Addr) (c : Nat) (l : List (List Int)) (K bk bi bo bg bb bx cg cv : Nat) (w : World) : Prop :=
  w.heap[bk]? = some (.cells #[.int .i64 K] 2 (0, 0)) ∧ w.heap[bi]? = some (.cells #[.func (.func 72) #[] #[]] 65 (0, 0)) ∧ w.heap[bg]? = some (.cells #[.int .i64 n, .slice A l.length c] 29 (0, 0)) ∧
    w.heap[bb]? = some (.cells #[.func (.func 70) #[] #[.pointer (some ⟨cg, 0, none⟩), .pointer (some ⟨cv, 0, none⟩)]] 77 (0, 0)) ∧
    w.heap[bx]? = some (.cells #[.func (.func 105) #[] #[.pointer (some ⟨bk, 0, none⟩), .pointer (some ⟨bi, 0, none⟩), .pointer (some ⟨bo, 0, none⟩), .pointer (some ⟨bg, 0, none⟩), .pointer (some ⟨bb, 0, none⟩), .pointer (some ⟨bx, 0, none⟩)]] 87 (0, 0))
def impl_Graph_walks_at_WalksFrom_2_at_WalksFrom_3.X (bk bi bg bb bx bo k : Nat) : Prop := k = bk ∨ k = bi ∨ k = bg ∨ k = bb ∨ k = bx ∨ k = bo
section
variable {n : Int} {A : Option Addr} {c : Nat} {l : List (List Int)} {K bk bi bo bg bb bx cg cv : Nat} {w w2 : World} {S : Nat → Prop}
theorem impl_Graph_walks_at_WalksFrom_2_at_WalksFrom_3.Env.kept (h : impl_Graph_walks_at_WalksFrom_2_at_WalksFrom_3.Env n A c l K bk bi bo bg bb bx cg cv w) (hk : Kept w w2 S) (hs : ∀ k, k ≠ bo → impl_Graph_walks_at_WalksFrom_2_at_WalksFrom_3.X bk bi bg bb bx bo k → ¬ S k) (ho : ∃ v, w.heap[bo]? = some (.cells #[v] 22 (0, 0))) : impl_Graph_walks_at_WalksFrom_2_at_WalksFrom_3.Env n A c l K bk bi bo bg bb bx cg cv w2 := by
  obtain ⟨h1, h2, h3, h4, h5⟩ := h
  obtain ⟨v, ho⟩ := ho
  exact ⟨blk_kept h1 hk (hs _ (blk_ne h1 ho (by decide)) (.inl rfl)), blk_kept h2 hk (hs _ (blk_ne h2 ho (by decide)) (.inr (.inl rfl))), blk_kept h3 hk (hs _ (blk_ne h3 ho (by decide)) (.inr (.inr (.inl rfl)))),
    blk_kept h4 hk (hs _ (blk_ne h4 ho (by decide)) (.inr (.inr (.inr (.inl rfl))))), blk_kept h5 hk (hs _ (blk_ne h5 ho (by decide)) (.inr (.inr (.inr (.inr (.inl rfl))))))⟩
theorem impl_Graph_walks_at_WalksFrom_2_at_WalksFrom_3.Env.lt (h : impl_Graph_walks_at_WalksFrom_2_at_WalksFrom_3.Env n A c l K bk bi bo bg bb bx cg cv w) (ho : ∃ v, w.heap[bo]? = some (.cells #[v] 22 (0, 0))) : ∀ k, impl_Graph_walks_at_WalksFrom_2_at_WalksFrom_3.X bk bi bg bb bx bo k → k < w.heap.size := by
  obtain ⟨h1, h2, h3, h4, h5⟩ := h
  obtain ⟨v, ho⟩ := ho
  rintro k (rfl | rfl | rfl | rfl | rfl | rfl)
  · exact blk_lt h1
  · exact blk_lt h2
  · exact blk_lt h3
  · exact blk_lt h4
  · exact blk_lt h5
  · exact blk_lt ho
end
/-- What holds in a round: the row that is made, the walk, what is kept since the call's begin (w). -/
def impl_Graph_walks_at_WalksFrom_2_at_WalksFrom_3.Fx (w0 w : World) (bo : Nat) (P : Nat → Prop) (A1 : Option Addr) (c1 : Nat) (ws : List Int) (Ay : Option Addr) (cy : Nat) (ys : List (List Int)) (w1 : World) : Prop :=
  w1.heap[bo]? = some (.cells #[.slice Ay ys.length cy] 22 (0, 0)) ∧ Kd.S (Kd.slice 2 (Kd.int .i64)) 26 w1 w0.heap.size (fun k => P k ∨ w.heap.size ≤ k) (.slice Ay ys.length cy) ys ∧
    Kd.R (Kd.int .i64) 2 w1 w0.heap.size (fun k => some k = (Value.slice A1 ws.length c1).ownBlock) (.slice A1 ws.length c1) ws ∧ Below w0.heap.size w0 w1 ∧ Kept w w1 (fun k => k = bo ∨ P k ∨ (Value.slice A1 ws.length c1).ownBlock = some k)
theorem impl_Graph_walks_at_WalksFrom_2_at_WalksFrom_3.Fx.below {w0 w w1 w2 : World} {bo : Nat} {P : Nat → Prop} {A1 : Option Addr} {c1 : Nat} {ws : List Int} {Ay : Option Addr} {cy : Nat} {ys : List (List Int)} (h : impl_Graph_walks_at_WalksFrom_2_at_WalksFrom_3.Fx w0 w bo P A1 c1 ws Ay cy ys w1) (hb : Below w1.heap.size w1 w2) :
    impl_Graph_walks_at_WalksFrom_2_at_WalksFrom_3.Fx w0 w bo P A1 c1 ws Ay cy ys w2 := ⟨blk_below h.1 hb, Kd.S_below h.2.1 hb, Kd.R_below h.2.2.1 hb, below_step h.2.2.2.1 hb, h.2.2.2.2.below hb⟩
theorem impl_Graph_walks_at_WalksFrom_2_at_WalksFrom_3.Fx.drew {w0 w w1 : World} {bo : Nat} {P : Nat → Prop} {A1 : Option Addr} {c1 : Nat} {ws : List Int} {Ay : Option Addr} {cy : Nat} {ys : List (List Int)} (h : impl_Graph_walks_at_WalksFrom_2_at_WalksFrom_3.Fx w0 w bo P A1 c1 ws Ay cy ys w1) :
    impl_Graph_walks_at_WalksFrom_2_at_WalksFrom_3.Fx w0 w bo P A1 c1 ws Ay cy ys w1.drew := ⟨h.1, Kd.S_drew h.2.1, Kd.R_drew h.2.2.1, below_drew1 h.2.2.2.1, h.2.2.2.2⟩
def impl_Graph_walks_at_WalksFrom_2_at_WalksFrom_3.OK (n v n' : Int) (A : Option Addr) (c : Nat) (l l' : List (List Int)) (w0 : World) (K bk bi bo bg bb bx cg cv d : Nat) : Prop :=
  ∀ (ws : List Int) (xs r : List (List Int)) (walk vout : Value) (P okw : Nat → Prop) (w : World), ws.length + d = K → impl_Graph_walks_at_WalksFrom_2_at_WalksFrom_3.go n l n' l' v d ws xs = some r → Below w0.heap.size w0 w → impl_Graph_walks_at_WalksFrom_2_at_WalksFrom_3.Env n A c l K bk bi bo bg bb bx cg cv w →
    w.heap[bo]? = some (.cells #[vout] 22 (0, 0)) → Kd.S (Kd.slice 2 (Kd.int .i64)) 26 w w0.heap.size P vout xs → Kd.R (Kd.int .i64) 2 w w0.heap.size okw walk ws →
    (∀ k, P k → ¬ impl_Graph_walks_at_WalksFrom_2_at_WalksFrom_3.X bk bi bg bb bx bo k) → (∀ k, walk.ownBlock = some k → ¬ P k ∧ ¬ impl_Graph_walks_at_WalksFrom_2_at_WalksFrom_3.X bk bi bg bb bx bo k) →
    Calls Try.prog 105 #[walk, .pointer (some ⟨bk, 0, none⟩), .pointer (some ⟨bi, 0, none⟩), .pointer (some ⟨bo, 0, none⟩), .pointer (some ⟨bg, 0, none⟩), .pointer (some ⟨bb, 0, none⟩), .pointer (some ⟨bx, 0, none⟩)] w fun e w' =>
      e = .returned (.tuple #[]) ∧ ∃ vout', w'.heap[bo]? = some (.cells #[vout'] 22 (0, 0)) ∧ Kd.S (Kd.slice 2 (Kd.int .i64)) 26 w' w0.heap.size (fun k => P k ∨ w.heap.size ≤ k) vout' r ∧ Kd.R (Kd.int .i64) 2 w' w0.heap.size okw walk ws ∧ Below w0.heap.size w0 w' ∧
        Kept w w' (fun k => k = bo ∨ P k ∨ walk.ownBlock = some k)
theorem impl_Graph_walks_at_WalksFrom_2_at_WalksFrom_3.ok0 (n v n' : Int) (A : Option Addr) (c : Nat) (l l' : List (List Int)) (w0 : World) (K bk bi bo bg bb bx cg cv : Nat) (hlo : w0.heap.size ≤ bo) : impl_Graph_walks_at_WalksFrom_2_at_WalksFrom_3.OK n v n' A c l l' w0 K bk bi bo bg bb bx cg cv 0 :=
  fun ws xs r walk vout P okw w hd h hB hE ho hS hW hP hWo => impl_Graph_walks_at_WalksFrom_2_at_WalksFrom_3.base n v n' l l' w0 K bk bi bo bg bb bx hlo ws xs r walk vout P okw w hd h hB hE.1 hE.2.1 ho hS hW (fun k hk => (hWo k hk).1)
def impl_Graph_walks_at_WalksFrom_2_at_WalksFrom_3.T7 : Bool × List (List Nat × List Nat) := (true, [([], []), ([0], [0]), ([1], [1]), ([2], [2]), ([2], [2]), ([3, 4, 2, 2], [2, 3, 4]), ([2, 5], [2, 5]), ([6, 5], [6]), ([7], [7]), ([8, 7], [7, 8]), ([9, 7, 7], [7, 9]), ([10], [10]), ([10], [10]), ([10], [10]), ([13, 10], [10, 13]), ([12, 14, 10], [10, 12, 14]), ([15, 10], [10, 15]), ([10], [10]), ([11, 16, 17, 10, 10], [10, 11, 16, 17]), ([10, 18, 7], [7, 10, 18]), ([7, 19], [7, 19])])
def impl_Graph_walks_at_WalksFrom_2_at_WalksFrom_3.B7 : List Nat := [0, 1, 3, 7, 7, 31, 63, 127, 255, 511, 1023, 2047, 2047, 2047, 10239, 30719, 63487, 2047, 262143, 524287, 1048575]
theorem impl_Graph_walks_at_WalksFrom_2_at_WalksFrom_3.tab7 : rtab .any (opsOf Try.f105 7) = impl_Graph_walks_at_WalksFrom_2_at_WalksFrom_3.T7 := by kernel_rfl
theorem impl_Graph_walks_at_WalksFrom_2_at_WalksFrom_3.bits7 : waitsOk impl_Graph_walks_at_WalksFrom_2_at_WalksFrom_3.T7.2 impl_Graph_walks_at_WalksFrom_2_at_WalksFrom_3.B7 = true := by kernel_rfl
set_option maxHeartbeats 8000000 in
set_option maxRecDepth 100000 in
theorem impl_Graph_walks_at_WalksFrom_2_at_WalksFrom_3.step (n v n' : Int) (A A' : Option Addr) (c c' : Nat) (l l' : List (List Int)) (w0 : World) (hr : Kd.C (Kd.slice 2 (Kd.int .i64)) w0 A l.length l) (hc : l.length ≤ c) (hr' : Kd.C (Kd.slice 2 (Kd.int .i64)) w0 A' l'.length l') (hc' : l'.length ≤ c') (K bk bi bo bg bb bx cg cv : Nat) (hlo : w0.heap.size ≤ bo)
    (hcg : w0.heap[cg]? = some (.cells #[.int .i64 n', .slice A' l'.length c'] 29 (0, 0))) (hcv : w0.heap[cv]? = some (.cells #[.int .i64 v] 2 (0, 0))) (d : Nat) (IH : impl_Graph_walks_at_WalksFrom_2_at_WalksFrom_3.OK n v n' A c l l' w0 K bk bi bo bg bb bx cg cv d) : impl_Graph_walks_at_WalksFrom_2_at_WalksFrom_3.OK n v n' A c l l' w0 K bk bi bo bg bb bx cg cv (d + 1) := by
  intro ws xs r walk vout P okw w hd h hB hE ho hS hW hP hWo
  have hXl := hE.lt ⟨_, ho⟩
  obtain ⟨A1, c1, rfl⟩ := Kd.R_slice hW
  obtain ⟨A2, c2, rfl⟩ := Kd.S_slice hS
  have h : ((impl_Graph_size.f n l).bind fun s => impl_Graph_walks_at_WalksFrom_2_at_WalksFrom_3.lp n l n' l' v (impl_Graph_walks_at_WalksFrom_2_at_WalksFrom_3.go n l n' l' v d) ws (wrap64 (2 * s)) ((wrap64 (2 * s)).toNat + 1) 0 xs) = some r := h
  obtain ⟨s, As, H⟩ := bnd_ h
  clear h
  have hSx : ∀ k, k ≠ bo → impl_Graph_walks_at_WalksFrom_2_at_WalksFrom_3.X bk bi bg bb bx bo k → ¬ (k = bo ∨ P k ∨ (Value.slice A1 ws.length c1).ownBlock = some k) := by
    rintro k hk hX (h | h | h)
    · exact hk h
    · exact hP k h hX
    · exact (hWo k h).2 hX
  have c4b0 : ((ws.length : Int) == (K : Int)) = false := beq_eq_false_iff_ne.mpr (by omega)
  have hE0 := hE
  obtain ⟨hk, hi, hg, hbb, hx⟩ := hE
  have hck : w.cell? ⟨bk, 0, none⟩ = some (.int .i64 K) := (blk_cell hk 0).trans rfl
  have hcg0 : w.cell? ⟨bg, 0, none⟩ = some (.int .i64 n) := (blk_cell hg 0).trans rfl
  have hcg1 : w.cell? ⟨bg, 1, none⟩ = some (.slice A l.length c) := (blk_cell hg 1).trans rfl
  have hF0 : impl_Graph_walks_at_WalksFrom_2_at_WalksFrom_3.Fx w0 w bo P A1 c1 ws A2 c2 xs w := ⟨ho, Kd.S_mono hS (fun _ hk => .inl hk), Kd.R_tight rfl hW, hB, Kept.refl _ _⟩
  go_enter Try.func105, Try.ntmps105
  go_wp2_with (first | ((with_reducible refine gate_callee (f := 104) rfl ?_); refine goesL_ (some 24) rfl rfl Try.func104 (by kernel_rfl) rfl #[.agg #[.int .i64 n, .slice A l.length c]] rfl (by (try simp only [List.map_toArray, List.map_cons, List.map_nil]); first | done | rfl) ?_; (with_reducible refine (impl_Graph_size.calls n _ _ l s _ ?side1 ?side2 As.out).mono ?_); (case side1 => exact Kd.C_below hr hB); (case side2 => exact hc); rintro e w1 ⟨rfl, hb1⟩; refine ⟨_, rfl, ?_⟩; have hF1 := hF0.below hb1; clear hb1))
  clear hck hcg0 hcg1 c4b0
  go_loopg [26] ((wrap64 (2 * s)).toNat + 1) (fun kq v26 w' => ∃ (e : Int) (ys : List (List Int)) (Ay : Option Addr) (cy : Nat), v26 = .int .i64 e ∧ Aside0 (impl_Graph_walks_at_WalksFrom_2_at_WalksFrom_3.lp n l n' l' v (impl_Graph_walks_at_WalksFrom_2_at_WalksFrom_3.go n l n' l' v d) ws (wrap64 (2 * s)) kq e ys = some r) ∧ Aside0 (impl_Graph_walks_at_WalksFrom_2_at_WalksFrom_3.Fx w0 w bo P A1 c1 ws Ay cy ys w'))
  case atStart => exact ⟨0, xs, A2, c2, (by first | rfl | (simp; done)), ⟨H⟩, ⟨hF1⟩⟩
  case round =>
    obtain ⟨e, ys, Ay, cy, rfl, HA, HF⟩ := hrel
    cases gk with
    | zero => exact absurd HA.out (by simp [impl_Graph_walks_at_WalksFrom_2_at_WalksFrom_3.lp])
    | succ q =>
      have H2 := HA.out
      clear HA
      simp only [impl_Graph_walks_at_WalksFrom_2_at_WalksFrom_3.lp] at H2
      by_cases c5 : e < wrap64 (2 * s)
      · rw [if_pos c5] at H2
        have c5b0 : decide (e < wrap64 (2 * s)) = true := decide_eq_true c5
        clear c5
        by_cases c6 : (ws.length : Int) = 0
        · rw [if_pos c6] at H2
          have c6b0 : ((ws.length : Int) == 0) = true := beq_iff_eq.mpr c6
          clear c6
          obtain ⟨b, Ab, H3⟩ := bnd_ H2
          go_wp2
          have hF2 := HF.out.drew
          have hE2 := hE0.kept hF2.2.2.2.2 hSx ⟨_, ho⟩
          have hH0 : wr.drew.cell? ⟨bb, 0, none⟩ = some (.func (.func 70) #[] #[.pointer (some ⟨cg, 0, none⟩), .pointer (some ⟨cv, 0, none⟩)]) := (blk_cell hE2.2.2.2.1 0).trans rfl
          refine start_ (n := 21) (S := fun w' => w'.cell? ⟨bb, 0, none⟩ = some (.func (.func 70) #[] #[.pointer (some ⟨cg, 0, none⟩), .pointer (some ⟨cv, 0, none⟩)])) (ds := []) #[false, false, false, false, false, false, false, false, false, false, false, false, false, false, false, false, false, false, false, false, false] (by kernel_rfl) rfl rfl hH0 (fun hHeld => ?_); refine with_tabW impl_Graph_walks_at_WalksFrom_2_at_WalksFrom_3.tab7 impl_Graph_walks_at_WalksFrom_2_at_WalksFrom_3.bits7 (fun HT_ HW_ => ?_)
          clear hH0
          generalize wr.drew = w2 at hF2 hE2 hHeld ⊢
          refine pure_ (i := 0) (N := some 29) (v := ?_) (a' := ?_) #[true, false, false, false, false, false, false, false, false, false, false, false, false, false, false, false, false, false, false, false, false] rfl rfl (any_of HT_.out (by kernel_rfl)) (fun _ _ _ h => h) (Or.inl ⟨by rfl, ?_⟩) ?_ ?_
          rotate_left
          · intro w'
            go_simp
            with_reducible rfl
          rotate_left
          · simp only [Act.put, List.setIfInBounds_toArray, List.set_cons_zero, List.set_cons_succ, i64_w, i32_w]
            rfl
          refine pure_ (i := 1) (N := some 30) (v := ?_) (a' := ?_) #[true, true, false, false, false, false, false, false, false, false, false, false, false, false, false, false, false, false, false, false, false] rfl rfl (any_of HT_.out (by kernel_rfl)) (fun _ _ _ h => h) (Or.inl ⟨by rfl, ?_⟩) ?_ ?_
          rotate_left
          · intro w'
            go_simp
            with_reducible rfl
          rotate_left
          · simp only [Act.put, List.setIfInBounds_toArray, List.set_cons_zero, List.set_cons_succ, i64_w, i32_w]
            rfl
          refine pure_ (i := 2) (N := some 31) (v := ?_) (a' := ?_) #[true, true, true, false, false, false, false, false, false, false, false, false, false, false, false, false, false, false, false, false, false] rfl rfl (any_of HT_.out (by kernel_rfl)) (fun _ _ _ h => h) (Or.inl ⟨by rfl, ?_⟩) ?_ ?_
          rotate_left
          · intro w'
            go_simp
            with_reducible rfl
          rotate_left
          · simp only [Act.put, List.setIfInBounds_toArray, List.set_cons_zero, List.set_cons_succ, i64_w, i32_w]
            rfl
          refine pure_ (i := 4) (N := some 33) (v := ?_) (a' := ?_) #[true, true, true, false, true, false, false, false, false, false, false, false, false, false, false, false, false, false, false, false, false] rfl rfl (any_of HT_.out (by kernel_rfl)) (fun _ _ _ h => h) (Or.inl ⟨by rfl, ?_⟩) ?_ ?_
          rotate_left
          · intro w'
            go_simp
            with_reducible rfl
          rotate_left
          · simp only [Act.put, List.setIfInBounds_toArray, List.set_cons_zero, List.set_cons_succ, i64_w, i32_w]
            rfl
          refine take_ (i := 3) (N := some 32) (v := ?_) (a' := ?_) #[true, true, true, true, true, false, false, false, false, false, false, false, false, false, false, false, false, false, false, false, false] rfl rfl (take_ofW HT_.out HW_.out (by kernel_rfl)) (fun _ _ _ h => h) (Or.inl ⟨by rfl, ?_⟩) hHeld ?_ ?_
          rotate_left
          · intro w' s0
            go_simp
            with_reducible rfl
          rotate_left
          · simp only [Act.put, List.setIfInBounds_toArray, List.set_cons_zero, List.set_cons_succ, i64_w, i32_w]
            rfl
          refine one_ (i := 5) (N := some 34) #[true, true, true, true, true, true, false, false, false, false, false, false, false, false, false, false, false, false, false, false, false] rfl rfl (one_of HT_.out (by kernel_rfl)) (by decide) (fun K hK => ?_)
          refine goesFR_ Try.func70 (by kernel_rfl) rfl (lb := #[.pointer (some ⟨cg, 0, none⟩), .pointer (some ⟨cv, 0, none⟩)]) #[.int .i64 e, .pointer (some ⟨cg, 0, none⟩), .pointer (some ⟨cv, 0, none⟩)] (by rfl) rfl rfl (by first | rfl | (simp; done)) (by (try simp only [List.map_toArray, List.map_cons, List.map_nil, List.append_toArray, List.cons_append, List.nil_append]); first | done | rfl) ?_
          with_reducible refine (impl_WalksFrom_2.calls e cg n' A' c' l' cv v b _ ?side1 ?side2 ?side3 ?side4 Ab.out).mono ?_
          (case side1 => exact blk_below hcg hF2.2.2.2.1)
          (case side2 => exact Kd.C_below hr' hF2.2.2.2.1)
          (case side3 => exact hc')
          (case side4 => exact blk_below hcv hF2.2.2.2.1)
          rintro e' w3 ⟨rfl, hb3⟩
          refine ⟨_, rfl, ?_⟩
          have hF3 := hF2.below hb3
          have hE3 := hE0.kept hF3.2.2.2.2 hSx ⟨_, ho⟩
          refine hK.out _ _ ((blk_cell hE3.2.2.2.1 0).trans rfl) (fun hHeld => ?_)
          clear hK K
          refine norm_ (a' := ?_) ?_ ?_
          rotate_left
          · show Act.put _ (some 34) _ = _
            simp only [Act.put, List.setIfInBounds_toArray, List.set_cons_zero, List.set_cons_succ, i64_w, i32_w]
            rfl
          cases b with
          | true =>
            rw [if_pos rfl] at H3
            have H := H3
            clear H2 H3 hHeld
            refine pure_ (i := 6) (N := some 35) (v := ?_) (a' := ?_) #[true, true, true, true, true, true, true, false, false, false, false, false, false, false, false, false, false, false, false, false, false] rfl rfl (any_of HT_.out (by kernel_rfl)) (fun _ _ _ h => h) (Or.inl ⟨by rfl, ?_⟩) ?_ ?_
            rotate_left
            · intro w'
              go_simp
              with_reducible rfl
            rotate_left
            · simp only [Act.put, List.setIfInBounds_toArray, List.set_cons_zero, List.set_cons_succ, i64_w, i32_w]
              rfl
            refine pure_ (i := 7) (N := some 36) (v := ?_) (a' := ?_) #[true, true, true, true, true, true, true, true, false, false, false, false, false, false, false, false, false, false, false, false, false] rfl rfl (any_of HT_.out (by kernel_rfl)) (fun _ _ _ h => h) (Or.inl ⟨by rfl, ?_⟩) ?_ ?_
            rotate_left
            · intro w'
              go_simp
              with_reducible rfl
            rotate_left
            · simp only [Act.put, List.setIfInBounds_toArray, List.set_cons_zero, List.set_cons_succ, i64_w, i32_w]
              rfl
            refine pure_ (i := 8) (N := some 37) (v := undef) (a' := ?_) #[true, true, true, true, true, true, true, true, true, false, false, false, false, false, false, false, false, false, false, false, false] rfl rfl (any_of HT_.out (by kernel_rfl)) (fun _ _ _ h => h) (Or.inr ⟨by rfl, rfl⟩) ?_ ?_
            rotate_left
            · simp only [Act.put, List.setIfInBounds_toArray, List.set_cons_zero, List.set_cons_succ, i64_w, i32_w]
              rfl
            refine pure_ (i := 9) (N := some 38) (v := undef) (a' := ?_) #[true, true, true, true, true, true, true, true, true, true, false, false, false, false, false, false, false, false, false, false, false] rfl rfl (any_of HT_.out (by kernel_rfl)) (fun _ _ _ h => h) (Or.inr ⟨by rfl, rfl⟩) ?_ ?_
            rotate_left
            · simp only [Act.put, List.setIfInBounds_toArray, List.set_cons_zero, List.set_cons_succ, i64_w, i32_w]
              rfl
            refine pure_ (i := 10) (N := some 39) (v := undef) (a' := ?_) #[true, true, true, true, true, true, true, true, true, true, true, false, false, false, false, false, false, false, false, false, false] rfl rfl (any_of HT_.out (by kernel_rfl)) (fun _ _ _ h => h) (Or.inr ⟨by rfl, rfl⟩) ?_ ?_
            rotate_left
            · simp only [Act.put, List.setIfInBounds_toArray, List.set_cons_zero, List.set_cons_succ, i64_w, i32_w]
              rfl
            refine pure_ (i := 11) (N := some 40) (v := undef) (a' := ?_) #[true, true, true, true, true, true, true, true, true, true, true, true, false, false, false, false, false, false, false, false, false] rfl rfl (any_of HT_.out (by kernel_rfl)) (fun _ _ _ h => h) (Or.inr ⟨by rfl, rfl⟩) ?_ ?_
            rotate_left
            · simp only [Act.put, List.setIfInBounds_toArray, List.set_cons_zero, List.set_cons_succ, i64_w, i32_w]
              rfl
            refine pure_ (i := 12) (N := some 41) (v := undef) (a' := ?_) #[true, true, true, true, true, true, true, true, true, true, true, true, true, false, false, false, false, false, false, false, false] rfl rfl (any_of HT_.out (by kernel_rfl)) (fun _ _ _ h => h) (Or.inr ⟨by rfl, rfl⟩) ?_ ?_
            rotate_left
            · simp only [Act.put, List.setIfInBounds_toArray, List.set_cons_zero, List.set_cons_succ, i64_w, i32_w]
              rfl
            refine pure_ (i := 13) (N := some 42) (v := undef) (a' := ?_) #[true, true, true, true, true, true, true, true, true, true, true, true, true, true, false, false, false, false, false, false, false] rfl rfl (any_of HT_.out (by kernel_rfl)) (fun _ _ _ h => h) (Or.inr ⟨by rfl, rfl⟩) ?_ ?_
            rotate_left
            · simp only [Act.put, List.setIfInBounds_toArray, List.set_cons_zero, List.set_cons_succ, i64_w, i32_w]
              rfl
            refine pure_ (i := 14) (N := some 43) (v := undef) (a' := ?_) #[true, true, true, true, true, true, true, true, true, true, true, true, true, true, true, false, false, false, false, false, false] rfl rfl (any_of HT_.out (by kernel_rfl)) (fun _ _ _ h => h) (Or.inr ⟨by rfl, rfl⟩) ?_ ?_
            rotate_left
            · simp only [Act.put, List.setIfInBounds_toArray, List.set_cons_zero, List.set_cons_succ, i64_w, i32_w]
              rfl
            refine pure_ (i := 15) (N := some 44) (v := undef) (a' := ?_) #[true, true, true, true, true, true, true, true, true, true, true, true, true, true, true, true, false, false, false, false, false] rfl rfl (any_of HT_.out (by kernel_rfl)) (fun _ _ _ h => h) (Or.inr ⟨by rfl, rfl⟩) ?_ ?_
            rotate_left
            · simp only [Act.put, List.setIfInBounds_toArray, List.set_cons_zero, List.set_cons_succ, i64_w, i32_w]
              rfl
            refine pure_ (i := 16) (N := some 45) (v := undef) (a' := ?_) #[true, true, true, true, true, true, true, true, true, true, true, true, true, true, true, true, true, false, false, false, false] rfl rfl (any_of HT_.out (by kernel_rfl)) (fun _ _ _ h => h) (Or.inr ⟨by rfl, rfl⟩) ?_ ?_
            rotate_left
            · simp only [Act.put, List.setIfInBounds_toArray, List.set_cons_zero, List.set_cons_succ, i64_w, i32_w]
              rfl
            refine pure_ (i := 17) (N := some 46) (v := undef) (a' := ?_) #[true, true, true, true, true, true, true, true, true, true, true, true, true, true, true, true, true, true, false, false, false] rfl rfl (any_of HT_.out (by kernel_rfl)) (fun _ _ _ h => h) (Or.inr ⟨by rfl, rfl⟩) ?_ ?_
            rotate_left
            · simp only [Act.put, List.setIfInBounds_toArray, List.set_cons_zero, List.set_cons_succ, i64_w, i32_w]
              rfl
            refine pure_ (i := 18) (N := some 47) (v := undef) (a' := ?_) #[true, true, true, true, true, true, true, true, true, true, true, true, true, true, true, true, true, true, true, false, false] rfl rfl (any_of HT_.out (by kernel_rfl)) (fun _ _ _ h => h) (Or.inr ⟨by rfl, rfl⟩) ?_ ?_
            rotate_left
            · simp only [Act.put, List.setIfInBounds_toArray, List.set_cons_zero, List.set_cons_succ, i64_w, i32_w]
              rfl
            refine pure_ (i := 19) (N := some 48) (v := undef) (a' := ?_) #[true, true, true, true, true, true, true, true, true, true, true, true, true, true, true, true, true, true, true, true, false] rfl rfl (any_of HT_.out (by kernel_rfl)) (fun _ _ _ h => h) (Or.inr ⟨by rfl, rfl⟩) ?_ ?_
            rotate_left
            · simp only [Act.put, List.setIfInBounds_toArray, List.set_cons_zero, List.set_cons_succ, i64_w, i32_w]
              rfl
            refine pure_ (i := 20) (N := some 49) (v := ?_) (a' := ?_) #[true, true, true, true, true, true, true, true, true, true, true, true, true, true, true, true, true, true, true, true, true] rfl rfl (any_of HT_.out (by kernel_rfl)) (fun _ _ _ h => h) (Or.inl ⟨by rfl, ?_⟩) ?_ ?_
            rotate_left
            · intro w'
              go_simp
              with_reducible rfl
            rotate_left
            · simp only [Act.put, List.setIfInBounds_toArray, List.set_cons_zero, List.set_cons_succ, i64_w, i32_w]
              rfl
            refine done_ (done_of HT_.out (by kernel_rfl)) ?_
            go_wp2
            obtain ⟨hlen, H⟩ := itn_ H
            obtain ⟨zs, Az, H⟩ := bnd_ H
            have hF4 := hF3.drew
            have hE4 := hE0.kept hF4.2.2.2.2 hSx ⟨_, ho⟩
            have hH0 : w3.drew.cell? ⟨bx, 0, none⟩ = some (.func (.func 105) #[] #[.pointer (some ⟨bk, 0, none⟩), .pointer (some ⟨bi, 0, none⟩), .pointer (some ⟨bo, 0, none⟩), .pointer (some ⟨bg, 0, none⟩), .pointer (some ⟨bb, 0, none⟩), .pointer (some ⟨bx, 0, none⟩)]) := (blk_cell hE4.2.2.2.2 0).trans rfl
            refine start_ (n := 6) (S := fun w' => w'.cell? ⟨bx, 0, none⟩ = some (.func (.func 105) #[] #[.pointer (some ⟨bk, 0, none⟩), .pointer (some ⟨bi, 0, none⟩), .pointer (some ⟨bo, 0, none⟩), .pointer (some ⟨bg, 0, none⟩), .pointer (some ⟨bb, 0, none⟩), .pointer (some ⟨bx, 0, none⟩)])) (ds := [5]) #[false, false, false, false, false, false] (by kernel_rfl) rfl rfl hH0 (fun hHeld => ?_)
            clear hH0
            generalize w3.drew = w5 at hF4 hE4 hHeld ⊢
            refine pure_ (i := 1) (N := some 51) (v := ?_) (a' := ?_) #[false, true, false, false, false, false] rfl rfl (by kernel_rfl) (fun _ _ _ h => h) (Or.inl ⟨by rfl, ?_⟩) ?_ ?_
            rotate_left
            · intro w'
              go_simp
              with_reducible rfl
            rotate_left
            · simp only [Act.put, List.setIfInBounds_toArray, List.set_cons_zero, List.set_cons_succ, i64_w, i32_w]
              rfl
            refine pure_ (i := 2) (N := some 52) (v := ?_) (a' := ?_) #[false, true, true, false, false, false] rfl rfl (by kernel_rfl) (fun _ _ _ h => h) (Or.inl ⟨by rfl, ?_⟩) ?_ ?_
            rotate_left
            · intro w'
              go_simp
              with_reducible rfl
            rotate_left
            · simp only [Act.put, List.setIfInBounds_toArray, List.set_cons_zero, List.set_cons_succ, i64_w, i32_w]
              rfl
            refine take_ (i := 0) (N := some 50) (v := ?_) (a' := ?_) #[true, true, true, false, false, false] rfl rfl (by kernel_rfl) (fun _ _ _ h => h) (Or.inl ⟨by rfl, ?_⟩) hHeld ?_ ?_
            rotate_left
            · intro w' s0
              go_simp
              with_reducible rfl
            rotate_left
            · simp only [Act.put, List.setIfInBounds_toArray, List.set_cons_zero, List.set_cons_succ, i64_w, i32_w]
              rfl
            refine one_ (i := 3) (N := some 53) #[true, true, true, true, false, false] rfl rfl (by kernel_rfl) (by decide) (fun K hK => ?_)
            refine event_step (v := .slice (some ⟨w5.heap.size, 0, none⟩) 1 1) (w1 := w5.alloc (.cells #[.int .i64 e] 2 (0, 0))) (by rfl) ?hr ?_
            (case hr => first | (go_simp; done) | (go_simp; rfl))
            refine hK.out _ _ ((blk_cell (blk_alloc hE4.2.2.2.2 _) 0).trans rfl) (fun hHeld => ?_)
            clear hK K
            refine norm_ (a' := ?_) ?_ ?_
            rotate_left
            · show Act.put _ (some 53) _ = _
              simp only [Act.put, List.setIfInBounds_toArray, List.set_cons_zero, List.set_cons_succ, i64_w, i32_w]
              rfl
            refine one_ (i := 4) (N := some 54) #[true, true, true, true, true, false] rfl rfl (by kernel_rfl) (by decide) (fun K hK => ?_)
            refine impl_Graph_walks_at_WalksFrom_2_at_WalksFrom_3.one_step (w0 := w0) w0.heap.size (by rfl) (.tmp 51) (.tmp 53) 26 2 (.int .i64 0) 8 rfl Try.underlying26 info2 rfl (by omega) (.slice A1 ws.length c1) ws e _ rfl rfl hF4.2.2.1 hF4.2.2.2.1 hF4.2.2.2.1.size (by omega) ?_
            intro v6 w6 hv6 hB6 hg6 hat6
            obtain ⟨ho5, hS5, hW5, hB5, hK5⟩ := hF4
            have hK6 := Kept.of_grown hg6 hK5 (fun k hk => .inl (.inr (.inr hk)))
            have hE6 := hE0.kept hK6 hSx ⟨_, ho⟩
            have hs5 := hK5.1
            have hs6 := hg6.size
            have ho6 := blk_grown ho5 hg6 (fun h => (hWo bo h.symm).2 (.inr (.inr (.inr (.inr (.inr rfl))))))
            have hWlt := Kd.R_lt hW
            have hS6 : Kd.S (Kd.slice 2 (Kd.int .i64)) 26 w6 w0.heap.size (fun k => (P k ∨ w.heap.size ≤ k) ∧ k < w5.heap.size) (.slice Ay ys.length cy) ys :=
              Kd.S_grown (Kd.S_mono (Kd.S_bound hS5) (fun k hk => ⟨hk.1, hk.2.2.1⟩)) hg6 (fun k hk h => hk.1.elim (hWo k h.symm).1 (fun h2 => by have := hWlt k h.symm; omega))
            refine hK.out _ _ ((blk_cell hE6.2.2.2.2 0).trans rfl) (fun hHeld => ?_)
            clear hK K
            refine norm_ (a' := ?_) ?_ ?_
            rotate_left
            · show Act.put _ (some 54) _ = _
              simp only [Act.put, List.setIfInBounds_toArray, List.set_cons_zero, List.set_cons_succ, i64_w, i32_w]
              rfl
            refine last_ (i := 5) (N := some 55) #[true, true, true, true, true, true] rfl rfl (by kernel_rfl) (by decide) (fun K hK => ?_)
            refine goesFR_ Try.func105 (by kernel_rfl) rfl (lb := #[.pointer (some ⟨bk, 0, none⟩), .pointer (some ⟨bi, 0, none⟩), .pointer (some ⟨bo, 0, none⟩), .pointer (some ⟨bg, 0, none⟩), .pointer (some ⟨bb, 0, none⟩), .pointer (some ⟨bx, 0, none⟩)]) #[v6, .pointer (some ⟨bk, 0, none⟩), .pointer (some ⟨bi, 0, none⟩), .pointer (some ⟨bo, 0, none⟩), .pointer (some ⟨bg, 0, none⟩), .pointer (some ⟨bb, 0, none⟩), .pointer (some ⟨bx, 0, none⟩)] (by rfl) rfl rfl (by first | rfl | (simp; done)) (by (try simp only [List.map_toArray, List.map_cons, List.map_nil, List.append_toArray, List.cons_append, List.nil_append]); first | done | rfl) ?_
            have hown6 : ∀ k, v6.ownBlock = some k → (Value.slice A1 ws.length c1).ownBlock = some k ∨ w5.heap.size ≤ k := fun k hk => by
              rcases hat6 with ⟨A, c, e1, e2⟩ | ⟨_, b, hb, hle⟩
              · injection e1 with e1 _ _
                subst e1 e2
                have h9 : ∀ (B : Option Addr) (m m2 x x2 : Nat), (Value.slice B m x).ownBlock = (Value.slice B m2 x2).ownBlock := fun B _ _ _ _ => by cases B <;> rfl
                exact .inl ((h9 _ _ _ _ _).trans hk)
              · rw [hb] at hk
                injection hk with hk
                exact .inr (by omega)
            refine (IH (ws ++ [e]) ys zs v6 _ _ _ w6 (by rw [List.length_append, List.length_singleton]; omega) Az.out hB6 hE6 ho6 hS6 hv6 (fun k hk hX => hk.1.elim (fun h => hP k h hX) (fun h => by have := hXl k hX; omega)) (fun k hk => ?own)).mono ?_
            case own =>
              rcases hown6 k hk with h | h
              · exact ⟨fun h2 => h2.1.elim (hWo k h).1 (fun h3 => by have := hWlt k h; omega), (hWo k h).2⟩
              · exact ⟨fun h2 => by have := h2.2; omega, fun hX => by have := hXl k hX; omega⟩
            rintro e' w7 ⟨rfl, v7, ho7, hS7, hv7, hB7, hK7⟩
            refine ⟨_, rfl, ?_⟩
            obtain ⟨Az7, cz7, rfl⟩ := Kd.S_slice hS7
            have hF7 : impl_Graph_walks_at_WalksFrom_2_at_WalksFrom_3.Fx w0 w bo P A1 c1 ws Az7 cz7 zs w7 := by
              refine ⟨ho7, Kd.S_mono hS7 (fun k hk => hk.elim (fun h => h.1) (fun h => .inr (by omega))), ?_, hB7, hK6.then_ hK7 (fun k hk => ?_)⟩
              · rcases hat6 with ⟨A, c, e1, e2⟩ | ⟨hv, b, hb, hle⟩
                · injection e1 with e1 _ e3
                  subst e1 e2 e3
                  have h2 := Kd.R_tight rfl (Kd.R_take hv7 (m := ws.length) (by rw [List.length_append]; omega))
                  rw [List.take_left] at h2
                  exact h2
                · refine Kd.R_kept hv hK7 (fun k hk h => ?_)
                  rcases h with h | h | h
                  · subst h
                    exact (hWo _ hk.symm).2 (.inr (.inr (.inr (.inr (.inr rfl)))))
                  · exact h.1.elim (hWo k hk.symm).1 (fun h3 => by have := hWlt k hk.symm; omega)
                  · rw [hb] at h
                    injection h with h
                    have := hWlt k hk.symm
                    omega
              · rcases hk with h | h | h
                · exact .inl (.inl h)
                · exact h.1.elim (fun h => .inl (.inr (.inl h))) .inr
                · exact (hown6 k h).elim (fun h => .inl (.inr (.inr h))) (fun h => .inr (by omega))
            refine hK.out _ _ ?_
            clear hK K
            refine norm_ (a' := ?_) ?_ ?_
            rotate_left
            · show Act.put _ (some 55) _ = _
              simp only [Act.put, List.setIfInBounds_toArray, List.set_cons_zero, List.set_cons_succ, i64_w, i32_w]
              rfl
            refine done_ (by kernel_rfl) ?_
            go_wp2
            first | go_roundg q | (refine Handed.intro q ?measure ?_; rotate_left; go_step; (try simp only [add_plain]); (repeat apply Exists.intro); refine ⟨?rel, rfl⟩)
            case measure => omega
            case rel => exact ⟨wrap64 (e + 1), zs, Az7, cz7, (by first | rfl | (simp; done)), ⟨H⟩, ⟨hF7⟩⟩
          | false =>
            rw [if_neg (by decide)] at H3
            have H := H3
            clear H2 H3 hHeld
            have c7b0 : decide (0 < (ws.length : Int)) = false := decide_eq_false (by have := beq_iff_eq.mp c6b0; omega)
            have c7b1 : decide (0 < ws.length) = false := decide_eq_false (by have := beq_iff_eq.mp c6b0; omega)
            refine pure_ (i := 6) (N := some 35) (v := ?_) (a' := ?_) #[true, true, true, true, true, true, true, false, false, false, false, false, false, false, false, false, false, false, false, false, false] rfl rfl (any_of HT_.out (by kernel_rfl)) (fun _ _ _ h => h) (Or.inl ⟨by rfl, ?_⟩) ?_ ?_
            rotate_left
            · intro w'
              go_simp
              with_reducible rfl
            rotate_left
            · simp only [Act.put, List.setIfInBounds_toArray, List.set_cons_zero, List.set_cons_succ, i64_w, i32_w]
              rfl
            refine pure_ (i := 7) (N := some 36) (v := ?_) (a' := ?_) #[true, true, true, true, true, true, true, true, false, false, false, false, false, false, false, false, false, false, false, false, false] rfl rfl (any_of HT_.out (by kernel_rfl)) (fun _ _ _ h => h) (Or.inl ⟨by rfl, ?_⟩) ?_ ?_
            rotate_left
            · intro w'
              go_simp
              with_reducible rfl
            rotate_left
            · simp only [Act.put, List.setIfInBounds_toArray, List.set_cons_zero, List.set_cons_succ, i64_w, i32_w]
              rfl
            refine pure_ (i := 8) (N := some 37) (v := ?_) (a' := ?_) #[true, true, true, true, true, true, true, true, true, false, false, false, false, false, false, false, false, false, false, false, false] rfl rfl (any_of HT_.out (by kernel_rfl)) (fun _ _ _ h => h) (Or.inl ⟨by rfl, ?_⟩) ?_ ?_
            rotate_left
            · intro w'
              go_simp
              with_reducible rfl
            rotate_left
            · simp only [Act.put, List.setIfInBounds_toArray, List.set_cons_zero, List.set_cons_succ, i64_w, i32_w]
              rfl
            refine pure_ (i := 9) (N := some 38) (v := ?_) (a' := ?_) #[true, true, true, true, true, true, true, true, true, true, false, false, false, false, false, false, false, false, false, false, false] rfl rfl (any_of HT_.out (by kernel_rfl)) (fun _ _ _ h => h) (Or.inl ⟨by rfl, ?_⟩) ?_ ?_
            rotate_left
            · intro w'
              go_simp
              with_reducible rfl
            rotate_left
            · simp only [Act.put, List.setIfInBounds_toArray, List.set_cons_zero, List.set_cons_succ, i64_w, i32_w]
              rfl
            refine pure_ (i := 10) (N := some 39) (v := ?_) (a' := ?_) #[true, true, true, true, true, true, true, true, true, true, true, false, false, false, false, false, false, false, false, false, false] rfl rfl (any_of HT_.out (by kernel_rfl)) (fun _ _ _ h => h) (Or.inl ⟨by rfl, ?_⟩) ?_ ?_
            rotate_left
            · intro w'
              go_simp
              with_reducible rfl
            rotate_left
            · simp only [Act.put, List.setIfInBounds_toArray, List.set_cons_zero, List.set_cons_succ, i64_w, i32_w]
              rfl
            refine pure_ (i := 11) (N := some 40) (v := undef) (a' := ?_) #[true, true, true, true, true, true, true, true, true, true, true, true, false, false, false, false, false, false, false, false, false] rfl rfl (any_of HT_.out (by kernel_rfl)) (fun _ _ _ h => h) (Or.inr ⟨by rfl, rfl⟩) ?_ ?_
            rotate_left
            · simp only [Act.put, List.setIfInBounds_toArray, List.set_cons_zero, List.set_cons_succ, i64_w, i32_w]
              rfl
            refine pure_ (i := 12) (N := some 41) (v := undef) (a' := ?_) #[true, true, true, true, true, true, true, true, true, true, true, true, true, false, false, false, false, false, false, false, false] rfl rfl (any_of HT_.out (by kernel_rfl)) (fun _ _ _ h => h) (Or.inr ⟨by rfl, rfl⟩) ?_ ?_
            rotate_left
            · simp only [Act.put, List.setIfInBounds_toArray, List.set_cons_zero, List.set_cons_succ, i64_w, i32_w]
              rfl
            refine pure_ (i := 13) (N := some 42) (v := undef) (a' := ?_) #[true, true, true, true, true, true, true, true, true, true, true, true, true, true, false, false, false, false, false, false, false] rfl rfl (any_of HT_.out (by kernel_rfl)) (fun _ _ _ h => h) (Or.inr ⟨by rfl, rfl⟩) ?_ ?_
            rotate_left
            · simp only [Act.put, List.setIfInBounds_toArray, List.set_cons_zero, List.set_cons_succ, i64_w, i32_w]
              rfl
            refine pure_ (i := 14) (N := some 43) (v := undef) (a' := ?_) #[true, true, true, true, true, true, true, true, true, true, true, true, true, true, true, false, false, false, false, false, false] rfl rfl (any_of HT_.out (by kernel_rfl)) (fun _ _ _ h => h) (Or.inr ⟨by rfl, rfl⟩) ?_ ?_
            rotate_left
            · simp only [Act.put, List.setIfInBounds_toArray, List.set_cons_zero, List.set_cons_succ, i64_w, i32_w]
              rfl
            refine pure_ (i := 15) (N := some 44) (v := undef) (a' := ?_) #[true, true, true, true, true, true, true, true, true, true, true, true, true, true, true, true, false, false, false, false, false] rfl rfl (any_of HT_.out (by kernel_rfl)) (fun _ _ _ h => h) (Or.inr ⟨by rfl, rfl⟩) ?_ ?_
            rotate_left
            · simp only [Act.put, List.setIfInBounds_toArray, List.set_cons_zero, List.set_cons_succ, i64_w, i32_w]
              rfl
            refine pure_ (i := 16) (N := some 45) (v := undef) (a' := ?_) #[true, true, true, true, true, true, true, true, true, true, true, true, true, true, true, true, true, false, false, false, false] rfl rfl (any_of HT_.out (by kernel_rfl)) (fun _ _ _ h => h) (Or.inr ⟨by rfl, rfl⟩) ?_ ?_
            rotate_left
            · simp only [Act.put, List.setIfInBounds_toArray, List.set_cons_zero, List.set_cons_succ, i64_w, i32_w]
              rfl
            refine pure_ (i := 17) (N := some 46) (v := undef) (a' := ?_) #[true, true, true, true, true, true, true, true, true, true, true, true, true, true, true, true, true, true, false, false, false] rfl rfl (any_of HT_.out (by kernel_rfl)) (fun _ _ _ h => h) (Or.inr ⟨by rfl, rfl⟩) ?_ ?_
            rotate_left
            · simp only [Act.put, List.setIfInBounds_toArray, List.set_cons_zero, List.set_cons_succ, i64_w, i32_w]
              rfl
            refine pure_ (i := 18) (N := some 47) (v := undef) (a' := ?_) #[true, true, true, true, true, true, true, true, true, true, true, true, true, true, true, true, true, true, true, false, false] rfl rfl (any_of HT_.out (by kernel_rfl)) (fun _ _ _ h => h) (Or.inr ⟨by rfl, rfl⟩) ?_ ?_
            rotate_left
            · simp only [Act.put, List.setIfInBounds_toArray, List.set_cons_zero, List.set_cons_succ, i64_w, i32_w]
              rfl
            refine pure_ (i := 19) (N := some 48) (v := ?_) (a' := ?_) #[true, true, true, true, true, true, true, true, true, true, true, true, true, true, true, true, true, true, true, true, false] rfl rfl (any_of HT_.out (by kernel_rfl)) (fun _ _ _ h => h) (Or.inl ⟨by rfl, ?_⟩) ?_ ?_
            rotate_left
            · intro w'
              go_simp
              with_reducible rfl
            rotate_left
            · simp only [Act.put, List.setIfInBounds_toArray, List.set_cons_zero, List.set_cons_succ, i64_w, i32_w]
              rfl
            refine pure_ (i := 20) (N := some 49) (v := ?_) (a' := ?_) #[true, true, true, true, true, true, true, true, true, true, true, true, true, true, true, true, true, true, true, true, true] rfl rfl (any_of HT_.out (by kernel_rfl)) (fun _ _ _ h => h) (Or.inl ⟨by rfl, ?_⟩) ?_ ?_
            rotate_left
            · intro w'
              go_simp
              with_reducible rfl
            rotate_left
            · simp only [Act.put, List.setIfInBounds_toArray, List.set_cons_zero, List.set_cons_succ, i64_w, i32_w]
              rfl
            refine done_ (done_of HT_.out (by kernel_rfl)) ?_
            go_wp2
            first | go_roundg q | (refine Handed.intro q ?measure ?_; rotate_left; go_step; (try simp only [add_plain]); (repeat apply Exists.intro); refine ⟨?rel, rfl⟩)
            case measure => omega
            case rel => exact ⟨wrap64 (e + 1), ys, Ay, cy, (by first | rfl | (simp; done)), ⟨H⟩, ⟨hF3⟩⟩
        · rw [if_neg c6] at H2
          have c6b0 : ((ws.length : Int) == 0) = false := beq_eq_false_iff_ne.mpr c6
          have c6b1 : (ws.length == 0) = false := by first | simpa using c6 | (simp at c6 ⊢; omega)
          have c7b0 : decide (0 < (ws.length : Int)) = true := decide_eq_true (by omega)
          have c7b1 : decide (0 < ws.length) = true := decide_eq_true (by omega)
          have hwl : ws.length < 9223372036854775808 := by
            have h1 := (Kd.R_reads' hW).2.2.2.1
            omega
          obtain ⟨ji, hji⟩ : ∃ j_ : Int, wrap64 ((ws.length : Int) - 1) = j_ := ⟨_, rfl⟩
          have hjiw : IntKind.i64.wrap ((ws.length : Int) - 1) = ji := (i64_w _).trans hji
          rw [hji] at H2
          obtain ⟨b, Ab, H3⟩ := bnd_ H2
          have p8 : 0 ≤ ji := by
            unfold wrap64 at hji
            omega
          have q8 : ji < (ws.length : Int) := by
            unfold wrap64 at hji
            omega
          have p8b : decide (0 ≤ ji) = true := decide_eq_true p8
          have q8b : decide (ji < (ws.length : Int)) = true := decide_eq_true q8
          clear hji c6 hwl
          have hF2 := HF.out.drew
          have hE2 := hE0.kept hF2.2.2.2.2 hSx ⟨_, ho⟩
          obtain ⟨ad, eA, hx8⟩ := Kd.at_int (Kd.R_reads' hF2.2.2.1).2.2 ji p8 q8
          subst eA
          go_wp2
          replace p8 := eq_true p8
          replace q8 := eq_true q8
          have hH0 : wr.drew.cell? ⟨bg, 0, none⟩ = some (.int .i64 n) ∧ wr.drew.cell? ⟨bg, 1, none⟩ = some (.slice A l.length c) ∧ wr.drew.cell? (ad.add ji.toNat) = some (.int .i64 (rd ws ji)) := ⟨(blk_cell hE2.2.2.1 0).trans rfl, (blk_cell hE2.2.2.1 1).trans rfl, hx8⟩
          refine start_ (n := 21) (S := fun w' => w'.cell? ⟨bg, 0, none⟩ = some (.int .i64 n) ∧ w'.cell? ⟨bg, 1, none⟩ = some (.slice A l.length c) ∧ w'.cell? (ad.add ji.toNat) = some (.int .i64 (rd ws ji))) (ds := []) #[false, false, false, false, false, false, false, false, false, false, false, false, false, false, false, false, false, false, false, false, false] (by kernel_rfl) rfl rfl hH0 (fun hHeld => ?_); refine with_tabW impl_Graph_walks_at_WalksFrom_2_at_WalksFrom_3.tab7 impl_Graph_walks_at_WalksFrom_2_at_WalksFrom_3.bits7 (fun HT_ HW_ => ?_)
          clear hH0
          generalize wr.drew = w2 at hF2 hE2 hx8 hHeld ⊢
          refine pure_ (i := 0) (N := some 29) (v := ?_) (a' := ?_) #[true, false, false, false, false, false, false, false, false, false, false, false, false, false, false, false, false, false, false, false, false] rfl rfl (any_of HT_.out (by kernel_rfl)) (fun _ _ _ h => h) (Or.inl ⟨by rfl, ?_⟩) ?_ ?_
          rotate_left
          · intro w'
            go_simp
            with_reducible rfl
          rotate_left
          · simp only [Act.put, List.setIfInBounds_toArray, List.set_cons_zero, List.set_cons_succ, i64_w, i32_w]
            rfl
          refine pure_ (i := 1) (N := some 30) (v := ?_) (a' := ?_) #[true, true, false, false, false, false, false, false, false, false, false, false, false, false, false, false, false, false, false, false, false] rfl rfl (any_of HT_.out (by kernel_rfl)) (fun _ _ _ h => h) (Or.inl ⟨by rfl, ?_⟩) ?_ ?_
          rotate_left
          · intro w'
            go_simp
            with_reducible rfl
          rotate_left
          · simp only [Act.put, List.setIfInBounds_toArray, List.set_cons_zero, List.set_cons_succ, i64_w, i32_w]
            rfl
          refine pure_ (i := 2) (N := some 31) (v := ?_) (a' := ?_) #[true, true, true, false, false, false, false, false, false, false, false, false, false, false, false, false, false, false, false, false, false] rfl rfl (any_of HT_.out (by kernel_rfl)) (fun _ _ _ h => h) (Or.inl ⟨by rfl, ?_⟩) ?_ ?_
          rotate_left
          · intro w'
            go_simp
            with_reducible rfl
          rotate_left
          · simp only [Act.put, List.setIfInBounds_toArray, List.set_cons_zero, List.set_cons_succ, i64_w, i32_w]
            rfl
          refine pure_ (i := 3) (N := some 32) (v := undef) (a' := ?_) #[true, true, true, true, false, false, false, false, false, false, false, false, false, false, false, false, false, false, false, false, false] rfl rfl (any_of HT_.out (by kernel_rfl)) (fun _ _ _ h => h) (Or.inr ⟨by rfl, rfl⟩) ?_ ?_
          rotate_left
          · simp only [Act.put, List.setIfInBounds_toArray, List.set_cons_zero, List.set_cons_succ, i64_w, i32_w]
            rfl
          refine pure_ (i := 4) (N := some 33) (v := undef) (a' := ?_) #[true, true, true, true, true, false, false, false, false, false, false, false, false, false, false, false, false, false, false, false, false] rfl rfl (any_of HT_.out (by kernel_rfl)) (fun _ _ _ h => h) (Or.inr ⟨by rfl, rfl⟩) ?_ ?_
          rotate_left
          · simp only [Act.put, List.setIfInBounds_toArray, List.set_cons_zero, List.set_cons_succ, i64_w, i32_w]
            rfl
          refine pure_ (i := 5) (N := some 34) (v := undef) (a' := ?_) #[true, true, true, true, true, true, false, false, false, false, false, false, false, false, false, false, false, false, false, false, false] rfl rfl (any_of HT_.out (by kernel_rfl)) (fun _ _ _ h => h) (Or.inr ⟨by rfl, rfl⟩) ?_ ?_
          rotate_left
          · simp only [Act.put, List.setIfInBounds_toArray, List.set_cons_zero, List.set_cons_succ, i64_w, i32_w]
            rfl
          refine pure_ (i := 6) (N := some 35) (v := ?_) (a' := ?_) #[true, true, true, true, true, true, true, false, false, false, false, false, false, false, false, false, false, false, false, false, false] rfl rfl (any_of HT_.out (by kernel_rfl)) (fun _ _ _ h => h) (Or.inl ⟨by rfl, ?_⟩) ?_ ?_
          rotate_left
          · intro w'
            go_simp
            with_reducible rfl
          rotate_left
          · simp only [Act.put, List.setIfInBounds_toArray, List.set_cons_zero, List.set_cons_succ, i64_w, i32_w]
            rfl
          refine pure_ (i := 7) (N := some 36) (v := ?_) (a' := ?_) #[true, true, true, true, true, true, true, true, false, false, false, false, false, false, false, false, false, false, false, false, false] rfl rfl (any_of HT_.out (by kernel_rfl)) (fun _ _ _ h => h) (Or.inl ⟨by rfl, ?_⟩) ?_ ?_
          rotate_left
          · intro w'
            go_simp
            with_reducible rfl
          rotate_left
          · simp only [Act.put, List.setIfInBounds_toArray, List.set_cons_zero, List.set_cons_succ, i64_w, i32_w]
            rfl
          refine pure_ (i := 8) (N := some 37) (v := ?_) (a' := ?_) #[true, true, true, true, true, true, true, true, true, false, false, false, false, false, false, false, false, false, false, false, false] rfl rfl (any_of HT_.out (by kernel_rfl)) (fun _ _ _ h => h) (Or.inl ⟨by rfl, ?_⟩) ?_ ?_
          rotate_left
          · intro w'
            go_simp
            with_reducible rfl
          rotate_left
          · simp only [Act.put, List.setIfInBounds_toArray, List.set_cons_zero, List.set_cons_succ, i64_w, i32_w]
            rfl
          refine pure_ (i := 9) (N := some 38) (v := ?_) (a' := ?_) #[true, true, true, true, true, true, true, true, true, true, false, false, false, false, false, false, false, false, false, false, false] rfl rfl (any_of HT_.out (by kernel_rfl)) (fun _ _ _ h => h) (Or.inl ⟨by rfl, ?_⟩) ?_ ?_
          rotate_left
          · intro w'
            go_simp
            with_reducible rfl
          rotate_left
          · simp only [Act.put, List.setIfInBounds_toArray, List.set_cons_zero, List.set_cons_succ, i64_w, i32_w]
            rfl
          refine pure_ (i := 10) (N := some 39) (v := ?_) (a' := ?_) #[true, true, true, true, true, true, true, true, true, true, true, false, false, false, false, false, false, false, false, false, false] rfl rfl (any_of HT_.out (by kernel_rfl)) (fun _ _ _ h => h) (Or.inl ⟨by rfl, ?_⟩) ?_ ?_
          rotate_left
          · intro w'
            go_simp
            with_reducible rfl
          rotate_left
          · simp only [Act.put, List.setIfInBounds_toArray, List.set_cons_zero, List.set_cons_succ, i64_w, i32_w]
            rfl
          refine pure_ (i := 12) (N := some 41) (v := ?_) (a' := ?_) #[true, true, true, true, true, true, true, true, true, true, true, false, true, false, false, false, false, false, false, false, false] rfl rfl (any_of HT_.out (by kernel_rfl)) (fun _ _ _ h => h) (Or.inl ⟨by rfl, ?_⟩) ?_ ?_
          rotate_left
          · intro w'
            go_simp
            with_reducible rfl
          rotate_left
          · simp only [Act.put, List.setIfInBounds_toArray, List.set_cons_zero, List.set_cons_succ, i64_w, i32_w]
            rfl
          refine pure_ (i := 13) (N := some 42) (v := ?_) (a' := ?_) #[true, true, true, true, true, true, true, true, true, true, true, false, true, true, false, false, false, false, false, false, false] rfl rfl (any_of HT_.out (by kernel_rfl)) (fun _ _ _ h => h) (Or.inl ⟨by rfl, ?_⟩) ?_ ?_
          rotate_left
          · intro w'
            go_simp
            with_reducible rfl
          rotate_left
          · simp only [Act.put, List.setIfInBounds_toArray, List.set_cons_zero, List.set_cons_succ, i64_w, i32_w]
            rfl
          refine pure_ (i := 14) (N := some 43) (v := ?_) (a' := ?_) #[true, true, true, true, true, true, true, true, true, true, true, false, true, true, true, false, false, false, false, false, false] rfl rfl (any_of HT_.out (by kernel_rfl)) (fun _ _ _ h => h) (Or.inl ⟨by rfl, ?_⟩) ?_ ?_
          rotate_left
          · intro w'
            go_simp
            with_reducible rfl
          rotate_left
          · simp only [Act.put, List.setIfInBounds_toArray, List.set_cons_zero, List.set_cons_succ, i64_w, i32_w]
            rfl
          refine pure_ (i := 15) (N := some 44) (v := ?_) (a' := ?_) #[true, true, true, true, true, true, true, true, true, true, true, false, true, true, true, true, false, false, false, false, false] rfl rfl (any_of HT_.out (by kernel_rfl)) (fun _ _ _ h => h) (Or.inl ⟨by rfl, ?_⟩) ?_ ?_
          rotate_left
          · intro w'
            go_simp
            with_reducible rfl
          rotate_left
          · simp only [Act.put, List.setIfInBounds_toArray, List.set_cons_zero, List.set_cons_succ, i64_w, i32_w]
            rfl
          refine pure_ (i := 17) (N := some 46) (v := ?_) (a' := ?_) #[true, true, true, true, true, true, true, true, true, true, true, false, true, true, true, true, false, true, false, false, false] rfl rfl (any_of HT_.out (by kernel_rfl)) (fun _ _ _ h => h) (Or.inl ⟨by rfl, ?_⟩) ?_ ?_
          rotate_left
          · intro w'
            go_simp
            with_reducible rfl
          rotate_left
          · simp only [Act.put, List.setIfInBounds_toArray, List.set_cons_zero, List.set_cons_succ, i64_w, i32_w]
            rfl
          refine take_ (i := 11) (N := some 40) (v := ?_) (a' := ?_) #[true, true, true, true, true, true, true, true, true, true, true, true, true, true, true, true, false, true, false, false, false] rfl rfl (take_ofW HT_.out HW_.out (by kernel_rfl)) (fun _ _ _ h => h) (Or.inl ⟨by rfl, ?_⟩) hHeld ?_ ?_
          rotate_left
          · rintro w' ⟨s0, s1, s2⟩
            go_simp
            with_reducible rfl
          rotate_left
          · simp only [Act.put, List.setIfInBounds_toArray, List.set_cons_zero, List.set_cons_succ, i64_w, i32_w]
            rfl
          refine take_ (i := 16) (N := some 45) (v := ?_) (a' := ?_) #[true, true, true, true, true, true, true, true, true, true, true, true, true, true, true, true, true, true, false, false, false] rfl rfl (take_ofW HT_.out HW_.out (by kernel_rfl)) (fun _ _ _ h => h) (Or.inl ⟨by rfl, ?_⟩) hHeld ?_ ?_
          rotate_left
          · rintro w' ⟨s0, s1, s2⟩
            go_simp
            with_reducible rfl
          rotate_left
          · simp only [Act.put, List.setIfInBounds_toArray, List.set_cons_zero, List.set_cons_succ, i64_w, i32_w]
            rfl
          refine one_ (i := 18) (N := some 47) #[true, true, true, true, true, true, true, true, true, true, true, true, true, true, true, true, true, true, true, false, false] rfl rfl (one_of HT_.out (by kernel_rfl)) (by decide) (fun K hK => ?_)
          refine goes_ Try.func107 (by kernel_rfl) rfl #[.agg #[.int .i64 n, .slice A l.length c], .int .i64 (rd ws ji), .int .i64 e] (by rfl) rfl rfl arg_ ?_
          with_reducible refine (impl_Graph_follows.calls n _ _ l (rd ws ji) e b _ ?side1 ?side2 Ab.out).mono ?_
          (case side1 => exact Kd.C_below hr hF2.2.2.2.1)
          (case side2 => exact hc)
          rintro e' w3 ⟨rfl, hb3⟩
          refine ⟨_, rfl, ?_⟩
          have hF3 := hF2.below hb3
          have hE3 := hE0.kept hF3.2.2.2.2 hSx ⟨_, ho⟩
          refine hK.out _ _ ⟨(blk_cell hE3.2.2.1 0).trans rfl, (blk_cell hE3.2.2.1 1).trans rfl, hb3.cell (World.block_lt_of_cell? _ _ hx8) |>.trans hx8⟩ (fun hHeld => ?_)
          clear hK K
          refine norm_ (a' := ?_) ?_ ?_
          rotate_left
          · show Act.put _ (some 47) _ = _
            simp only [Act.put, List.setIfInBounds_toArray, List.set_cons_zero, List.set_cons_succ, i64_w, i32_w]
            rfl
          clear hx8 hHeld
          cases b with
          | true =>
            rw [if_pos rfl] at H3
            have H := H3
            clear H2 H3
            refine pure_ (i := 19) (N := some 48) (v := ?_) (a' := ?_) #[true, true, true, true, true, true, true, true, true, true, true, true, true, true, true, true, true, true, true, true, false] rfl rfl (any_of HT_.out (by kernel_rfl)) (fun _ _ _ h => h) (Or.inl ⟨by rfl, ?_⟩) ?_ ?_
            rotate_left
            · intro w'
              go_simp
              with_reducible rfl
            rotate_left
            · simp only [Act.put, List.setIfInBounds_toArray, List.set_cons_zero, List.set_cons_succ, i64_w, i32_w]
              rfl
            refine pure_ (i := 20) (N := some 49) (v := ?_) (a' := ?_) #[true, true, true, true, true, true, true, true, true, true, true, true, true, true, true, true, true, true, true, true, true] rfl rfl (any_of HT_.out (by kernel_rfl)) (fun _ _ _ h => h) (Or.inl ⟨by rfl, ?_⟩) ?_ ?_
            rotate_left
            · intro w'
              go_simp
              with_reducible rfl
            rotate_left
            · simp only [Act.put, List.setIfInBounds_toArray, List.set_cons_zero, List.set_cons_succ, i64_w, i32_w]
              rfl
            refine done_ (done_of HT_.out (by kernel_rfl)) ?_
            go_wp2
            obtain ⟨hlen, H⟩ := itn_ H
            obtain ⟨zs, Az, H⟩ := bnd_ H
            have hF4 := hF3.drew
            have hE4 := hE0.kept hF4.2.2.2.2 hSx ⟨_, ho⟩
            have hH0 : w3.drew.cell? ⟨bx, 0, none⟩ = some (.func (.func 105) #[] #[.pointer (some ⟨bk, 0, none⟩), .pointer (some ⟨bi, 0, none⟩), .pointer (some ⟨bo, 0, none⟩), .pointer (some ⟨bg, 0, none⟩), .pointer (some ⟨bb, 0, none⟩), .pointer (some ⟨bx, 0, none⟩)]) := (blk_cell hE4.2.2.2.2 0).trans rfl
            refine start_ (n := 6) (S := fun w' => w'.cell? ⟨bx, 0, none⟩ = some (.func (.func 105) #[] #[.pointer (some ⟨bk, 0, none⟩), .pointer (some ⟨bi, 0, none⟩), .pointer (some ⟨bo, 0, none⟩), .pointer (some ⟨bg, 0, none⟩), .pointer (some ⟨bb, 0, none⟩), .pointer (some ⟨bx, 0, none⟩)])) (ds := [5]) #[false, false, false, false, false, false] (by kernel_rfl) rfl rfl hH0 (fun hHeld => ?_)
            clear hH0
            generalize w3.drew = w5 at hF4 hE4 hHeld ⊢
            refine pure_ (i := 1) (N := some 51) (v := ?_) (a' := ?_) #[false, true, false, false, false, false] rfl rfl (by kernel_rfl) (fun _ _ _ h => h) (Or.inl ⟨by rfl, ?_⟩) ?_ ?_
            rotate_left
            · intro w'
              go_simp
              with_reducible rfl
            rotate_left
            · simp only [Act.put, List.setIfInBounds_toArray, List.set_cons_zero, List.set_cons_succ, i64_w, i32_w]
              rfl
            refine pure_ (i := 2) (N := some 52) (v := ?_) (a' := ?_) #[false, true, true, false, false, false] rfl rfl (by kernel_rfl) (fun _ _ _ h => h) (Or.inl ⟨by rfl, ?_⟩) ?_ ?_
            rotate_left
            · intro w'
              go_simp
              with_reducible rfl
            rotate_left
            · simp only [Act.put, List.setIfInBounds_toArray, List.set_cons_zero, List.set_cons_succ, i64_w, i32_w]
              rfl
            refine take_ (i := 0) (N := some 50) (v := ?_) (a' := ?_) #[true, true, true, false, false, false] rfl rfl (by kernel_rfl) (fun _ _ _ h => h) (Or.inl ⟨by rfl, ?_⟩) hHeld ?_ ?_
            rotate_left
            · intro w' s0
              go_simp
              with_reducible rfl
            rotate_left
            · simp only [Act.put, List.setIfInBounds_toArray, List.set_cons_zero, List.set_cons_succ, i64_w, i32_w]
              rfl
            refine one_ (i := 3) (N := some 53) #[true, true, true, true, false, false] rfl rfl (by kernel_rfl) (by decide) (fun K hK => ?_)
            refine event_step (v := .slice (some ⟨w5.heap.size, 0, none⟩) 1 1) (w1 := w5.alloc (.cells #[.int .i64 e] 2 (0, 0))) (by rfl) ?hr ?_
            (case hr => first | (go_simp; done) | (go_simp; rfl))
            refine hK.out _ _ ((blk_cell (blk_alloc hE4.2.2.2.2 _) 0).trans rfl) (fun hHeld => ?_)
            clear hK K
            refine norm_ (a' := ?_) ?_ ?_
            rotate_left
            · show Act.put _ (some 53) _ = _
              simp only [Act.put, List.setIfInBounds_toArray, List.set_cons_zero, List.set_cons_succ, i64_w, i32_w]
              rfl
            refine one_ (i := 4) (N := some 54) #[true, true, true, true, true, false] rfl rfl (by kernel_rfl) (by decide) (fun K hK => ?_)
            refine impl_Graph_walks_at_WalksFrom_2_at_WalksFrom_3.one_step (w0 := w0) w0.heap.size (by rfl) (.tmp 51) (.tmp 53) 26 2 (.int .i64 0) 8 rfl Try.underlying26 info2 rfl (by omega) (.slice (some ad) ws.length c1) ws e _ rfl rfl hF4.2.2.1 hF4.2.2.2.1 hF4.2.2.2.1.size (by omega) ?_
            intro v6 w6 hv6 hB6 hg6 hat6
            obtain ⟨ho5, hS5, hW5, hB5, hK5⟩ := hF4
            have hK6 := Kept.of_grown hg6 hK5 (fun k hk => .inl (.inr (.inr hk)))
            have hE6 := hE0.kept hK6 hSx ⟨_, ho⟩
            have hs5 := hK5.1
            have hs6 := hg6.size
            have ho6 := blk_grown ho5 hg6 (fun h => (hWo bo h.symm).2 (.inr (.inr (.inr (.inr (.inr rfl))))))
            have hWlt := Kd.R_lt hW
            have hS6 : Kd.S (Kd.slice 2 (Kd.int .i64)) 26 w6 w0.heap.size (fun k => (P k ∨ w.heap.size ≤ k) ∧ k < w5.heap.size) (.slice Ay ys.length cy) ys :=
              Kd.S_grown (Kd.S_mono (Kd.S_bound hS5) (fun k hk => ⟨hk.1, hk.2.2.1⟩)) hg6 (fun k hk h => hk.1.elim (hWo k h.symm).1 (fun h2 => by have := hWlt k h.symm; omega))
            refine hK.out _ _ ((blk_cell hE6.2.2.2.2 0).trans rfl) (fun hHeld => ?_)
            clear hK K
            refine norm_ (a' := ?_) ?_ ?_
            rotate_left
            · show Act.put _ (some 54) _ = _
              simp only [Act.put, List.setIfInBounds_toArray, List.set_cons_zero, List.set_cons_succ, i64_w, i32_w]
              rfl
            refine last_ (i := 5) (N := some 55) #[true, true, true, true, true, true] rfl rfl (by kernel_rfl) (by decide) (fun K hK => ?_)
            refine goesFR_ Try.func105 (by kernel_rfl) rfl (lb := #[.pointer (some ⟨bk, 0, none⟩), .pointer (some ⟨bi, 0, none⟩), .pointer (some ⟨bo, 0, none⟩), .pointer (some ⟨bg, 0, none⟩), .pointer (some ⟨bb, 0, none⟩), .pointer (some ⟨bx, 0, none⟩)]) #[v6, .pointer (some ⟨bk, 0, none⟩), .pointer (some ⟨bi, 0, none⟩), .pointer (some ⟨bo, 0, none⟩), .pointer (some ⟨bg, 0, none⟩), .pointer (some ⟨bb, 0, none⟩), .pointer (some ⟨bx, 0, none⟩)] (by rfl) rfl rfl (by first | rfl | (simp; done)) (by (try simp only [List.map_toArray, List.map_cons, List.map_nil, List.append_toArray, List.cons_append, List.nil_append]); first | done | rfl) ?_
            have hown6 : ∀ k, v6.ownBlock = some k → (Value.slice (some ad) ws.length c1).ownBlock = some k ∨ w5.heap.size ≤ k := fun k hk => by
              rcases hat6 with ⟨A, c, e1, e2⟩ | ⟨_, b, hb, hle⟩
              · injection e1 with e1 _ _
                subst e1 e2
                have h9 : ∀ (B : Option Addr) (m m2 x x2 : Nat), (Value.slice B m x).ownBlock = (Value.slice B m2 x2).ownBlock := fun B _ _ _ _ => by cases B <;> rfl
                exact .inl ((h9 _ _ _ _ _).trans hk)
              · rw [hb] at hk
                injection hk with hk
                exact .inr (by omega)
            refine (IH (ws ++ [e]) ys zs v6 _ _ _ w6 (by rw [List.length_append, List.length_singleton]; omega) Az.out hB6 hE6 ho6 hS6 hv6 (fun k hk hX => hk.1.elim (fun h => hP k h hX) (fun h => by have := hXl k hX; omega)) (fun k hk => ?own)).mono ?_
            case own =>
              rcases hown6 k hk with h | h
              · exact ⟨fun h2 => h2.1.elim (hWo k h).1 (fun h3 => by have := hWlt k h; omega), (hWo k h).2⟩
              · exact ⟨fun h2 => by have := h2.2; omega, fun hX => by have := hXl k hX; omega⟩
            rintro e' w7 ⟨rfl, v7, ho7, hS7, hv7, hB7, hK7⟩
            refine ⟨_, rfl, ?_⟩
            obtain ⟨Az7, cz7, rfl⟩ := Kd.S_slice hS7
            have hF7 : impl_Graph_walks_at_WalksFrom_2_at_WalksFrom_3.Fx w0 w bo P (some ad) c1 ws Az7 cz7 zs w7 := by
              refine ⟨ho7, Kd.S_mono hS7 (fun k hk => hk.elim (fun h => h.1) (fun h => .inr (by omega))), ?_, hB7, hK6.then_ hK7 (fun k hk => ?_)⟩
              · rcases hat6 with ⟨A, c, e1, e2⟩ | ⟨hv, b, hb, hle⟩
                · injection e1 with e1 _ e3
                  subst e1 e2 e3
                  have h2 := Kd.R_tight rfl (Kd.R_take hv7 (m := ws.length) (by rw [List.length_append]; omega))
                  rw [List.take_left] at h2
                  exact h2
                · refine Kd.R_kept hv hK7 (fun k hk h => ?_)
                  rcases h with h | h | h
                  · subst h
                    exact (hWo _ hk.symm).2 (.inr (.inr (.inr (.inr (.inr rfl)))))
                  · exact h.1.elim (hWo k hk.symm).1 (fun h3 => by have := hWlt k hk.symm; omega)
                  · rw [hb] at h
                    injection h with h
                    have := hWlt k hk.symm
                    omega
              · rcases hk with h | h | h
                · exact .inl (.inl h)
                · exact h.1.elim (fun h => .inl (.inr (.inl h))) .inr
                · exact (hown6 k h).elim (fun h => .inl (.inr (.inr h))) (fun h => .inr (by omega))
            refine hK.out _ _ ?_
            clear hK K
            refine norm_ (a' := ?_) ?_ ?_
            rotate_left
            · show Act.put _ (some 55) _ = _
              simp only [Act.put, List.setIfInBounds_toArray, List.set_cons_zero, List.set_cons_succ, i64_w, i32_w]
              rfl
            refine done_ (by kernel_rfl) ?_
            go_wp2
            first | go_roundg q | (refine Handed.intro q ?measure ?_; rotate_left; go_step; (try simp only [add_plain]); (repeat apply Exists.intro); refine ⟨?rel, rfl⟩)
            case measure => omega
            case rel => exact ⟨wrap64 (e + 1), zs, Az7, cz7, (by first | rfl | (simp; done)), ⟨H⟩, ⟨hF7⟩⟩
          | false =>
            rw [if_neg (by decide)] at H3
            have H := H3
            clear H2 H3
            refine pure_ (i := 19) (N := some 48) (v := ?_) (a' := ?_) #[true, true, true, true, true, true, true, true, true, true, true, true, true, true, true, true, true, true, true, true, false] rfl rfl (any_of HT_.out (by kernel_rfl)) (fun _ _ _ h => h) (Or.inl ⟨by rfl, ?_⟩) ?_ ?_
            rotate_left
            · intro w'
              go_simp
              with_reducible rfl
            rotate_left
            · simp only [Act.put, List.setIfInBounds_toArray, List.set_cons_zero, List.set_cons_succ, i64_w, i32_w]
              rfl
            refine pure_ (i := 20) (N := some 49) (v := ?_) (a' := ?_) #[true, true, true, true, true, true, true, true, true, true, true, true, true, true, true, true, true, true, true, true, true] rfl rfl (any_of HT_.out (by kernel_rfl)) (fun _ _ _ h => h) (Or.inl ⟨by rfl, ?_⟩) ?_ ?_
            rotate_left
            · intro w'
              go_simp
              with_reducible rfl
            rotate_left
            · simp only [Act.put, List.setIfInBounds_toArray, List.set_cons_zero, List.set_cons_succ, i64_w, i32_w]
              rfl
            refine done_ (done_of HT_.out (by kernel_rfl)) ?_
            go_wp2
            first | go_roundg q | (refine Handed.intro q ?measure ?_; rotate_left; go_step; (try simp only [add_plain]); (repeat apply Exists.intro); refine ⟨?rel, rfl⟩)
            case measure => omega
            case rel => exact ⟨wrap64 (e + 1), ys, Ay, cy, (by first | rfl | (simp; done)), ⟨H⟩, ⟨hF3⟩⟩
      · rw [if_neg c5] at H2
        obtain rfl := Option.some.inj H2
        have c5b0 : decide (e < wrap64 (2 * s)) = false := decide_eq_false c5
        go_wp2
        go_end0
        obtain ⟨h1, h2, h3, h4, h5⟩ := HF.out
        exact ⟨rfl, _, h1, h2, Kd.R_mono h3 (fun k hk => hW.1 k hk.symm), h4, h5⟩
theorem impl_Graph_walks_at_WalksFrom_2_at_WalksFrom_3.ok (n v n' : Int) (A A' : Option Addr) (c c' : Nat) (l l' : List (List Int)) (w0 : World) (hr : Kd.C (Kd.slice 2 (Kd.int .i64)) w0 A l.length l) (hc : l.length ≤ c) (hr' : Kd.C (Kd.slice 2 (Kd.int .i64)) w0 A' l'.length l') (hc' : l'.length ≤ c') (K bk bi bo bg bb bx cg cv : Nat) (hlo : w0.heap.size ≤ bo)
    (hcg : w0.heap[cg]? = some (.cells #[.int .i64 n', .slice A' l'.length c'] 29 (0, 0))) (hcv : w0.heap[cv]? = some (.cells #[.int .i64 v] 2 (0, 0))) : ∀ d, impl_Graph_walks_at_WalksFrom_2_at_WalksFrom_3.OK n v n' A c l l' w0 K bk bi bo bg bb bx cg cv d
  | 0 => impl_Graph_walks_at_WalksFrom_2_at_WalksFrom_3.ok0 n v n' A c l l' w0 K bk bi bo bg bb bx cg cv hlo
  | d + 1 => impl_Graph_walks_at_WalksFrom_2_at_WalksFrom_3.step n v n' A A' c c' l l' w0 hr hc hr' hc' K bk bi bo bg bb bx cg cv hlo hcg hcv d (impl_Graph_walks_at_WalksFrom_2_at_WalksFrom_3.ok n v n' A A' c c' l l' w0 hr hc hr' hc' K bk bi bo bg bb bx cg cv hlo hcg hcv d)
theorem impl_Graph_walks_at_WalksFrom_2_at_WalksFrom_3.run_store_func {P : Program} {w : World} (a : Addr) (m : Mode) (fn : Fn) (first captured : Array Value) : (store a (.func fn first captured) m).run P w = stored P w a (.func fn first captured) m := run_store P w a _ m rfl
attribute [local go_sem] impl_Graph_walks_at_WalksFrom_2_at_WalksFrom_3.run_store_func
set_option maxHeartbeats 8000000 in
set_option maxRecDepth 100000 in
theorem impl_Graph_walks_at_WalksFrom_2_at_WalksFrom_3.calls (a0_0 : Int) (A0_1 : Option Addr) (c0_1 : Nat) (l0_1 : List (List Int)) (a1 : Int) (gq2_0 : Nat) (gq2_1 : Nat) (a2_0 : Int) (A2_1 : Option Addr) (c2_1 : Nat) (l2_1 : List (List Int)) (a2_2 : Int) (r : List (List Int)) (w : World) (hr0_1 : Kd.C (Kd.slice 2 (Kd.int .i64)) w A0_1 l0_1.length l0_1) (hc0_1 : l0_1.length ≤ c0_1) (hbgq2_0 : w.heap[gq2_0]? = some (.cells #[.int .i64 a2_0, .slice A2_1 l2_1.length c2_1] 29 (0, 0))) (hbgq2_1 : w.heap[gq2_1]? = some (.cells #[.int .i64 a2_2] 2 (0, 0))) (hr2_1 : Kd.C (Kd.slice 2 (Kd.int .i64)) w A2_1 l2_1.length l2_1) (hc2_1 : l2_1.length ≤ c2_1) (h : impl_Graph_walks_at_WalksFrom_2_at_WalksFrom_3.f a0_0 l0_1 a1 a2_0 l2_1 a2_2 = some r) :
    Calls Try.prog 69 #[.agg #[.int .i64 a0_0, .slice A0_1 l0_1.length c0_1], .int .i64 a1, .func (.func 70) #[] #[.pointer (some ⟨gq2_0, 0, none⟩), .pointer (some ⟨gq2_1, 0, none⟩)], .func (.func 72) #[] #[]] w fun e w' => ∃ v0_ : Value, e = .returned (v0_) ∧ Kd.S (Kd.slice 2 (Kd.int .i64)) 26 w' w.heap.size (fun _ => True) v0_ r ∧ Below w.heap.size w w' := by
  obtain ⟨⟨hk0, _⟩, h⟩ := itn_ h
  obtain ⟨K, rfl⟩ := Int.eq_ofNat_of_zero_le hk0
  rw [Int.toNat_natCast] at h
  go_enter Try.func69, Try.ntmps69
  go_wp2_with (first
    | ((with_reducible refine gate_dst (N := 4) rfl ?_); refine box_event ?hg (N := 4) ?hd (cs := #[.int .i64 a0_0, .slice A0_1 l0_1.length c0_1]) (t := 29) ?hr ?_; (case hd => rfl); (case hg => rfl); (case hr => first | (go_simp; done) | (go_simp; rfl)); intro g4 hg_ w1 hx4 hb; have hg4 := Aside0.mk hg_; clear hg_; have hB1 := below_step (Below.refl w.heap.size w) hb; clear hb)
    | ((with_reducible refine gate_dst (N := 5) rfl ?_); refine box_event ?hg (N := 5) ?hd (cs := #[.int .i64 K]) (t := 2) ?hr ?_; (case hd => rfl); (case hg => rfl); (case hr => first | (go_simp; done) | (go_simp; rfl)); intro g5 hg_ w2 hx5 hb; have hg5 := Aside0.mk hg_; clear hg_; have hB2 := below_step hB1 hb; have hx4_2 := blk_below hx4 hb; have hz2 := hb.size; clear hb)
    | ((with_reducible refine gate_dst (N := 6) rfl ?_); refine box_event ?hg (N := 6) ?hd (cs := #[.func (.func 70) #[] #[.pointer (some ⟨gq2_0, 0, none⟩), .pointer (some ⟨gq2_1, 0, none⟩)]]) (t := 77) ?hr ?_; (case hd => rfl); (case hg => rfl); (case hr => first | (go_simp; done) | (go_simp; rfl)); intro g6 hg_ w3 hx6 hb; have hg6 := Aside0.mk hg_; clear hg_; have hB3 := below_step hB2 hb; have hx4_3 := blk_below hx4_2 hb; have hx5_3 := blk_below hx5 hb; clear hb)
    | ((with_reducible refine gate_dst (N := 7) rfl ?_); refine box_event ?hg (N := 7) ?hd (cs := #[.func (.func 72) #[] #[]]) (t := 65) ?hr ?_; (case hd => rfl); (case hg => rfl); (case hr => first | (go_simp; done) | (go_simp; rfl)); intro g7 hg_ w4 hx7 hb; have hg7 := Aside0.mk hg_; clear hg_; have hB4 := below_step hB3 hb; have hx4_4 := blk_below hx4_3 hb; have hx5_4 := blk_below hx5_3 hb; have hx6_4 := blk_below hx6 hb; clear hb)
    | ((with_reducible refine gate_dst (N := 11) rfl ?_); refine Kd.S_lit (Kd.slice 2 (Kd.int .i64)) _ 26 ?hg (N := 11) ?hd (xs := ([] : List (List Int))) (inner := []) (ok := fun k => k = w4.heap.size) (okp := fun k => k = w4.heap.size) ?hr ?hp (fun _ hk => hk) rfl (Below.refl _ _) (Nat.le_refl _) (by simp) ?_; (case hd => rfl); (case hg => rfl); (case hr => first | (go_simp; done) | (go_simp; rfl)); (case hp => exact (Reps.none _ _)); intro v11 w5 hS5 hb hg_ hnew_; clear hg_; have hlt5 : Aside0 (w4.heap.size < w5.heap.size) := ⟨by obtain ⟨b0, hb0, hb1⟩ := hnew_; have h1 := (Kd.S_R hS5).1 b0 hb0; have h2 := Kd.S_lt hS5 b0 hb0; omega⟩; clear hnew_; have hB5 := below_step hB4 hb; have hx4_5 := blk_below hx4_4 hb; have hx5_5 := blk_below hx5_4 hb; have hx6_5 := blk_below hx6_4 hb; have hx7_5 := blk_below hx7 hb; clear hb; obtain ⟨Ax, cx, rfl⟩ := Kd.S_slice hS5)
    | ((with_reducible refine gate_dst (N := 9) rfl ?_); refine box_event ?hg (N := 9) ?hd (cs := #[.slice none 0 0]) (t := 22) ?hr ?_; (case hd => rfl); (case hg => rfl); (case hr => first | (go_simp; done) | (go_simp; rfl)); intro g9 hg_ w6 hx9 hb; have hg9 := Aside0.mk hg_; clear hg_; have hB6 := below_step hB5 hb; have hx4_6 := blk_below hx4_5 hb; have hx5_6 := blk_below hx5_5 hb; have hx6_6 := blk_below hx6_5 hb; have hx7_6 := blk_below hx7_5 hb; have hS6 := Kd.S_below hS5 hb; clear hb; have hc9 : w6.cell? ⟨g9, 0, none⟩ = some (.slice none 0 0) := (blk_cell hx9 0).trans rfl; have hf9 := blk_frozen hx9 0)
    | ((with_reducible refine gate_dst (N := 10) rfl ?_); have hS7 := Kd.S_set hS6 hx9 (by decide) 0 (.slice Ax 0 cx); have hB7 : Below w.heap.size w (w6.setCell ⟨g9, 0, none⟩ (.slice Ax 0 cx)) := below_set hB6 (by have h1 := hg9.out; have h2 := hB5.size; omega); have hx4_7 := blk_far hx4_6 (p := ⟨g9, 0, none⟩) (blk_ne hx4_6 hx9 (by decide)) (.slice Ax 0 cx); have hx5_7 := blk_far hx5_6 (p := ⟨g9, 0, none⟩) (blk_ne hx5_6 hx9 (by decide)) (.slice Ax 0 cx); have hx6_7 := blk_far hx6_6 (p := ⟨g9, 0, none⟩) (blk_ne hx6_6 hx9 (by decide)) (.slice Ax 0 cx); have hx7_7 := blk_far hx7_6 (p := ⟨g9, 0, none⟩) (blk_ne hx7_6 hx9 (by decide)) (.slice Ax 0 cx); have hx9_7 : (w6.setCell ⟨g9, 0, none⟩ (.slice Ax 0 cx)).heap[g9]? = some (.cells #[.slice Ax 0 cx] 22 (0, 0)) := blk_put (cs := #[.slice none 0 0]) hx9 0 (.slice Ax 0 cx) rfl;
        generalize w6.setCell ⟨g9, 0, none⟩ (.slice Ax 0 cx) = w7 at hS7 hB7 hx4_7 hx5_7 hx6_7 hx7_7 hx9_7 ⊢; clear hc9 hf9;
        refine box_event ?hg (N := 10) ?hd (cs := #[.nilFunc]) (t := 87) ?hr ?_; (case hd => rfl); (case hg => rfl); (case hr => first | (go_simp; done) | (go_simp; rfl)); intro g10 hg_ w8 hx10 hb; have hg10 := Aside0.mk hg_; clear hg_; have hS8 := Kd.S_below hS7 hb; have hB8 := below_step hB7 hb; have hx4_8 := blk_below hx4_7 hb; have hx5_8 := blk_below hx5_7 hb; have hx6_8 := blk_below hx6_7 hb; have hx7_8 := blk_below hx7_7 hb; have hx9_8 := blk_below hx9_7 hb; have hb78 := Aside0.mk hb.size; clear hb; have hc10 : w8.cell? ⟨g10, 0, none⟩ = some .nilFunc := (blk_cell hx10 0).trans rfl; have hf10 := blk_frozen hx10 0)
    | ((with_reducible refine gate_fn (t := 13) rfl ?_); refine goesF_ (some 14) rfl rfl Try.func105 (by kernel_rfl) rfl (lb := #[.pointer (some ⟨g5, 0, none⟩), .pointer (some ⟨g7, 0, none⟩), .pointer (some ⟨g9, 0, none⟩), .pointer (some ⟨g4, 0, none⟩), .pointer (some ⟨g6, 0, none⟩), .pointer (some ⟨g10, 0, none⟩)]) #[.slice none 0 0, .pointer (some ⟨g5, 0, none⟩), .pointer (some ⟨g7, 0, none⟩), .pointer (some ⟨g9, 0, none⟩), .pointer (some ⟨g4, 0, none⟩), .pointer (some ⟨g6, 0, none⟩), .pointer (some ⟨g10, 0, none⟩)] rfl (by first | rfl | (simp; done)) (by (try simp only [List.map_toArray, List.map_cons, List.map_nil, List.append_toArray, List.cons_append, List.nil_append]); first | done | rfl) ?_;
        have hS9 := Kd.S_set hS8 hx10 (by decide) 0 (.func (.func 105) #[] #[.pointer (some ⟨g5, 0, none⟩), .pointer (some ⟨g7, 0, none⟩), .pointer (some ⟨g9, 0, none⟩), .pointer (some ⟨g4, 0, none⟩), .pointer (some ⟨g6, 0, none⟩), .pointer (some ⟨g10, 0, none⟩)]); have hB9 : Below w.heap.size w (w8.setCell ⟨g10, 0, none⟩ (.func (.func 105) #[] #[.pointer (some ⟨g5, 0, none⟩), .pointer (some ⟨g7, 0, none⟩), .pointer (some ⟨g9, 0, none⟩), .pointer (some ⟨g4, 0, none⟩), .pointer (some ⟨g6, 0, none⟩), .pointer (some ⟨g10, 0, none⟩)])) := below_set hB8 (by have h1 := hg10.out; have h2 := hB7.size; omega); have hx10_9 : (w8.setCell ⟨g10, 0, none⟩ (.func (.func 105) #[] #[.pointer (some ⟨g5, 0, none⟩), .pointer (some ⟨g7, 0, none⟩), .pointer (some ⟨g9, 0, none⟩), .pointer (some ⟨g4, 0, none⟩), .pointer (some ⟨g6, 0, none⟩), .pointer (some ⟨g10, 0, none⟩)])).heap[g10]? = some (.cells #[(.func (.func 105) #[] #[.pointer (some ⟨g5, 0, none⟩), .pointer (some ⟨g7, 0, none⟩), .pointer (some ⟨g9, 0, none⟩), .pointer (some ⟨g4, 0, none⟩), .pointer (some ⟨g6, 0, none⟩), .pointer (some ⟨g10, 0, none⟩)])] 87 (0, 0)) := blk_put (cs := #[.nilFunc]) hx10 0 (.func (.func 105) #[] #[.pointer (some ⟨g5, 0, none⟩), .pointer (some ⟨g7, 0, none⟩), .pointer (some ⟨g9, 0, none⟩), .pointer (some ⟨g4, 0, none⟩), .pointer (some ⟨g6, 0, none⟩), .pointer (some ⟨g10, 0, none⟩)]) rfl;
        have hx4_9 := blk_far hx4_8 (p := ⟨g10, 0, none⟩) (blk_ne hx4_8 hx10 (by decide)) (.func (.func 105) #[] #[.pointer (some ⟨g5, 0, none⟩), .pointer (some ⟨g7, 0, none⟩), .pointer (some ⟨g9, 0, none⟩), .pointer (some ⟨g4, 0, none⟩), .pointer (some ⟨g6, 0, none⟩), .pointer (some ⟨g10, 0, none⟩)]); have hx5_9 := blk_far hx5_8 (p := ⟨g10, 0, none⟩) (blk_ne hx5_8 hx10 (by decide)) (.func (.func 105) #[] #[.pointer (some ⟨g5, 0, none⟩), .pointer (some ⟨g7, 0, none⟩), .pointer (some ⟨g9, 0, none⟩), .pointer (some ⟨g4, 0, none⟩), .pointer (some ⟨g6, 0, none⟩), .pointer (some ⟨g10, 0, none⟩)]); have hx6_9 := blk_far hx6_8 (p := ⟨g10, 0, none⟩) (blk_ne hx6_8 hx10 (by decide)) (.func (.func 105) #[] #[.pointer (some ⟨g5, 0, none⟩), .pointer (some ⟨g7, 0, none⟩), .pointer (some ⟨g9, 0, none⟩), .pointer (some ⟨g4, 0, none⟩), .pointer (some ⟨g6, 0, none⟩), .pointer (some ⟨g10, 0, none⟩)]); have hx7_9 := blk_far hx7_8 (p := ⟨g10, 0, none⟩) (blk_ne hx7_8 hx10 (by decide)) (.func (.func 105) #[] #[.pointer (some ⟨g5, 0, none⟩), .pointer (some ⟨g7, 0, none⟩), .pointer (some ⟨g9, 0, none⟩), .pointer (some ⟨g4, 0, none⟩), .pointer (some ⟨g6, 0, none⟩), .pointer (some ⟨g10, 0, none⟩)]); have hx9_9 := blk_far hx9_8 (p := ⟨g10, 0, none⟩) (blk_ne hx9_8 hx10 (by decide)) (.func (.func 105) #[] #[.pointer (some ⟨g5, 0, none⟩), .pointer (some ⟨g7, 0, none⟩), .pointer (some ⟨g9, 0, none⟩), .pointer (some ⟨g4, 0, none⟩), .pointer (some ⟨g6, 0, none⟩), .pointer (some ⟨g10, 0, none⟩)]);
        have hX : ∀ k, k = w4.heap.size → ¬ impl_Graph_walks_at_WalksFrom_2_at_WalksFrom_3.X g5 g7 g4 g6 g10 g9 k := (by
          have h1 := hlt5.out
          have h2 := hg9.out
          have h3 := hg10.out
          have h4 := blk_lt hx4_4
          have h5 := blk_lt hx5_4
          have h6 := blk_lt hx6_4
          have h7 := blk_lt hx7
          have h9 := blk_lt hx9_7
          rintro k rfl (h | h | h | h | h | h) <;> omega);
        refine (impl_Graph_walks_at_WalksFrom_2_at_WalksFrom_3.ok a0_0 a2_2 a2_0 A0_1 A2_1 c0_1 c2_1 l0_1 l2_1 w hr0_1 hc0_1 hr2_1 hc2_1 K g5 g7 g9 g4 g6 g10 gq2_0 gq2_1 (by have h1 := hg9.out; have h2 := hB5.size; omega) hbgq2_0 hbgq2_1 K [] [] r (.slice none 0 0) _ (fun k => k = w4.heap.size) (fun _ => True) _ (Nat.zero_add K) h hB9 ⟨hx5_9, hx7_9, hx4_9, hx6_9, hx10_9⟩ hx9_9 (Kd.S_lower hS9 hB4.size) (Kd.R_nil _ _ _ _ _) hX (fun k hk => by cases hk)).mono ?_;
        rintro e w10 ⟨rfl, vo, ho10, hS10, _, hB10, _⟩; refine ⟨_, rfl, ?_⟩; obtain ⟨Ay, cy, rfl⟩ := Kd.S_slice hS10; have hc11 : w10.cell? ⟨g9, 0, none⟩ = some (.slice Ay r.length cy) := (blk_cell ho10 0).trans rfl; have hf11 := blk_frozen ho10 0))
  go_ret
  exact ⟨_, rfl, Kd.S_mono hS10 (fun _ _ => trivial), hB10⟩

/-! ### impl_WalksFrom: function 25 -/
def impl_WalksFrom.l0 : Nat → Int → List Int → Int → Int → Int → List (List Int) → Int → Int → Option ((List (List Int)) × Int)
  | 0, _, _, _, _, _, _, _, _ => none
  | k + 1, x9, x23, x24, x25, x325000, x325001, x326000, x327000 => if x25 < x24 then (if 0 ≤ x25 then (if x25 < (x23.length : Int) then (impl_WalksFrom.l0 k (wrap64 (x9 + (rd x23 x25))) x23 x24 (wrap64 (x25 + 1)) x325000 x325001 x326000 x327000) else (none)) else (none)) else (if x9 > 400 then (some (([] : List (List Int)), 3)) else ((impl_Graph_walks_at_WalksFrom_2_at_WalksFrom_3.f x325000 x325001 x327000 x325000 x325001 x326000).bind fun t333 => (some (t333, 0))))
def impl_WalksFrom.f (k : Nat) (a0_0 : Int) (l0_1 : List (List Int)) (a1 : Int) (a2 : Int) : Option ((List (List Int)) × Int) := (impl_graphCode_at_WalksFrom_1.f k a0_0 l0_1 a1 a0_0 l0_1 a2).bind fun t327 => (if t327 = 0 then ((impl_Graph_walkMatrix.f k a0_0 l0_1 a2).bind fun t328 => (if 0 ≤ a1 then (if a1 < (t328.length : Int) then (impl_WalksFrom.l0 k 0 (rd_L1 t328 a1) ((rd_L1 t328 a1).length : Int) 0 a0_0 l0_1 a1 a2) else (none)) else (none))) else (some (([] : List (List Int)), t327)))
def impl_WalksFrom.T5 : Bool × List (List Nat × List Nat) := (true, [([], []), ([], []), ([0, 1], [0, 1]), ([], []), ([2, 3], [2, 3]), ([4], [4]), ([5], [5]), ([], [])])
def impl_WalksFrom.B5 : List Nat := [0, 0, 3, 0, 15, 31, 63, 0]
theorem impl_WalksFrom.tab5 : rtab .any (opsOf Try.f25 5) = impl_WalksFrom.T5 := by kernel_rfl
theorem impl_WalksFrom.bits5 : waitsOk impl_WalksFrom.T5.2 impl_WalksFrom.B5 = true := by kernel_rfl
set_option maxHeartbeats 8000000 in
set_option maxRecDepth 100000 in
theorem impl_WalksFrom.calls (k : Nat) (a0_0 : Int) (A0_1 : Option Addr) (c0_1 : Nat) (l0_1 : List (List Int)) (a1 : Int) (a2 : Int) (r1 : List (List Int)) (r2 : Int) (w : World) (hr0_1 : Kd.C (Kd.slice 2 (Kd.int .i64)) w A0_1 l0_1.length l0_1) (hc0_1 : l0_1.length ≤ c0_1) (h : impl_WalksFrom.f k a0_0 l0_1 a1 a2 = some (r1, r2)) :
    Calls Try.prog 25 #[.agg #[.int .i64 a0_0, .slice A0_1 l0_1.length c0_1], .int .i64 a1, .int .i64 a2] w fun e w' => ∃ v0_ : Value, e = .returned (.tuple #[v0_, .int .i64 r2]) ∧ Kd.S (Kd.slice 2 (Kd.int .i64)) 26 w' w.heap.size (fun _ => True) v0_ r1 ∧ Below w.heap.size w w' := by
  have hu29 := Try.underlying29
  have HR0_1 := Aside0.mk hr0_1
  have HC0_1 := Aside0.mk hc0_1
  clear hr0_1 hc0_1
  have HB := Aside0.mk (Below.refl w.heap.size w)
  have H : ((impl_graphCode_at_WalksFrom_1.f k a0_0 l0_1 a1 a0_0 l0_1 a2).bind fun t327 => (if t327 = 0 then ((impl_Graph_walkMatrix.f k a0_0 l0_1 a2).bind fun t328 => (if 0 ≤ a1 then (if a1 < (t328.length : Int) then (impl_WalksFrom.l0 k 0 (rd_L1 t328 a1) ((rd_L1 t328 a1).length : Int) 0 a0_0 l0_1 a1 a2) else (none)) else (none))) else (some (([] : List (List Int)), t327)))) = some (r1, r2) := h
  clear h
  obtain ⟨t327, A4, H⟩ := bnd_ H
  by_cases c5 : t327 = 0
  · rw [if_pos c5] at H
    have c5b0 : (t327 == 0) = true := beq_iff_eq.mpr c5
    have c5b1 : (t327 != 0) = false := bne_eq_false_iff_eq.mpr c5
    clear c5
    obtain ⟨t328, A6, H⟩ := bnd_ H
    obtain ⟨c7, H⟩ := itn_ H
    have c7b0 := decide_eq_true c7
    clear c7
    obtain ⟨c8, H⟩ := itn_ H
    have c8b0 := decide_eq_true c8
    clear c8
    have H' := Aside0.mk H
    clear H
    go_enter Try.func25, Try.ntmps25
    try go_wp2_with (first | ((with_reducible refine gate_dst (N := 3) rfl ?_); refine box_event ?hg (N := 3) ?hd (cs := #[.int .i64 a0_0, .slice A0_1 l0_1.length c0_1]) (t := 29) ?hr ?_; (case hd => rfl); (case hg => rfl); (case hr => first | (go_simp; done) | (go_simp; rfl)); intro gb324 hg w9 hbox hb; have BK324 := Aside0.mk (hbox); have GW324 := Aside0.mk ((by rw [hg]; exact (below_size hb_) : w.heap.size ≤ gb324)); have GE324 := Aside0.mk ((by rw [hg]; exact (below_size hb_) : w.heap.size ≤ gb324)); replace HB := Aside0.mk (below_step hb_ hb); clear hb hbox hg) | ((with_reducible refine gate_dst (N := 4) rfl ?_); refine box_event ?hg (N := 4) ?hd (cs := #[.int .i64 a1]) (t := 2) ?hr ?_; (case hd => rfl); (case hg => rfl); (case hr => first | (go_simp; done) | (go_simp; rfl)); intro gb325 hg w10 hbox hb; have BK325 := Aside0.mk (hbox); have GW325 := Aside0.mk ((by rw [hg]; exact (below_size hbs_) : w.heap.size ≤ gb325)); have GE325 := Aside0.mk ((by rw [hg]; exact (below_size hbs_) : w.heap.size ≤ gb325)); replace HB := Aside0.mk (below_step hbs_ hb); have NB324_325 := Aside0.mk ((by rw [hg]; exact Nat.ne_of_lt (blk_lt (g := gb324) (o := .cells #[.int .i64 a0_0, .slice A0_1 l0_1.length c0_1] 29 (0, 0)) (blk_below BK324.out bgo_)) : gb324 ≠ gb325)); have NB325_324 := Aside0.mk ((by rw [hg]; exact Nat.ne_of_gt (blk_lt (g := gb324) (o := .cells #[.int .i64 a0_0, .slice A0_1 l0_1.length c0_1] 29 (0, 0)) (blk_below BK324.out bgo_)) : gb325 ≠ gb324)); replace BK324 := Aside0.mk (blk_below (g := gb324) (o := .cells #[.int .i64 a0_0, .slice A0_1 l0_1.length c0_1] 29 (0, 0)) (blk_below BK324.out bgo_) hb); clear hb hbox hg) | ((with_reducible refine gate_dst (N := 5) rfl ?_); refine box_event ?hg (N := 5) ?hd (cs := #[.int .i64 a2]) (t := 2) ?hr ?_; (case hd => rfl); (case hg => rfl); (case hr => first | (go_simp; done) | (go_simp; rfl)); intro gb326 hg w11 hbox hb; have BK326 := Aside0.mk (hbox); have GW326 := Aside0.mk ((by rw [hg]; exact (below_size hbs_) : w.heap.size ≤ gb326)); have GE326 := Aside0.mk ((by rw [hg]; exact (below_size hbs_) : w.heap.size ≤ gb326)); replace HB := Aside0.mk (below_step hbs_ hb); have NB324_326 := Aside0.mk ((by rw [hg]; exact Nat.ne_of_lt (blk_lt (g := gb324) (o := .cells #[.int .i64 a0_0, .slice A0_1 l0_1.length c0_1] 29 (0, 0)) (blk_below BK324.out bgo_)) : gb324 ≠ gb326)); have NB326_324 := Aside0.mk ((by rw [hg]; exact Nat.ne_of_gt (blk_lt (g := gb324) (o := .cells #[.int .i64 a0_0, .slice A0_1 l0_1.length c0_1] 29 (0, 0)) (blk_below BK324.out bgo_)) : gb326 ≠ gb324)); replace BK324 := Aside0.mk (blk_below (g := gb324) (o := .cells #[.int .i64 a0_0, .slice A0_1 l0_1.length c0_1] 29 (0, 0)) (blk_below BK324.out bgo_) hb); have NB325_326 := Aside0.mk ((by rw [hg]; exact Nat.ne_of_lt (blk_lt (g := gb325) (o := .cells #[.int .i64 a1] 2 (0, 0)) (blk_below BK325.out bgo_)) : gb325 ≠ gb326)); have NB326_325 := Aside0.mk ((by rw [hg]; exact Nat.ne_of_gt (blk_lt (g := gb325) (o := .cells #[.int .i64 a1] 2 (0, 0)) (blk_below BK325.out bgo_)) : gb326 ≠ gb325)); replace BK325 := Aside0.mk (blk_below (g := gb325) (o := .cells #[.int .i64 a1] 2 (0, 0)) (blk_below BK325.out bgo_) hb); clear hb hbox hg; have hnb12 := NB324_325.out; have hnc12 := NB325_324.out; have hnb13 := NB324_326.out; have hnc13 := NB326_324.out; have hcz14_0 : w11.cell? ⟨gb324, 0, none⟩ = some (.int .i64 a0_0) := (blk_cell BK324.out 0).trans rfl; have hcz14_1 : w11.cell? ⟨gb324, 1, none⟩ = some (.slice A0_1 l0_1.length c0_1) := (blk_cell BK324.out 1).trans rfl; have hfz14_0 := blk_frozen BK324.out 0; have hfz14_1 := blk_frozen BK324.out 1) | ((with_reducible refine gate_callee (f := 50) rfl ?_); refine goesL_ (some 14) rfl rfl Try.func50 (by kernel_rfl) rfl #[.agg #[.int .i64 a0_0, .slice A0_1 l0_1.length c0_1], .func (.func 66) #[] #[.pointer (some ⟨gb325, 0, none⟩), .pointer (some ⟨gb324, 0, none⟩), .pointer (some ⟨gb326, 0, none⟩)]] rfl arg_ ?_; (with_reducible refine (impl_graphCode_at_WalksFrom_1.calls k a0_0 _ _ l0_1 gb325 gb324 gb326 a1 a0_0 A0_1 c0_1 l0_1 a2 t327 _ ?side1 ?side2 ?side3 ?side4 ?side5 ?side6 ?side7 A4.out).mono ?_); (case side1 => exact Kd.C_below (Kd.C_below HR0_1.out HB.out) bgo_); (case side2 => exact HC0_1.out); (case side3 => exact (blk_below BK325.out bgo_)); (case side4 => exact (blk_below BK324.out bgo_)); (case side5 => exact (blk_below BK326.out bgo_)); (case side6 => exact Kd.C_below (Kd.C_below HR0_1.out HB.out) bgo_); (case side7 => exact HC0_1.out); rintro e w15 ⟨rfl, hb⟩; refine ⟨_, rfl, ?_⟩; replace BK324 := Aside0.mk (blk_below (g := gb324) (o := .cells #[.int .i64 a0_0, .slice A0_1 l0_1.length c0_1] 29 (0, 0)) (blk_below BK324.out bgo_) hb); replace BK325 := Aside0.mk (blk_below (g := gb325) (o := .cells #[.int .i64 a1] 2 (0, 0)) (blk_below BK325.out bgo_) hb); replace BK326 := Aside0.mk (blk_below (g := gb326) (o := .cells #[.int .i64 a2] 2 (0, 0)) (blk_below BK326.out bgo_) hb); replace HB := Aside0.mk (below_step hbs_ hb); (try clear hb); (try clear hb2); (try clear hk); (try clear hi)))
    have n0_ := Aside0.mk (blk_drew BK324.out)
    have n1_ := Aside0.mk (blk_drew BK325.out)
    have n2_ := Aside0.mk (blk_drew BK326.out)
    have n3_ := Aside0.mk (below_drew1 HB.out)
    clear BK324
    clear BK325
    clear BK326
    clear HB
    have BK324 := n0_
    have BK325 := n1_
    have BK326 := n2_
    have HB := n3_
    clear n0_ n1_ n2_ n3_
    refine start_ (n := 8) (S := fun w' => w'.cell? ⟨gb324, 0, none⟩ = some (.int .i64 a0_0) ∧ w'.cell? ⟨gb324, 1, none⟩ = some (.slice A0_1 l0_1.length c0_1) ∧ w'.cell? ⟨gb326, 0, none⟩ = some (.int .i64 a2) ∧ w'.cell? ⟨gb325, 0, none⟩ = some (.int .i64 a1)) (ds := []) #[false, false, false, false, false, false, false, false] (by kernel_rfl) rfl rfl ⟨(blk_cell BK324.out 0).trans rfl, (blk_cell BK324.out 1).trans rfl, (blk_cell BK326.out 0).trans rfl, (blk_cell BK325.out 0).trans rfl⟩ (fun hHeld => ?_); refine with_tabW impl_WalksFrom.tab5 impl_WalksFrom.bits5 (fun HT_ HW_ => ?_)
    generalize w15.drew = w16 at BK324 BK325 BK326 HB hHeld ⊢
    refine pk_ 7 8 25 128 ?_
    refine tk_ 0 8 18 129 hHeld ?_
    refine tk_ 1 8 19 131 hHeld ?_
    refine tk_ 3 8 21 139 hHeld ?_
    refine one_ (i := 2) (N := some 20) #[true, true, true, true, false, false, false, true] rfl rfl (one_of HT_.out (by kernel_rfl)) (by decide) (fun K hK => ?_)
    refine goes_ Try.func68 (by kernel_rfl) rfl #[.agg #[.int .i64 a0_0, .slice A0_1 l0_1.length c0_1], .int .i64 a2] (by rfl) rfl rfl arg_ ?_
    with_reducible refine (impl_Graph_walkMatrix.calls k a0_0 _ _ l0_1 a2 t328 _ ?side1 ?side2 A6.out).mono ?_
    (case side1 => exact Kd.C_below (Kd.C_below HR0_1.out HB.out) bgo_)
    (case side2 => exact HC0_1.out)
    rintro e w17 ⟨v329, rfl, ho0, hb⟩
    skip
    refine ⟨_, rfl, ?_⟩
    have n0_ := Aside0.mk (Kd.S_lower (Kd.S_newB (Kd.S_newB ho0 (g := gb325) (o := .cells #[.int .i64 a1] 2 (0, 0)) (blk_below BK325.out bgo_)) (g := gb326) (o := .cells #[.int .i64 a2] 2 (0, 0)) (blk_below BK326.out bgo_)) (below_size hbs_))
    have n1_ := Aside0.mk (blk_below (g := gb324) (o := .cells #[.int .i64 a0_0, .slice A0_1 l0_1.length c0_1] 29 (0, 0)) (blk_below BK324.out bgo_) hb)
    have n2_ := Aside0.mk (blk_below (g := gb325) (o := .cells #[.int .i64 a1] 2 (0, 0)) (blk_below BK325.out bgo_) hb)
    have n3_ := Aside0.mk (blk_below (g := gb326) (o := .cells #[.int .i64 a2] 2 (0, 0)) (blk_below BK326.out bgo_) hb)
    have n4_ := Aside0.mk (below_step hbs_ hb)
    clear BK324
    clear BK325
    clear BK326
    clear HB
    have HO330 := n0_
    have BK324 := n1_
    have BK325 := n2_
    have BK326 := n3_
    have HB := n4_
    clear n0_ n1_ n2_ n3_ n4_
    (try clear hb)
    (try clear hb2)
    (try clear hk)
    (try clear hi)
    (try clear ho0)
    obtain ⟨Ao18, co18, eo18⟩ := Kd.S_slice HO330.out
    (first | subst eo18 | (injection eo18 with f1_ f2_ f3_; have f4_ := f1_.symm; have f5_ := f3_.symm; clear f1_ f2_ f3_; subst f4_; subst f5_))
    have p331 : 0 ≤ (a1 : Int) := od_
    have q331 : a1 < (t328.length : Int) := od_
    obtain ⟨ad331, A331_0, c331_0, e331, hx331_0, hl331_0, hi331_0⟩ := at_L1 (Kd.S_reads' HO330.out).2.2 a1 p331 q331
    cases e331
    obtain ⟨ce331, hce331, hMe331, hcc331⟩ := Kd.S_get HO330.out [] a1 p331 (by first | exact q331 | exact od_ | (have e_ := (Kd.S_reads' HO330.out).1; omega))
    obtain ⟨ve331_0, rfl, ge331_0⟩ := hMe331
    have hv331_0 := hcc331 0 _ rfl
    rw [Nat.add_zero, show ((Kd.slice 2 (Kd.int .i64))).sz = 1 from rfl, Nat.mul_one] at hv331_0
    replace hv331_0 := Option.some.inj (hv331_0.symm.trans hx331_0)
    rw [hv331_0] at ge331_0
    have HL331_0 := Aside0.mk (show Kd.R (Kd.int .i64) 2 _ _ _ _ (rd_L1 t328 a1) from ge331_0)
    clear hv331_0 ge331_0
    clear hcc331 hce331
    have HR331_0 := Aside0.mk hi331_0
    have HC331_0 := Aside0.mk hl331_0
    clear hi331_0 hl331_0
    replace p331 := eq_true p331
    replace q331 := eq_true q331
    refine hK.out _ _ ⟨(blk_cell BK324.out 0).trans rfl, (blk_cell BK324.out 1).trans rfl, (blk_cell BK326.out 0).trans rfl, (blk_cell BK325.out 0).trans rfl⟩ (fun hHeld => ?_)
    clear hK K
    refine norm_ (a' := ?_) ?_ ?_
    rotate_left
    · show Act.put _ (some 20) _ = _
      simp only [Act.put, nf_]
      rfl
    refine grown_ (S' := fun w' => w'.cell? ⟨gb324, 0, none⟩ = some (.int .i64 a0_0) ∧ w'.cell? ⟨gb324, 1, none⟩ = some (.slice A0_1 l0_1.length c0_1) ∧ w'.cell? ⟨gb326, 0, none⟩ = some (.int .i64 a2) ∧ w'.cell? ⟨gb325, 0, none⟩ = some (.int .i64 a1) ∧ w'.cell? (ad331.add (a1).toNat) = some (.slice A331_0 (rd_L1 t328 a1).length c331_0)) (fun w' h_ => ⟨h_.1, h_.2.1, h_.2.2.1, h_.2.2.2.1⟩) ⟨(blk_cell BK324.out 0).trans rfl, (blk_cell BK324.out 1).trans rfl, (blk_cell BK326.out 0).trans rfl, (blk_cell BK325.out 0).trans rfl, hx331_0⟩ (fun hHeld => ?_)
    refine pk_ 4 8 22 159 ?_
    refine tk_ 5 8 23 191 hHeld ?_
    refine pk_ 6 8 24 255 ?_
    refine done_ (done_of HT_.out (by kernel_rfl)) ?_
    try go_wp2
    go_loopg [9, 25] k (fun kq v9 v25 w' => ∃ (x9_1 : Int) (x25_1 : Int), v9 = .int .i64 x9_1 ∧ v25 = .int .i64 x25_1 ∧ Aside0 (impl_WalksFrom.l0 kq x9_1 (rd_L1 t328 a1) ((rd_L1 t328 a1).length : Int) x25_1 a0_0 l0_1 a1 a2 = some (r1, r2)) ∧ Aside0 (kq ≤ k) ∧ Aside0 (w'.heap[gb324]? = some (.cells #[.int .i64 a0_0, (.slice A0_1 l0_1.length c0_1)] 29 (0, 0))) ∧ Aside0 (w'.heap[gb325]? = some (.cells #[.int .i64 a1] 2 (0, 0))) ∧ Aside0 (w'.heap[gb326]? = some (.cells #[.int .i64 a2] 2 (0, 0))) ∧ Aside0 (Kd.C (Kd.int .i64) w' A331_0 (rd_L1 t328 a1).length (rd_L1 t328 a1)) ∧ Aside0 (Below w.heap.size w w'))
    case atStart => exact ⟨(0), (0), es_, es_, H', ⟨Nat.le_refl _⟩, ⟨blk_below BK324.out bgo_⟩, ⟨blk_below BK325.out bgo_⟩, ⟨blk_below BK326.out bgo_⟩, ⟨by repeat (first | (with_reducible exact HR331_0.out) | (with_reducible refine Kd.C_alloc ?_ _) | (with_reducible refine Kd.C_drewN ?_ _) | (with_reducible refine Kd.C_drew ?_) | exact HR331_0.out)⟩, ⟨hbs_⟩⟩
    case round =>
      clear H'
      obtain ⟨x9_1, x25_1, rfl, rfl, HA, HK1, BK324, BK325, BK326, HR331_0, HB⟩ := hrel
      cases gk with
      | zero => exact absurd HA.out (by simp [impl_WalksFrom.l0])
      | succ k1 =>
        have H := HA.out
        clear HA
        simp only [impl_WalksFrom.l0] at H
        by_cases c19 : x25_1 < ((rd_L1 t328 a1).length : Int)
        · rw [if_pos c19] at H
          have c19b0 := decide_eq_true c19
          clear c19
          obtain ⟨c20, H⟩ := itn_ H
          have c20b0 := decide_eq_true c20
          clear c20
          obtain ⟨c21, H⟩ := itn_ H
          have c21b0 := decide_eq_true c21
          clear c21
          have H' := Aside0.mk H
          clear H
          have p332 : 0 ≤ (x25_1 : Int) := od_
          have q332 : x25_1 < ((rd_L1 t328 a1).length : Int) := od_
          obtain ⟨ad332, e332, hx332_0⟩ := Kd.at_int HR331_0.out x25_1 p332 q332
          cases e332
          (try replace hx332_0 := (HB.out.cell (World.block_lt_of_cell? w _ hx332_0)).trans hx332_0)
          replace p332 := eq_true p332
          replace q332 := eq_true q332
          go_wp2
          go_roundg k1
          case measure => have := HK1.out; omega
          case rel => exact ⟨(wrap64 (x9_1 + (rd (rd_L1 t328 a1) x25_1))), (wrap64 (x25_1 + 1)), es_, es_, H', ⟨by have := HK1.out; omega⟩, ⟨blk_below BK324.out bgo_⟩, ⟨blk_below BK325.out bgo_⟩, ⟨blk_below BK326.out bgo_⟩, ⟨by repeat (first | (with_reducible exact HR331_0.out) | (with_reducible refine Kd.C_alloc ?_ _) | (with_reducible refine Kd.C_drewN ?_ _) | (with_reducible refine Kd.C_drew ?_) | exact HR331_0.out)⟩, ⟨hbs_⟩⟩
        · rw [if_neg c19] at H
          have c19b0 := decide_eq_false c19
          clear c19
          by_cases c22 : x9_1 > 400
          · rw [if_pos c22] at H
            have c22b0 := decide_eq_true c22
            clear c22
            simp only [Option.some.injEq, Prod.mk.injEq] at H
            obtain ⟨rfl, rfl⟩ := H
            go_wp2
            go_ret2
            exact ⟨_, er_, by first | exact Kd.S_nil _ _ _ _ _ | exact Kd.N_nil _ _ _ _ _ | exact Kd.V_nil _ _ _ _ _ | exact Kd.Q_nil _ _ _ _ _ | exact Kd.R_nil _ _ _ _ _, hbs_⟩
          · rw [if_neg c22] at H
            have c22b0 := decide_eq_false c22
            clear c22
            obtain ⟨t333, A23, H⟩ := bnd_ H
            simp only [Option.some.injEq, Prod.mk.injEq] at H
            obtain ⟨rfl, rfl⟩ := H
            have hnb24 := NB324_325.out
            have hnc24 := NB325_324.out
            have hnb25 := NB324_326.out
            have hnc25 := NB326_324.out
            have hcz26_0 : wr.cell? ⟨gb324, 0, none⟩ = some (.int .i64 a0_0) := (blk_cell BK324.out 0).trans rfl
            have hcz26_1 : wr.cell? ⟨gb324, 1, none⟩ = some (.slice A0_1 l0_1.length c0_1) := (blk_cell BK324.out 1).trans rfl
            have hfz26_0 := blk_frozen BK324.out 0
            have hfz26_1 := blk_frozen BK324.out 1
            have hnb27 := NB326_325.out
            have hnc27 := NB325_326.out
            have hcz28_0 : wr.cell? ⟨gb326, 0, none⟩ = some (.int .i64 a2) := (blk_cell BK326.out 0).trans rfl
            have hfz28_0 := blk_frozen BK326.out 0
            go_wp2_with (first | ((with_reducible refine gate_callee (f := 69) rfl ?_); refine goesL_ (some 38) rfl rfl Try.func69 (by kernel_rfl) rfl #[.agg #[.int .i64 a0_0, .slice A0_1 l0_1.length c0_1], .int .i64 a2, .func (.func 70) #[] #[.pointer (some ⟨gb324, 0, none⟩), .pointer (some ⟨gb325, 0, none⟩)], .func (.func 72) #[] #[]] rfl arg_ ?_; (with_reducible refine (impl_Graph_walks_at_WalksFrom_2_at_WalksFrom_3.calls a0_0 _ _ l0_1 a2 gb324 gb325 a0_0 A0_1 c0_1 l0_1 a1  t333 _ ?side1 ?side2 ?side3 ?side4 ?side5 ?side6 A23.out).mono ?_); (case side1 => exact Kd.C_below (Kd.C_below HR0_1.out HB.out) bgo_); (case side2 => exact HC0_1.out); (case side3 => exact (blk_below BK324.out bgo_)); (case side4 => exact (blk_below BK325.out bgo_)); (case side5 => exact Kd.C_below (Kd.C_below HR0_1.out HB.out) bgo_); (case side6 => exact HC0_1.out); rintro e w29 ⟨v334, rfl, ho0, hb⟩; refine ⟨_, rfl, ?_⟩; have HO335 := Aside0.mk (Kd.S_lower (Kd.S_newB (Kd.S_newB ho0 (g := gb325) (o := .cells #[.int .i64 a1] 2 (0, 0)) (blk_below BK325.out bgo_)) (g := gb326) (o := .cells #[.int .i64 a2] 2 (0, 0)) (blk_below BK326.out bgo_)) (below_size hbs_)); replace BK324 := Aside0.mk (blk_below (g := gb324) (o := .cells #[.int .i64 a0_0, .slice A0_1 l0_1.length c0_1] 29 (0, 0)) (blk_below BK324.out bgo_) hb); replace BK325 := Aside0.mk (blk_below (g := gb325) (o := .cells #[.int .i64 a1] 2 (0, 0)) (blk_below BK325.out bgo_) hb); replace BK326 := Aside0.mk (blk_below (g := gb326) (o := .cells #[.int .i64 a2] 2 (0, 0)) (blk_below BK326.out bgo_) hb); replace HR331_0 := Aside0.mk (Kd.C_below (by repeat (first | (with_reducible exact HR331_0.out) | (with_reducible refine Kd.C_alloc ?_ _) | (with_reducible refine Kd.C_drewN ?_ _) | (with_reducible refine Kd.C_drew ?_) | exact HR331_0.out)) hb); replace HB := Aside0.mk (below_step hbs_ hb); (try clear hb); (try clear hb2); (try clear hk); (try clear hi); (try clear ho0)))
            go_ret2
            exact ⟨_, er_, by (with_reducible repeat (first | apply Kd.S_alloc | apply Kd.S_drewN | apply Kd.S_drew)); exact Kd.S_mono HO335.out (fun _ hk => trivial), hbs_⟩
  · rw [if_neg c5] at H
    have c5b0 : (t327 == 0) = false := beq_eq_false_iff_ne.mpr c5
    have c5b1 : (t327 != 0) = true := bne_iff_ne.mpr c5
    simp only [Option.some.injEq, Prod.mk.injEq] at H
    obtain ⟨rfl, rfl⟩ := H
    go_enter Try.func25, Try.ntmps25
    go_wp2_with (first | ((with_reducible refine gate_dst (N := 3) rfl ?_); refine box_event ?hg (N := 3) ?hd (cs := #[.int .i64 a0_0, .slice A0_1 l0_1.length c0_1]) (t := 29) ?hr ?_; (case hd => rfl); (case hg => rfl); (case hr => first | (go_simp; done) | (go_simp; rfl)); intro gb324 hg w30 hbox hb; have BK324 := Aside0.mk (hbox); have GW324 := Aside0.mk ((by rw [hg]; exact (below_size hb_) : w.heap.size ≤ gb324)); have GE324 := Aside0.mk ((by rw [hg]; exact (below_size hb_) : w.heap.size ≤ gb324)); replace HB := Aside0.mk (below_step hb_ hb); clear hb hbox hg) | ((with_reducible refine gate_dst (N := 4) rfl ?_); refine box_event ?hg (N := 4) ?hd (cs := #[.int .i64 a1]) (t := 2) ?hr ?_; (case hd => rfl); (case hg => rfl); (case hr => first | (go_simp; done) | (go_simp; rfl)); intro gb325 hg w31 hbox hb; have BK325 := Aside0.mk (hbox); have GW325 := Aside0.mk ((by rw [hg]; exact (below_size hbs_) : w.heap.size ≤ gb325)); have GE325 := Aside0.mk ((by rw [hg]; exact (below_size hbs_) : w.heap.size ≤ gb325)); replace HB := Aside0.mk (below_step hbs_ hb); have NB324_325 := Aside0.mk ((by rw [hg]; exact Nat.ne_of_lt (blk_lt (g := gb324) (o := .cells #[.int .i64 a0_0, .slice A0_1 l0_1.length c0_1] 29 (0, 0)) (blk_below BK324.out bgo_)) : gb324 ≠ gb325)); have NB325_324 := Aside0.mk ((by rw [hg]; exact Nat.ne_of_gt (blk_lt (g := gb324) (o := .cells #[.int .i64 a0_0, .slice A0_1 l0_1.length c0_1] 29 (0, 0)) (blk_below BK324.out bgo_)) : gb325 ≠ gb324)); replace BK324 := Aside0.mk (blk_below (g := gb324) (o := .cells #[.int .i64 a0_0, .slice A0_1 l0_1.length c0_1] 29 (0, 0)) (blk_below BK324.out bgo_) hb); clear hb hbox hg) | ((with_reducible refine gate_dst (N := 5) rfl ?_); refine box_event ?hg (N := 5) ?hd (cs := #[.int .i64 a2]) (t := 2) ?hr ?_; (case hd => rfl); (case hg => rfl); (case hr => first | (go_simp; done) | (go_simp; rfl)); intro gb326 hg w32 hbox hb; have BK326 := Aside0.mk (hbox); have GW326 := Aside0.mk ((by rw [hg]; exact (below_size hbs_) : w.heap.size ≤ gb326)); have GE326 := Aside0.mk ((by rw [hg]; exact (below_size hbs_) : w.heap.size ≤ gb326)); replace HB := Aside0.mk (below_step hbs_ hb); have NB324_326 := Aside0.mk ((by rw [hg]; exact Nat.ne_of_lt (blk_lt (g := gb324) (o := .cells #[.int .i64 a0_0, .slice A0_1 l0_1.length c0_1] 29 (0, 0)) (blk_below BK324.out bgo_)) : gb324 ≠ gb326)); have NB326_324 := Aside0.mk ((by rw [hg]; exact Nat.ne_of_gt (blk_lt (g := gb324) (o := .cells #[.int .i64 a0_0, .slice A0_1 l0_1.length c0_1] 29 (0, 0)) (blk_below BK324.out bgo_)) : gb326 ≠ gb324)); replace BK324 := Aside0.mk (blk_below (g := gb324) (o := .cells #[.int .i64 a0_0, .slice A0_1 l0_1.length c0_1] 29 (0, 0)) (blk_below BK324.out bgo_) hb); have NB325_326 := Aside0.mk ((by rw [hg]; exact Nat.ne_of_lt (blk_lt (g := gb325) (o := .cells #[.int .i64 a1] 2 (0, 0)) (blk_below BK325.out bgo_)) : gb325 ≠ gb326)); have NB326_325 := Aside0.mk ((by rw [hg]; exact Nat.ne_of_gt (blk_lt (g := gb325) (o := .cells #[.int .i64 a1] 2 (0, 0)) (blk_below BK325.out bgo_)) : gb326 ≠ gb325)); replace BK325 := Aside0.mk (blk_below (g := gb325) (o := .cells #[.int .i64 a1] 2 (0, 0)) (blk_below BK325.out bgo_) hb); clear hb hbox hg; have hnb33 := NB324_325.out; have hnc33 := NB325_324.out; have hnb34 := NB324_326.out; have hnc34 := NB326_324.out; have hcz35_0 : w32.cell? ⟨gb324, 0, none⟩ = some (.int .i64 a0_0) := (blk_cell BK324.out 0).trans rfl; have hcz35_1 : w32.cell? ⟨gb324, 1, none⟩ = some (.slice A0_1 l0_1.length c0_1) := (blk_cell BK324.out 1).trans rfl; have hfz35_0 := blk_frozen BK324.out 0; have hfz35_1 := blk_frozen BK324.out 1) | ((with_reducible refine gate_callee (f := 50) rfl ?_); refine goesL_ (some 14) rfl rfl Try.func50 (by kernel_rfl) rfl #[.agg #[.int .i64 a0_0, .slice A0_1 l0_1.length c0_1], .func (.func 66) #[] #[.pointer (some ⟨gb325, 0, none⟩), .pointer (some ⟨gb324, 0, none⟩), .pointer (some ⟨gb326, 0, none⟩)]] rfl arg_ ?_; (with_reducible refine (impl_graphCode_at_WalksFrom_1.calls k a0_0 _ _ l0_1 gb325 gb324 gb326 a1 a0_0 A0_1 c0_1 l0_1 a2 t327 _ ?side1 ?side2 ?side3 ?side4 ?side5 ?side6 ?side7 A4.out).mono ?_); (case side1 => exact Kd.C_below (Kd.C_below HR0_1.out HB.out) bgo_); (case side2 => exact HC0_1.out); (case side3 => exact (blk_below BK325.out bgo_)); (case side4 => exact (blk_below BK324.out bgo_)); (case side5 => exact (blk_below BK326.out bgo_)); (case side6 => exact Kd.C_below (Kd.C_below HR0_1.out HB.out) bgo_); (case side7 => exact HC0_1.out); rintro e w36 ⟨rfl, hb⟩; refine ⟨_, rfl, ?_⟩; replace BK324 := Aside0.mk (blk_below (g := gb324) (o := .cells #[.int .i64 a0_0, .slice A0_1 l0_1.length c0_1] 29 (0, 0)) (blk_below BK324.out bgo_) hb); replace BK325 := Aside0.mk (blk_below (g := gb325) (o := .cells #[.int .i64 a1] 2 (0, 0)) (blk_below BK325.out bgo_) hb); replace BK326 := Aside0.mk (blk_below (g := gb326) (o := .cells #[.int .i64 a2] 2 (0, 0)) (blk_below BK326.out bgo_) hb); replace HB := Aside0.mk (below_step hbs_ hb); (try clear hb); (try clear hb2); (try clear hk); (try clear hi)))
    go_ret2
    exact ⟨_, er_, by first | exact Kd.S_nil _ _ _ _ _ | exact Kd.N_nil _ _ _ _ _ | exact Kd.V_nil _ _ _ _ _ | exact Kd.Q_nil _ _ _ _ _ | exact Kd.R_nil _ _ _ _ _, hbs_⟩

/-! ### laws_heldInt64S: function 18 -/
def laws_heldInt64S.l0 : Nat → List Int → Int → Int → Option (Int)
  | 0, _, _, _ => none
  | k + 1, x0, x1, x5 => if x5 < (x0.length : Int) then (if 0 ≤ x5 then (if (rd x0 x5) = x1 then (laws_heldInt64S.l0 k x0 (wrap64 (x1 + 1)) (wrap64 (x5 + 1))) else (some (-1))) else (none)) else (some x1)
def laws_heldInt64S.f (k : Nat) (l0 : List Int) (a1 : Int) : Option (Int) := laws_heldInt64S.l0 k l0 a1 0
set_option maxHeartbeats 8000000 in
set_option maxRecDepth 100000 in
theorem laws_heldInt64S.calls (k : Nat) (A0 : Option Addr) (c0 : Nat) (l0 : List Int) (a1 : Int) (r : Int) (w : World) (hr0 : Kd.C (Kd.int .i64) w A0 l0.length l0) (hc0 : l0.length ≤ c0) (h : laws_heldInt64S.f k l0 a1 = some r) :
    Calls Try.prog 18 #[.slice A0 l0.length c0, .int .i64 a1] w fun e w' => e = .returned (.int .i64 r) ∧ Drawn0 w w' := by
  have HR0 := Aside0.mk hr0
  have HC0 := Aside0.mk hc0
  clear hr0 hc0
  have H : (laws_heldInt64S.l0 k l0 a1 0) = some r := h
  clear h
  have H' := Aside0.mk H
  clear H
  go_enter Try.func18, Try.ntmps18
  go_wp2
  go_loopg [1, 5] k (fun kq v1 v5 w' => ∃ (x1_1 : Int) (x5_1 : Int), v1 = .int .i64 x1_1 ∧ v5 = .int .i64 x5_1 ∧ Aside0 (laws_heldInt64S.l0 kq l0 x1_1 x5_1 = some r) ∧ Aside0 (kq ≤ k) ∧ Drawn0 w w')
  case atStart => exact ⟨(a1), (0), es_, es_, H', ⟨Nat.le_refl _⟩, by repeat (first | exact Drawn0.refl _ | apply Drawn0.step)⟩
  case round =>
    clear H'
    obtain ⟨x1_1, x5_1, rfl, rfl, HA, HK1, ⟨m1, rfl⟩⟩ := hrel
    cases gk with
    | zero => exact absurd HA.out (by simp [laws_heldInt64S.l0])
    | succ k1 =>
      have H := HA.out
      clear HA
      simp only [laws_heldInt64S.l0] at H
      by_cases c3 : x5_1 < (l0.length : Int)
      · rw [if_pos c3] at H
        have c3b0 := decide_eq_true c3
        clear c3
        obtain ⟨c4, H⟩ := itn_ H
        have c4b0 := decide_eq_true c4
        clear c4
        by_cases c5 : (rd l0 x5_1) = x1_1
        · rw [if_pos c5] at H
          have c5b0 : ((rd l0 x5_1) == x1_1) = true := beq_iff_eq.mpr c5
          have c5b1 : ((rd l0 x5_1) != x1_1) = false := bne_eq_false_iff_eq.mpr c5
          clear c5
          have H' := Aside0.mk H
          clear H
          have p336 : 0 ≤ (x5_1 : Int) := od_
          have q336 : x5_1 < (l0.length : Int) := od_
          obtain ⟨ad336, e336, hx336_0⟩ := Kd.at_int HR0.out x5_1 p336 q336
          cases e336
          replace p336 := eq_true p336
          replace q336 := eq_true q336
          go_wp2
          go_roundg k1
          case measure => have := HK1.out; omega
          case rel => exact ⟨(wrap64 (x1_1 + 1)), (wrap64 (x5_1 + 1)), es_, es_, H', ⟨by have := HK1.out; omega⟩, by repeat (first | exact Drawn0.refl _ | apply Drawn0.step)⟩
        · rw [if_neg c5] at H
          have c5b0 : ((rd l0 x5_1) == x1_1) = false := beq_eq_false_iff_ne.mpr c5
          have c5b1 : ((rd l0 x5_1) != x1_1) = true := bne_iff_ne.mpr c5
          obtain rfl := Option.some.inj H
          have p336 : 0 ≤ (x5_1 : Int) := od_
          have q336 : x5_1 < (l0.length : Int) := od_
          obtain ⟨ad336, e336, hx336_0⟩ := Kd.at_int HR0.out x5_1 p336 q336
          cases e336
          replace p336 := eq_true p336
          replace q336 := eq_true q336
          go_wp2
          go_ret
          exact ⟨es_, by repeat (first | exact Drawn0.refl _ | apply Drawn0.step)⟩
      · rw [if_neg c3] at H
        have c3b0 := decide_eq_false c3
        clear c3
        obtain rfl := Option.some.inj H
        go_wp2
        go_ret
        exact ⟨es_, by repeat (first | exact Drawn0.refl _ | apply Drawn0.step)⟩

/-! ### laws_heldInt64SS: function 28 -/
def laws_heldInt64SS.l0 : Nat → List (List Int) → Int → Int → Option (Int)
  | 0, _, _, _ => none
  | k + 1, x0, x1, x5 => if x5 < (x0.length : Int) then (if 0 ≤ x5 then ((laws_heldInt64S.f k (rd_L1 x0 x5) x1).bind fun t338 => (if t338 < 0 then (some (-1)) else (laws_heldInt64SS.l0 k x0 t338 (wrap64 (x5 + 1))))) else (none)) else (some x1)
def laws_heldInt64SS.f (k : Nat) (l0 : List (List Int)) (a1 : Int) : Option (Int) := laws_heldInt64SS.l0 k l0 a1 0
set_option maxHeartbeats 8000000 in
set_option maxRecDepth 100000 in
theorem laws_heldInt64SS.calls (k : Nat) (A0 : Option Addr) (c0 : Nat) (l0 : List (List Int)) (a1 : Int) (r : Int) (w : World) (hr0 : Kd.C (Kd.slice 2 (Kd.int .i64)) w A0 l0.length l0) (hc0 : l0.length ≤ c0) (h : laws_heldInt64SS.f k l0 a1 = some r) :
    Calls Try.prog 28 #[.slice A0 l0.length c0, .int .i64 a1] w fun e w' => e = .returned (.int .i64 r) ∧ Drawn0 w w' := by
  have HR0 := Aside0.mk hr0
  have HC0 := Aside0.mk hc0
  clear hr0 hc0
  have H : (laws_heldInt64SS.l0 k l0 a1 0) = some r := h
  clear h
  have H' := Aside0.mk H
  clear H
  go_enter Try.func28, Try.ntmps28
  go_wp2
  go_loopg [1, 5] k (fun kq v1 v5 w' => ∃ (x1_1 : Int) (x5_1 : Int), v1 = .int .i64 x1_1 ∧ v5 = .int .i64 x5_1 ∧ Aside0 (laws_heldInt64SS.l0 kq l0 x1_1 x5_1 = some r) ∧ Aside0 (kq ≤ k) ∧ Drawn0 w w')
  case atStart => exact ⟨(a1), (0), es_, es_, H', ⟨Nat.le_refl _⟩, by repeat (first | exact Drawn0.refl _ | apply Drawn0.step)⟩
  case round =>
    clear H'
    obtain ⟨x1_1, x5_1, rfl, rfl, HA, HK1, ⟨m1, rfl⟩⟩ := hrel
    cases gk with
    | zero => exact absurd HA.out (by simp [laws_heldInt64SS.l0])
    | succ k1 =>
      have H := HA.out
      clear HA
      simp only [laws_heldInt64SS.l0] at H
      by_cases c3 : x5_1 < (l0.length : Int)
      · rw [if_pos c3] at H
        have c3b0 := decide_eq_true c3
        clear c3
        obtain ⟨c4, H⟩ := itn_ H
        have c4b0 := decide_eq_true c4
        clear c4
        obtain ⟨t338, A5, H⟩ := bnd_ H
        by_cases c6 : t338 < 0
        · rw [if_pos c6] at H
          have c6b0 := decide_eq_true c6
          clear c6
          obtain rfl := Option.some.inj H
          have p337 : 0 ≤ (x5_1 : Int) := od_
          have q337 : x5_1 < (l0.length : Int) := od_
          obtain ⟨ad337, A337_0, c337_0, e337, hx337_0, hl337_0, hi337_0⟩ := at_L1 HR0.out x5_1 p337 q337
          cases e337
          have HR337_0 := Aside0.mk hi337_0
          have HC337_0 := Aside0.mk hl337_0
          clear hi337_0 hl337_0
          replace p337 := eq_true p337
          replace q337 := eq_true q337
          go_wp2_with (first | ((with_reducible refine gate_callee (f := 18) rfl ?_); refine goesL_ (some 17) rfl rfl Try.func18 (by kernel_rfl) rfl #[.slice A337_0 (rd_L1 l0 x5_1).length c337_0, .int .i64 x1_1] rfl arg_ ?_; (with_reducible refine (laws_heldInt64S.calls k1 _ _ (rd_L1 l0 x5_1) x1_1 t338 _ ?side1 ?side2 A5.out).mono ?_); (case side1 => exact Kd.C_below HR337_0.out bgo_); (case side2 => exact HC337_0.out); rintro e w' ⟨rfl, ⟨nd, rfl⟩⟩; refine ⟨_, rfl, ?_⟩))
          go_ret
          exact ⟨es_, by repeat (first | exact Drawn0.refl _ | apply Drawn0.step)⟩
        · rw [if_neg c6] at H
          have c6b0 := decide_eq_false c6
          clear c6
          have H' := Aside0.mk H
          clear H
          have p337 : 0 ≤ (x5_1 : Int) := od_
          have q337 : x5_1 < (l0.length : Int) := od_
          obtain ⟨ad337, A337_0, c337_0, e337, hx337_0, hl337_0, hi337_0⟩ := at_L1 HR0.out x5_1 p337 q337
          cases e337
          have HR337_0 := Aside0.mk hi337_0
          have HC337_0 := Aside0.mk hl337_0
          clear hi337_0 hl337_0
          replace p337 := eq_true p337
          replace q337 := eq_true q337
          go_wp2_with (first | ((with_reducible refine gate_callee (f := 18) rfl ?_); refine goesL_ (some 17) rfl rfl Try.func18 (by kernel_rfl) rfl #[.slice A337_0 (rd_L1 l0 x5_1).length c337_0, .int .i64 x1_1] rfl arg_ ?_; (with_reducible refine (laws_heldInt64S.calls k1 _ _ (rd_L1 l0 x5_1) x1_1 t338 _ ?side1 ?side2 A5.out).mono ?_); (case side1 => exact Kd.C_below HR337_0.out bgo_); (case side2 => exact HC337_0.out); rintro e w' ⟨rfl, ⟨nd, rfl⟩⟩; refine ⟨_, rfl, ?_⟩))
          go_roundg k1
          case measure => have := HK1.out; omega
          case rel => exact ⟨(t338), (wrap64 (x5_1 + 1)), es_, es_, H', ⟨by have := HK1.out; omega⟩, by repeat (first | exact Drawn0.refl _ | apply Drawn0.step)⟩
      · rw [if_neg c3] at H
        have c3b0 := decide_eq_false c3
        clear c3
        obtain rfl := Option.some.inj H
        go_wp2
        go_ret
        exact ⟨es_, by repeat (first | exact Drawn0.refl _ | apply Drawn0.step)⟩

/-! ### laws_FnExactWalksFrom: function 6 -/
def laws_FnExactWalksFrom.f (k : Nat) (a0_0 : Int) (l0_1 : List (List Int)) (a1 : Int) (a2 : Int) : Option (Bool) := (laws_szGraph.f k a0_0 l0_1 1048576).bind fun t340 => (if t340 < 0 then (some true) else ((laws_toGraph.f k a0_0 l0_1).bind fun bt341 => ((spec_WalksFrom.f k bt341.1 bt341.2 a1 a2).bind fun bt345 => ((laws_toGraph.f k a0_0 l0_1).bind fun bt349 => ((impl_WalksFrom.f k bt349.1 bt349.2 a1 a2).bind fun bt354 => ((laws_eqInt64SS.f k bt354.1 bt345.1).bind fun t358 => (if t358 = true then (if bt354.2 = bt345.2 then ((laws_toGraph.f k a0_0 l0_1).bind fun bt359 => ((laws_eqGraph.f k bt349.1 bt349.2 bt359.1 bt359.2).bind fun t363 => (if t363 = true then ((laws_markGraph.f k bt349.1 bt349.2 1).bind fun bt364 => (if bt364.1 < 0 then (some false) else ((laws_eqInt64SS.f k bt354.1 bt345.1).bind fun t366 => (if t366 = true then ((laws_markInt64SS.f k bt354.1 1).bind fun bt367 => ((laws_heldInt64SS.f k bt367.2 1).bind fun t369 => (if t369 < 0 then (some false) else (if t369 = bt367.1 then ((laws_toGraph.f k a0_0 l0_1).bind fun bt370 => ((impl_WalksFrom.f k bt370.1 bt370.2 a1 a2).bind fun bt374 => ((laws_eqInt64SS.f k bt374.1 bt345.1).bind fun t378 => (if t378 = true then (if bt374.2 = bt345.2 then ((laws_heldInt64SS.f k bt367.2 1).bind fun t379 => (if t379 < 0 then (some false) else (if t379 = bt367.1 then (some true) else (some false)))) else (some false)) else (some false))))) else (some false))))) else (some false))))) else (some false)))) else (some false)) else (some false))))))))
set_option maxHeartbeats 8000000 in
set_option maxRecDepth 100000 in
theorem laws_FnExactWalksFrom.calls (k : Nat) (a0_0 : Int) (A0_1 : Option Addr) (c0_1 : Nat) (l0_1 : List (List Int)) (a1 : Int) (a2 : Int) (w : World) (hr0_1 : Kd.C (Kd.slice 2 (Kd.int .i64)) w A0_1 l0_1.length l0_1) (hc0_1 : l0_1.length ≤ c0_1) (h : laws_FnExactWalksFrom.f k a0_0 l0_1 a1 a2 = some true) :
    Calls Try.prog 6 #[.agg #[.int .i64 a0_0, .slice A0_1 l0_1.length c0_1], .int .i64 a1, .int .i64 a2] w fun e w' => e = .returned (.bool true) ∧ Below w.heap.size w w' := by
  have hu24 := Try.underlying24
  have hu29 := Try.underlying29
  have HR0_1 := Aside0.mk hr0_1
  have HC0_1 := Aside0.mk hc0_1
  clear hr0_1 hc0_1
  have HB := Aside0.mk (Below.refl w.heap.size w)
  have H : ((laws_szGraph.f k a0_0 l0_1 1048576).bind fun t340 => (if t340 < 0 then (some true) else ((laws_toGraph.f k a0_0 l0_1).bind fun bt341 => ((spec_WalksFrom.f k bt341.1 bt341.2 a1 a2).bind fun bt345 => ((laws_toGraph.f k a0_0 l0_1).bind fun bt349 => ((impl_WalksFrom.f k bt349.1 bt349.2 a1 a2).bind fun bt354 => ((laws_eqInt64SS.f k bt354.1 bt345.1).bind fun t358 => (if t358 = true then (if bt354.2 = bt345.2 then ((laws_toGraph.f k a0_0 l0_1).bind fun bt359 => ((laws_eqGraph.f k bt349.1 bt349.2 bt359.1 bt359.2).bind fun t363 => (if t363 = true then ((laws_markGraph.f k bt349.1 bt349.2 1).bind fun bt364 => (if bt364.1 < 0 then (some false) else ((laws_eqInt64SS.f k bt354.1 bt345.1).bind fun t366 => (if t366 = true then ((laws_markInt64SS.f k bt354.1 1).bind fun bt367 => ((laws_heldInt64SS.f k bt367.2 1).bind fun t369 => (if t369 < 0 then (some false) else (if t369 = bt367.1 then ((laws_toGraph.f k a0_0 l0_1).bind fun bt370 => ((impl_WalksFrom.f k bt370.1 bt370.2 a1 a2).bind fun bt374 => ((laws_eqInt64SS.f k bt374.1 bt345.1).bind fun t378 => (if t378 = true then (if bt374.2 = bt345.2 then ((laws_heldInt64SS.f k bt367.2 1).bind fun t379 => (if t379 < 0 then (some false) else (if t379 = bt367.1 then (some true) else (some false)))) else (some false)) else (some false))))) else (some false))))) else (some false))))) else (some false)))) else (some false)) else (some false))))))))) = some true := h
  clear h
  obtain ⟨t340, A4, H⟩ := bnd_ H
  by_cases c5 : t340 < 0
  · rw [if_pos c5] at H
    have c5b0 := decide_eq_true c5
    clear c5
    go_enter Try.func6, Try.ntmps6
    go_wp2_with (first | ((with_reducible refine gate_dst (N := 3) rfl ?_); refine box_event ?hg (N := 3) ?hd (cs := #[.int .i64 a0_0, .slice A0_1 l0_1.length c0_1]) (t := 24) ?hr ?_; (case hd => rfl); (case hg => rfl); (case hr => first | (go_simp; done) | (go_simp; rfl)); intro gb339 hg w6 hbox hb; have Zw6 := Aside0.mk (hb.size); have ZB339 := Aside0.mk ((⟨Nat.le_of_eq hg.symm, blk_lt hbox⟩ : w.heap.size ≤ gb339 ∧ gb339 < w6.heap.size)); have BK339 := Aside0.mk (hbox); have GW339 := Aside0.mk ((by rw [hg]; exact (below_size hb_) : w.heap.size ≤ gb339)); have GE339 := Aside0.mk ((by rw [hg]; exact (below_size hb_) : w.heap.size ≤ gb339)); replace HB := Aside0.mk (below_step hb_ hb); clear hb hbox hg; have hcz7_0 : w6.cell? ⟨gb339, 0, none⟩ = some (.int .i64 a0_0) := (blk_cell BK339.out 0).trans rfl; have hcz7_1 : w6.cell? ⟨gb339, 1, none⟩ = some (.slice A0_1 l0_1.length c0_1) := (blk_cell BK339.out 1).trans rfl; have hfz7_0 := blk_frozen BK339.out 0; have hfz7_1 := blk_frozen BK339.out 1) | ((with_reducible refine gate_callee (f := 10) rfl ?_); refine goesL_ (some 20) rfl rfl Try.func10 (by kernel_rfl) rfl #[.agg #[.int .i64 a0_0, .slice A0_1 l0_1.length c0_1], .int .i64 1048576] rfl (by (try simp only [List.map_toArray, List.map_cons, List.map_nil]); first | done | rfl) ?_; (with_reducible refine (laws_szGraph.calls k a0_0 _ _ l0_1 1048576 t340 _ ?side1 ?side2 A4.out).mono ?_); (case side1 => exact (Kd.C_below HR0_1.out HB.out)); (case side2 => exact HC0_1.out); rintro e w8 ⟨rfl, hb⟩; refine ⟨_, rfl, ?_⟩; replace BK339 := Aside0.mk (blk_below (g := gb339) (o := .cells #[.int .i64 a0_0, .slice A0_1 l0_1.length c0_1] 24 (0, 0)) (blk_below BK339.out bgo_) hb); replace HB := Aside0.mk (below_step HB.out hb); have Zw8 := Aside0.mk (hb.size); (try clear hb); (try clear hkp); (try clear hd_)))
    go_ret
    exact ⟨er_, hbs_⟩
  · rw [if_neg c5] at H
    have c5b0 := decide_eq_false c5
    clear c5
    obtain ⟨⟨t341, t342⟩, A9, H⟩ := bnd_ H
    dsimp only at H
    obtain ⟨⟨t345, t348⟩, A10, H⟩ := bnd_ H
    dsimp only at H
    obtain ⟨⟨t349, t350⟩, A11, H⟩ := bnd_ H
    dsimp only at H
    obtain ⟨⟨t354, t357⟩, A12, H⟩ := bnd_ H
    dsimp only at H
    obtain ⟨t358, A13, H⟩ := bnd_ H
    by_cases c14 : t358 = true
    · subst c14
      have H1 : (if t357 = t348 then ((laws_toGraph.f k a0_0 l0_1).bind fun bt359 => ((laws_eqGraph.f k t349 t350 bt359.1 bt359.2).bind fun t363 => (if t363 = true then ((laws_markGraph.f k t349 t350 1).bind fun bt364 => (if bt364.1 < 0 then (some false) else ((laws_eqInt64SS.f k t354 t345).bind fun t366 => (if t366 = true then ((laws_markInt64SS.f k t354 1).bind fun bt367 => ((laws_heldInt64SS.f k bt367.2 1).bind fun t369 => (if t369 < 0 then (some false) else (if t369 = bt367.1 then ((laws_toGraph.f k a0_0 l0_1).bind fun bt370 => ((impl_WalksFrom.f k bt370.1 bt370.2 a1 a2).bind fun bt374 => ((laws_eqInt64SS.f k bt374.1 t345).bind fun t378 => (if t378 = true then (if bt374.2 = t348 then ((laws_heldInt64SS.f k bt367.2 1).bind fun t379 => (if t379 < 0 then (some false) else (if t379 = bt367.1 then (some true) else (some false)))) else (some false)) else (some false))))) else (some false))))) else (some false))))) else (some false)))) else (some false)) = some true := by rw [if_pos rfl] at H; exact H
      clear H
      have H := H1
      clear H1
      by_cases c15 : t357 = t348
      · rw [if_pos c15] at H
        have c15b0 : (t357 == t348) = true := beq_iff_eq.mpr c15
        have c15b1 : (t357 != t348) = false := bne_eq_false_iff_eq.mpr c15
        clear c15
        obtain ⟨⟨t359, t360⟩, A16, H⟩ := bnd_ H
        dsimp only at H
        obtain ⟨t363, A17, H⟩ := bnd_ H
        by_cases c18 : t363 = true
        · subst c18
          have H1 : ((laws_markGraph.f k t349 t350 1).bind fun bt364 => (if bt364.1 < 0 then (some false) else ((laws_eqInt64SS.f k t354 t345).bind fun t366 => (if t366 = true then ((laws_markInt64SS.f k t354 1).bind fun bt367 => ((laws_heldInt64SS.f k bt367.2 1).bind fun t369 => (if t369 < 0 then (some false) else (if t369 = bt367.1 then ((laws_toGraph.f k a0_0 l0_1).bind fun bt370 => ((impl_WalksFrom.f k bt370.1 bt370.2 a1 a2).bind fun bt374 => ((laws_eqInt64SS.f k bt374.1 t345).bind fun t378 => (if t378 = true then (if bt374.2 = t348 then ((laws_heldInt64SS.f k bt367.2 1).bind fun t379 => (if t379 < 0 then (some false) else (if t379 = bt367.1 then (some true) else (some false)))) else (some false)) else (some false))))) else (some false))))) else (some false))))) = some true := by rw [if_pos rfl] at H; exact H
          clear H
          have H := H1
          clear H1
          obtain ⟨⟨t364, t365⟩, A19, H⟩ := bnd_ H
          dsimp only at H
          by_cases c20 : t364 < 0
          · rw [if_pos c20] at H
            have c20b0 := decide_eq_true c20
            clear c20
            exact absurd H (by simp)
          · rw [if_neg c20] at H
            have c20b0 := decide_eq_false c20
            clear c20
            obtain ⟨t366, A21, H⟩ := bnd_ H
            by_cases c22 : t366 = true
            · subst c22
              have H1 : ((laws_markInt64SS.f k t354 1).bind fun bt367 => ((laws_heldInt64SS.f k bt367.2 1).bind fun t369 => (if t369 < 0 then (some false) else (if t369 = bt367.1 then ((laws_toGraph.f k a0_0 l0_1).bind fun bt370 => ((impl_WalksFrom.f k bt370.1 bt370.2 a1 a2).bind fun bt374 => ((laws_eqInt64SS.f k bt374.1 t345).bind fun t378 => (if t378 = true then (if bt374.2 = t348 then ((laws_heldInt64SS.f k bt367.2 1).bind fun t379 => (if t379 < 0 then (some false) else (if t379 = bt367.1 then (some true) else (some false)))) else (some false)) else (some false))))) else (some false))))) = some true := by rw [if_pos rfl] at H; exact H
              clear H
              have H := H1
              clear H1
              obtain ⟨⟨t367, t368⟩, A23, H⟩ := bnd_ H
              dsimp only at H
              obtain ⟨t369, A24, H⟩ := bnd_ H
              by_cases c25 : t369 < 0
              · rw [if_pos c25] at H
                have c25b0 := decide_eq_true c25
                clear c25
                exact absurd H (by simp)
              · rw [if_neg c25] at H
                have c25b0 := decide_eq_false c25
                clear c25
                by_cases c26 : t369 = t367
                · rw [if_pos c26] at H
                  have c26b0 : (t369 == t367) = true := beq_iff_eq.mpr c26
                  have c26b1 : (t369 != t367) = false := bne_eq_false_iff_eq.mpr c26
                  clear c26
                  obtain ⟨⟨t370, t371⟩, A27, H⟩ := bnd_ H
                  dsimp only at H
                  obtain ⟨⟨t374, t377⟩, A28, H⟩ := bnd_ H
                  dsimp only at H
                  obtain ⟨t378, A29, H⟩ := bnd_ H
                  by_cases c30 : t378 = true
                  · subst c30
                    have H1 : (if t377 = t348 then ((laws_heldInt64SS.f k t368 1).bind fun t379 => (if t379 < 0 then (some false) else (if t379 = t367 then (some true) else (some false)))) else (some false)) = some true := by rw [if_pos rfl] at H; exact H
                    clear H
                    have H := H1
                    clear H1
                    by_cases c31 : t377 = t348
                    · rw [if_pos c31] at H
                      have c31b0 : (t377 == t348) = true := beq_iff_eq.mpr c31
                      have c31b1 : (t377 != t348) = false := bne_eq_false_iff_eq.mpr c31
                      clear c31
                      obtain ⟨t379, A32, H⟩ := bnd_ H
                      by_cases c33 : t379 < 0
                      · rw [if_pos c33] at H
                        have c33b0 := decide_eq_true c33
                        clear c33
                        exact absurd H (by simp)
                      · rw [if_neg c33] at H
                        have c33b0 := decide_eq_false c33
                        clear c33
                        by_cases c34 : t379 = t367
                        · rw [if_pos c34] at H
                          have c34b0 : (t379 == t367) = true := beq_iff_eq.mpr c34
                          have c34b1 : (t379 != t367) = false := bne_eq_false_iff_eq.mpr c34
                          clear c34
                          go_enter Try.func6, Try.ntmps6
                          try go_wp2_with (first | ((with_reducible refine gate_dst (N := 3) rfl ?_); refine box_event ?hg (N := 3) ?hd (cs := #[.int .i64 a0_0, .slice A0_1 l0_1.length c0_1]) (t := 24) ?hr ?_; (case hd => rfl); (case hg => rfl); (case hr => first | (go_simp; done) | (go_simp; rfl)); intro gb339 hg w35 hbox hb; have Zw35 := Aside0.mk (hb.size); have ZB339 := Aside0.mk ((⟨Nat.le_of_eq hg.symm, blk_lt hbox⟩ : w.heap.size ≤ gb339 ∧ gb339 < w35.heap.size)); have BK339 := Aside0.mk (hbox); have GW339 := Aside0.mk ((by rw [hg]; exact (below_size hb_) : w.heap.size ≤ gb339)); have GE339 := Aside0.mk ((by rw [hg]; exact (below_size hb_) : w.heap.size ≤ gb339)); replace HB := Aside0.mk (below_step hb_ hb); clear hb hbox hg; have hcz36_0 : w35.cell? ⟨gb339, 0, none⟩ = some (.int .i64 a0_0) := (blk_cell BK339.out 0).trans rfl; have hcz36_1 : w35.cell? ⟨gb339, 1, none⟩ = some (.slice A0_1 l0_1.length c0_1) := (blk_cell BK339.out 1).trans rfl; have hfz36_0 := blk_frozen BK339.out 0; have hfz36_1 := blk_frozen BK339.out 1) | ((with_reducible refine gate_callee (f := 10) rfl ?_); refine goesL_ (some 20) rfl rfl Try.func10 (by kernel_rfl) rfl #[.agg #[.int .i64 a0_0, .slice A0_1 l0_1.length c0_1], .int .i64 1048576] rfl (by (try simp only [List.map_toArray, List.map_cons, List.map_nil]); first | done | rfl) ?_; (with_reducible refine (laws_szGraph.calls k a0_0 _ _ l0_1 1048576 t340 _ ?side1 ?side2 A4.out).mono ?_); (case side1 => exact (Kd.C_below HR0_1.out HB.out)); (case side2 => exact HC0_1.out); rintro e w37 ⟨rfl, hb⟩; refine ⟨_, rfl, ?_⟩; replace BK339 := Aside0.mk (blk_below (g := gb339) (o := .cells #[.int .i64 a0_0, .slice A0_1 l0_1.length c0_1] 24 (0, 0)) (blk_below BK339.out bgo_) hb); replace HB := Aside0.mk (below_step HB.out hb); have Zw37 := Aside0.mk (hb.size); (try clear hb); (try clear hkp); (try clear hd_); have hcz38_0 : w37.cell? ⟨gb339, 0, none⟩ = some (.int .i64 a0_0) := (blk_cell BK339.out 0).trans rfl; have hcz38_1 : w37.cell? ⟨gb339, 1, none⟩ = some (.slice A0_1 l0_1.length c0_1) := (blk_cell BK339.out 1).trans rfl; have hfz38_0 := blk_frozen BK339.out 0; have hfz38_1 := blk_frozen BK339.out 1) | ((with_reducible refine gate_callee (f := 12) rfl ?_); refine goesL_ (some 25) rfl rfl Try.func12 (by kernel_rfl) rfl #[.agg #[.int .i64 a0_0, .slice A0_1 l0_1.length c0_1]] rfl (by (try simp only [List.map_toArray, List.map_cons, List.map_nil]); first | done | rfl) ?_; (with_reducible refine (laws_toGraph.calls k a0_0 _ _ l0_1 t341 t342 _ ?side1 ?side2 A9.out).mono ?_); (case side1 => exact (Kd.C_below HR0_1.out HB.out)); (case side2 => exact HC0_1.out); rintro e w39 ⟨v343, rfl, ho0, hb⟩; refine ⟨_, rfl, ?_⟩; replace BK339 := Aside0.mk (blk_below (g := gb339) (o := .cells #[.int .i64 a0_0, .slice A0_1 l0_1.length c0_1] 24 (0, 0)) (blk_below BK339.out bgo_) hb); have HO344 := Aside0.mk (Kd.S_lower (Kd.S_mono (Kd.S_bound ho0) (fun k_ hk_ => (⟨hk_.2.1, hk_.2.2.1⟩ : w37.heap.size ≤ k_ ∧ k_ < w39.heap.size))) HB.out.size); replace HB := Aside0.mk (below_step HB.out hb); have Zw39 := Aside0.mk (hb.size); (try clear hb); (try clear hkp); (try clear hd_); (try clear ho0); obtain ⟨Ao40, co40, eo40⟩ := Kd.S_slice HO344.out; subst eo40) | ((with_reducible refine gate_callee (f := 24) rfl ?_); refine goesL_ (some 28) rfl rfl Try.func24 (by kernel_rfl) rfl #[.agg #[.int .i64 t341, .slice Ao40 t342.length co40], .int .i64 a1, .int .i64 a2] rfl (by (try simp only [List.map_toArray, List.map_cons, List.map_nil]); first | done | rfl) ?_; (with_reducible refine (spec_WalksFrom.calls k t341 _ _ t342 a1 a2 t345 t348 _ ?side1 ?side2 A10.out).mono ?_); (case side1 => exact (Kd.S_reads' HO344.out).2.2); (case side2 => (have e_ := Kd.S_reads' HO344.out; have e1_ := e_.1; have e2_ := e_.2.1; omega)); rintro e w41 ⟨v346, rfl, ho0, hb⟩; refine ⟨_, rfl, ?_⟩; replace BK339 := Aside0.mk (blk_below (g := gb339) (o := .cells #[.int .i64 a0_0, .slice A0_1 l0_1.length c0_1] 24 (0, 0)) (blk_below BK339.out bgo_) hb); replace HO344 := Aside0.mk (Kd.S_below HO344.out hb); have HO347 := Aside0.mk (Kd.S_lower (Kd.S_mono (Kd.S_bound ho0) (fun k_ hk_ => (⟨hk_.2.1, hk_.2.2.1⟩ : w39.heap.size ≤ k_ ∧ k_ < w41.heap.size))) HB.out.size); replace HB := Aside0.mk (below_step HB.out hb); have Zw41 := Aside0.mk (hb.size); (try clear hb); (try clear hkp); (try clear hd_); (try clear ho0); obtain ⟨Ao42, co42, eo42⟩ := Kd.S_slice HO347.out; subst eo42; have hcz43_0 : w41.cell? ⟨gb339, 0, none⟩ = some (.int .i64 a0_0) := (blk_cell BK339.out 0).trans rfl; have hcz43_1 : w41.cell? ⟨gb339, 1, none⟩ = some (.slice A0_1 l0_1.length c0_1) := (blk_cell BK339.out 1).trans rfl; have hfz43_0 := blk_frozen BK339.out 0; have hfz43_1 := blk_frozen BK339.out 1) | ((with_reducible refine gate_callee (f := 12) rfl ?_); refine goesL_ (some 32) rfl rfl Try.func12 (by kernel_rfl) rfl #[.agg #[.int .i64 a0_0, .slice A0_1 l0_1.length c0_1]] rfl (by (try simp only [List.map_toArray, List.map_cons, List.map_nil]); first | done | rfl) ?_; (with_reducible refine (laws_toGraph.calls k a0_0 _ _ l0_1 t349 t350 _ ?side1 ?side2 A11.out).mono ?_); (case side1 => exact (Kd.C_below HR0_1.out HB.out)); (case side2 => exact HC0_1.out); rintro e w44 ⟨v351, rfl, ho0, hb⟩; refine ⟨_, rfl, ?_⟩; replace BK339 := Aside0.mk (blk_below (g := gb339) (o := .cells #[.int .i64 a0_0, .slice A0_1 l0_1.length c0_1] 24 (0, 0)) (blk_below BK339.out bgo_) hb); replace HO344 := Aside0.mk (Kd.S_below HO344.out hb); replace HO347 := Aside0.mk (Kd.S_below HO347.out hb); have HO352 := Aside0.mk (Kd.S_lower (Kd.S_mono (Kd.S_bound ho0) (fun k_ hk_ => (⟨hk_.2.1, hk_.2.2.1⟩ : w41.heap.size ≤ k_ ∧ k_ < w44.heap.size))) HB.out.size); replace HB := Aside0.mk (below_step HB.out hb); have Zw44 := Aside0.mk (hb.size); (try clear hb); (try clear hkp); (try clear hd_); (try clear ho0); obtain ⟨Ao45, co45, eo45⟩ := Kd.S_slice HO352.out; subst eo45) | ((with_reducible refine gate_dst (N := 10) rfl ?_); refine box_event ?hg (N := 10) ?hd (cs := #[.int .i64 0, .slice none 0 0]) (t := 29) ?hr ?_; (case hd => rfl); (case hg => rfl); (case hr => first | (go_simp; done) | (go_simp; rfl)); intro gb353 hg w46 hbox hb; replace HO344 := Aside0.mk (Kd.S_below HO344.out hb); replace HO347 := Aside0.mk (Kd.S_below HO347.out hb); replace HO352 := Aside0.mk (Kd.S_below HO352.out hb); have Zw46 := Aside0.mk (hb.size); have ZB353 := Aside0.mk ((⟨Nat.le_of_eq hg.symm, blk_lt hbox⟩ : w44.heap.size ≤ gb353 ∧ gb353 < w46.heap.size)); have BK353 := Aside0.mk (hbox); have GW353 := Aside0.mk ((by rw [hg]; exact (below_size hbs_) : w.heap.size ≤ gb353)); have GE353 := Aside0.mk ((by rw [hg]; exact (below_size hbs_) : w.heap.size ≤ gb353)); replace HB := Aside0.mk (below_step hbs_ hb); have NB339_353 := Aside0.mk ((by rw [hg]; exact Nat.ne_of_lt (blk_lt (g := gb339) (o := .cells #[.int .i64 a0_0, .slice A0_1 l0_1.length c0_1] 24 (0, 0)) (blk_below BK339.out bgo_)) : gb339 ≠ gb353)); have NB353_339 := Aside0.mk ((by rw [hg]; exact Nat.ne_of_gt (blk_lt (g := gb339) (o := .cells #[.int .i64 a0_0, .slice A0_1 l0_1.length c0_1] 24 (0, 0)) (blk_below BK339.out bgo_)) : gb353 ≠ gb339)); replace BK339 := Aside0.mk (blk_below (g := gb339) (o := .cells #[.int .i64 a0_0, .slice A0_1 l0_1.length c0_1] 24 (0, 0)) (blk_below BK339.out bgo_) hb); clear hb hbox hg; have hnb47 := NB353_339.out; have hnc47 := NB339_353.out; have hcz48_0 : w46.cell? ⟨gb353, 0, none⟩ = some (.int .i64 0) := (blk_cell BK353.out 0).trans rfl; have hcz48_1 : w46.cell? ⟨gb353, 1, none⟩ = some (.slice none 0 0) := (blk_cell BK353.out 1).trans rfl; have hfz48_0 := blk_frozen BK353.out 0; have hfz48_1 := blk_frozen BK353.out 1) | ((with_reducible refine gate_callee (f := 25) rfl ?_); have n0_ := Aside0.mk (show ((w46.setCell ⟨gb353, 0, none⟩ (.int .i64 t349)).setCell ⟨gb353, 1, none⟩ (.slice Ao45 t350.length co45)).heap[gb339]? = some (.cells #[.int .i64 a0_0, .slice A0_1 l0_1.length c0_1] 24 (0, 0)) from (by (with_reducible repeat (first | refine blk_drewN ?_ _ | refine blk_drew ?_ | refine blk_alloc ?_ _)); refine blk_far ?_ NB339_353.out _; (with_reducible repeat (first | refine blk_drewN ?_ _ | refine blk_drew ?_ | refine blk_alloc ?_ _)); refine blk_far ?_ NB339_353.out _; (with_reducible repeat (first | refine blk_drewN ?_ _ | refine blk_drew ?_ | refine blk_alloc ?_ _)); exact BK339.out)); have n1_ := Aside0.mk (show Kd.S (Kd.slice 2 (Kd.int .i64)) 26 ((w46.setCell ⟨gb353, 0, none⟩ (.int .i64 t349)).setCell ⟨gb353, 1, none⟩ (.slice Ao45 t350.length co45)) w.heap.size (fun k_ => w37.heap.size ≤ k_ ∧ k_ < w39.heap.size) (.slice Ao40 t342.length co40) t342 from (Kd.S_far (Kd.S_far HO344.out (fun k_ ho_ => (show k_ ≠ gb353 from by have h1_ := ho_.1; have h2_ := ho_.2; have h3_ := ZB353.out.1; have h4_ := ZB353.out.2; have := Zw35.out; have := Zw37.out; have := Zw39.out; have := Zw41.out; have := Zw44.out; have := Zw46.out; omega)) _) (fun k_ ho_ => (show k_ ≠ gb353 from by have h1_ := ho_.1; have h2_ := ho_.2; have h3_ := ZB353.out.1; have h4_ := ZB353.out.2; have := Zw35.out; have := Zw37.out; have := Zw39.out; have := Zw41.out; have := Zw44.out; have := Zw46.out; omega)) _)); have n2_ := Aside0.mk (show Kd.S (Kd.slice 2 (Kd.int .i64)) 26 ((w46.setCell ⟨gb353, 0, none⟩ (.int .i64 t349)).setCell ⟨gb353, 1, none⟩ (.slice Ao45 t350.length co45)) w.heap.size (fun k_ => w39.heap.size ≤ k_ ∧ k_ < w41.heap.size) (.slice Ao42 t345.length co42) t345 from (Kd.S_far (Kd.S_far HO347.out (fun k_ ho_ => (show k_ ≠ gb353 from by have h1_ := ho_.1; have h2_ := ho_.2; have h3_ := ZB353.out.1; have h4_ := ZB353.out.2; have := Zw35.out; have := Zw37.out; have := Zw39.out; have := Zw41.out; have := Zw44.out; have := Zw46.out; omega)) _) (fun k_ ho_ => (show k_ ≠ gb353 from by have h1_ := ho_.1; have h2_ := ho_.2; have h3_ := ZB353.out.1; have h4_ := ZB353.out.2; have := Zw35.out; have := Zw37.out; have := Zw39.out; have := Zw41.out; have := Zw44.out; have := Zw46.out; omega)) _)); have n3_ := Aside0.mk (show Kd.S (Kd.slice 2 (Kd.int .i64)) 26 ((w46.setCell ⟨gb353, 0, none⟩ (.int .i64 t349)).setCell ⟨gb353, 1, none⟩ (.slice Ao45 t350.length co45)) w.heap.size (fun k_ => w41.heap.size ≤ k_ ∧ k_ < w44.heap.size) (.slice Ao45 t350.length co45) t350 from (Kd.S_far (Kd.S_far HO352.out (fun k_ ho_ => (show k_ ≠ gb353 from by have h1_ := ho_.1; have h2_ := ho_.2; have h3_ := ZB353.out.1; have h4_ := ZB353.out.2; have := Zw35.out; have := Zw37.out; have := Zw39.out; have := Zw41.out; have := Zw44.out; have := Zw46.out; omega)) _) (fun k_ ho_ => (show k_ ≠ gb353 from by have h1_ := ho_.1; have h2_ := ho_.2; have h3_ := ZB353.out.1; have h4_ := ZB353.out.2; have := Zw35.out; have := Zw37.out; have := Zw39.out; have := Zw41.out; have := Zw44.out; have := Zw46.out; omega)) _)); have n4_ := Aside0.mk (show ((w46.setCell ⟨gb353, 0, none⟩ (.int .i64 t349)).setCell ⟨gb353, 1, none⟩ (.slice Ao45 t350.length co45)).heap[gb353]? = some (.cells #[.int .i64 t349, .slice Ao45 t350.length co45] 29 (0, 0)) from (by (with_reducible repeat (first | refine blk_drewN ?_ _ | refine blk_drew ?_ | refine blk_alloc ?_ _)); refine blk_put (cs := #[.int .i64 t349, .slice none 0 0]) ?_ 1 _ rfl; (with_reducible repeat (first | refine blk_drewN ?_ _ | refine blk_drew ?_ | refine blk_alloc ?_ _)); refine blk_put (cs := #[.int .i64 0, .slice none 0 0]) ?_ 0 _ rfl; (with_reducible repeat (first | refine blk_drewN ?_ _ | refine blk_drew ?_ | refine blk_alloc ?_ _)); exact BK353.out)); have n5_ := Aside0.mk (show Below w.heap.size w ((w46.setCell ⟨gb353, 0, none⟩ (.int .i64 t349)).setCell ⟨gb353, 1, none⟩ (.slice Ao45 t350.length co45)) from (below_set (below_set HB.out GE353.out) GE353.out)); have n6_ := Aside0.mk (show w46.heap.size ≤ ((w46.setCell ⟨gb353, 0, none⟩ (.int .i64 t349)).setCell ⟨gb353, 1, none⟩ (.slice Ao45 t350.length co45)).heap.size from (Kept.setCell (Kept.setCell (Kept.refl w46 (fun _ => True)) (.inl trivial) _) (.inl trivial) _).1); clear BK339; clear HO344; clear HO347; clear HO352; clear BK353; clear HB; generalize hW_ : ((w46.setCell ⟨gb353, 0, none⟩ (.int .i64 t349)).setCell ⟨gb353, 1, none⟩ (.slice Ao45 t350.length co45)) = w49 at n0_ n1_ n2_ n3_ n4_ n5_ n6_ ⊢; clear hW_; have BK339 := n0_; have HO344 := n1_; have HO347 := n2_; have HO352 := n3_; have BK353 := n4_; have HB := n5_; have Zw49 := n6_; clear n0_ n1_ n2_ n3_ n4_ n5_ n6_; refine goesL_ (some 37) rfl rfl Try.func25 (by kernel_rfl) rfl #[.agg #[.int .i64 t349, .slice Ao45 t350.length co45], .int .i64 a1, .int .i64 a2] rfl (by (try simp only [List.map_toArray, List.map_cons, List.map_nil]); first | done | rfl) ?_; (with_reducible refine (impl_WalksFrom.calls k t349 _ _ t350 a1 a2 t354 t357 _ ?side1 ?side2 A12.out).mono ?_); (case side1 => exact (Kd.S_reads' HO352.out).2.2); (case side2 => (have e_ := Kd.S_reads' HO352.out; have e1_ := e_.1; have e2_ := e_.2.1; omega)); rintro e w50 ⟨v355, rfl, ho0, hb⟩; refine ⟨_, rfl, ?_⟩; replace BK339 := Aside0.mk (blk_below (g := gb339) (o := .cells #[.int .i64 a0_0, .slice A0_1 l0_1.length c0_1] 24 (0, 0)) (blk_below BK339.out bgo_) hb); replace HO344 := Aside0.mk (Kd.S_below HO344.out hb); replace HO347 := Aside0.mk (Kd.S_below HO347.out hb); replace HO352 := Aside0.mk (Kd.S_below HO352.out hb); replace BK353 := Aside0.mk (blk_below (g := gb353) (o := .cells #[.int .i64 t349, .slice Ao45 t350.length co45] 29 (0, 0)) (blk_below BK353.out bgo_) hb); have HO356 := Aside0.mk (Kd.S_lower (Kd.S_mono (Kd.S_bound ho0) (fun k_ hk_ => (⟨hk_.2.1, hk_.2.2.1⟩ : w49.heap.size ≤ k_ ∧ k_ < w50.heap.size))) HB.out.size); replace HB := Aside0.mk (below_step HB.out hb); have Zw50 := Aside0.mk (hb.size); (try clear hb); (try clear hkp); (try clear hd_); (try clear ho0); obtain ⟨Ao51, co51, eo51⟩ := Kd.S_slice HO356.out; subst eo51) | ((with_reducible refine gate_callee (f := 26) rfl ?_); refine goesL_ (some 42) rfl rfl Try.func26 (by kernel_rfl) rfl #[.slice Ao51 t354.length co51, .slice Ao42 t345.length co42] rfl (by (try simp only [List.map_toArray, List.map_cons, List.map_nil]); first | done | rfl) ?_; (with_reducible refine (laws_eqInt64SS.calls k _ _ t354 _ _ t345 true _ ?side1 ?side2 ?side3 ?side4 A13.out).mono ?_); (case side1 => exact (Kd.S_reads' HO356.out).2.2); (case side2 => (have e_ := Kd.S_reads' HO356.out; have e1_ := e_.1; have e2_ := e_.2.1; omega)); (case side3 => exact (Kd.S_reads' HO347.out).2.2); (case side4 => (have e_ := Kd.S_reads' HO347.out; have e1_ := e_.1; have e2_ := e_.2.1; omega)); rintro e w52 ⟨rfl, hd_⟩; refine ⟨_, rfl, ?_⟩; have hb := hd_.below; replace BK339 := Aside0.mk (blk_below (g := gb339) (o := .cells #[.int .i64 a0_0, .slice A0_1 l0_1.length c0_1] 24 (0, 0)) (blk_below BK339.out bgo_) hb); replace HO344 := Aside0.mk (Kd.S_below HO344.out hb); replace HO347 := Aside0.mk (Kd.S_below HO347.out hb); replace HO352 := Aside0.mk (Kd.S_below HO352.out hb); replace BK353 := Aside0.mk (blk_below (g := gb353) (o := .cells #[.int .i64 t349, .slice Ao45 t350.length co45] 29 (0, 0)) (blk_below BK353.out bgo_) hb); replace HO356 := Aside0.mk (Kd.S_below HO356.out hb); replace HB := Aside0.mk (below_step HB.out hb); have Zw52 := Aside0.mk (hb.size); (try clear hb); (try clear hkp); (try clear hd_)))
                          have n0_ := Aside0.mk ((show w52.heap.size ≤ w52.drew.heap.size from Nat.le_refl _))
                          have n1_ := Aside0.mk (Kd.S_drew HO344.out)
                          have n2_ := Aside0.mk (Kd.S_drew HO347.out)
                          have n3_ := Aside0.mk (Kd.S_drew HO352.out)
                          have n4_ := Aside0.mk (Kd.S_drew HO356.out)
                          have n5_ := Aside0.mk (blk_drew BK339.out)
                          have n6_ := Aside0.mk (blk_drew BK353.out)
                          have n7_ := Aside0.mk (below_drew1 HB.out)
                          clear HO344
                          clear HO347
                          clear HO352
                          clear HO356
                          clear BK339
                          clear BK353
                          clear HB
                          have Zw53 := n0_
                          have HO344 := n1_
                          have HO347 := n2_
                          have HO352 := n3_
                          have HO356 := n4_
                          have BK339 := n5_
                          have BK353 := n6_
                          have HB := n7_
                          clear n0_ n1_ n2_ n3_ n4_ n5_ n6_ n7_
                          refine start_ (n := 5) (S := fun w' => w'.cell? ⟨gb353, 0, none⟩ = some (.int .i64 t349) ∧ w'.cell? ⟨gb353, 1, none⟩ = some (.slice Ao45 t350.length co45) ∧ w'.cell? ⟨gb339, 0, none⟩ = some (.int .i64 a0_0) ∧ w'.cell? ⟨gb339, 1, none⟩ = some (.slice A0_1 l0_1.length c0_1)) (ds := []) #[false, false, false, false, false] (by kernel_rfl) rfl rfl ⟨(blk_cell BK353.out 0).trans rfl, (blk_cell BK353.out 1).trans rfl, (blk_cell BK339.out 0).trans rfl, (blk_cell BK339.out 1).trans rfl⟩ (fun hHeld => ?_)
                          generalize w52.drew = w53 at HO344 HO347 HO352 HO356 BK339 BK353 HB Zw53 hHeld ⊢
                          refine take_ (i := 0) (N := some 49) (v := ?_) (a' := ?_) #[true, false, false, false, false] rfl rfl (by kernel_rfl) (fun _ _ _ h => h) (Or.inl ⟨by rfl, ?_⟩) hHeld ?_ ?_
                          rotate_left
                          · rintro w' ⟨s0, s1, s2, s3⟩
                            go_simp
                            with_reducible rfl
                          rotate_left
                          · simp only [Act.put, nf_]
                            rfl
                          refine take_ (i := 1) (N := some 50) (v := ?_) (a' := ?_) #[true, true, false, false, false] rfl rfl (by kernel_rfl) (fun _ _ _ h => h) (Or.inl ⟨by rfl, ?_⟩) hHeld ?_ ?_
                          rotate_left
                          · rintro w' ⟨s0, s1, s2, s3⟩
                            go_simp
                            with_reducible rfl
                          rotate_left
                          · simp only [Act.put, nf_]
                            rfl
                          refine one_ (i := 2) (N := some 51) #[true, true, true, false, false] rfl rfl (by kernel_rfl) (by decide) (fun K hK => ?_)
                          refine goes_ Try.func12 (by kernel_rfl) rfl #[.agg #[.int .i64 a0_0, .slice A0_1 l0_1.length c0_1]] (by rfl) rfl rfl arg_ ?_
                          with_reducible refine (laws_toGraph.calls k a0_0 _ _ l0_1 t359 t360 _ ?side1 ?side2 A16.out).mono ?_
                          (case side1 => exact (Kd.C_below HR0_1.out HB.out))
                          (case side2 => exact HC0_1.out)
                          rintro e w54 ⟨v361, rfl, ho0, hb⟩
                          refine ⟨_, rfl, ?_⟩
                          have n0_ := Aside0.mk (blk_below (g := gb339) (o := .cells #[.int .i64 a0_0, .slice A0_1 l0_1.length c0_1] 24 (0, 0)) (blk_below BK339.out bgo_) hb)
                          have n1_ := Aside0.mk (Kd.S_below HO344.out hb)
                          have n2_ := Aside0.mk (Kd.S_below HO347.out hb)
                          have n3_ := Aside0.mk (Kd.S_below HO352.out hb)
                          have n4_ := Aside0.mk (blk_below (g := gb353) (o := .cells #[.int .i64 t349, .slice Ao45 t350.length co45] 29 (0, 0)) (blk_below BK353.out bgo_) hb)
                          have n5_ := Aside0.mk (Kd.S_below HO356.out hb)
                          have n6_ := Aside0.mk (Kd.S_lower (Kd.S_mono (Kd.S_bound ho0) (fun k_ hk_ => (⟨hk_.2.1, hk_.2.2.1⟩ : w53.heap.size ≤ k_ ∧ k_ < w54.heap.size))) HB.out.size)
                          have n7_ := Aside0.mk (below_step HB.out hb)
                          have n8_ := Aside0.mk (hb.size)
                          clear BK339
                          clear HO344
                          clear HO347
                          clear HO352
                          clear BK353
                          clear HO356
                          clear HB
                          have BK339 := n0_
                          have HO344 := n1_
                          have HO347 := n2_
                          have HO352 := n3_
                          have BK353 := n4_
                          have HO356 := n5_
                          have HO362 := n6_
                          have HB := n7_
                          have Zw54 := n8_
                          clear n0_ n1_ n2_ n3_ n4_ n5_ n6_ n7_ n8_
                          (try clear hb)
                          (try clear hkp)
                          (try clear hd_)
                          (try clear ho0)
                          obtain ⟨Ao55, co55, eo55⟩ := Kd.S_slice HO362.out
                          subst eo55
                          refine hK.out _ _ ⟨(blk_cell BK353.out 0).trans rfl, (blk_cell BK353.out 1).trans rfl, (blk_cell BK339.out 0).trans rfl, (blk_cell BK339.out 1).trans rfl⟩ (fun hHeld => ?_)
                          clear hK K
                          refine norm_ (a' := ?_) ?_ ?_
                          rotate_left
                          · show Act.put _ (some 51) _ = _
                            simp only [Act.put, nf_]
                            rfl
                          refine one_ (i := 3) (N := some 52) #[true, true, true, true, false] rfl rfl (by kernel_rfl) (by decide) (fun K hK => ?_)
                          refine goes_ Try.func15 (by kernel_rfl) rfl #[.agg #[.int .i64 t349, .slice Ao45 t350.length co45], .agg #[.int .i64 t359, .slice Ao55 t360.length co55]] (by rfl) rfl rfl arg_ ?_
                          with_reducible refine (laws_eqGraph.calls k t349 _ _ t350 t359 _ _ t360 true _ ?side1 ?side2 ?side3 ?side4 A17.out).mono ?_
                          (case side1 => exact (Kd.S_reads' HO352.out).2.2)
                          (case side2 => (have e_ := Kd.S_reads' HO352.out; have e1_ := e_.1; have e2_ := e_.2.1; omega))
                          (case side3 => exact (Kd.S_reads' HO362.out).2.2)
                          (case side4 => (have e_ := Kd.S_reads' HO362.out; have e1_ := e_.1; have e2_ := e_.2.1; omega))
                          rintro e w56 ⟨rfl, hb⟩
                          refine ⟨_, rfl, ?_⟩
                          have n0_ := Aside0.mk (blk_below (g := gb339) (o := .cells #[.int .i64 a0_0, .slice A0_1 l0_1.length c0_1] 24 (0, 0)) (blk_below BK339.out bgo_) hb)
                          have n1_ := Aside0.mk (Kd.S_below HO344.out hb)
                          have n2_ := Aside0.mk (Kd.S_below HO347.out hb)
                          have n3_ := Aside0.mk (Kd.S_below HO352.out hb)
                          have n4_ := Aside0.mk (blk_below (g := gb353) (o := .cells #[.int .i64 t349, .slice Ao45 t350.length co45] 29 (0, 0)) (blk_below BK353.out bgo_) hb)
                          have n5_ := Aside0.mk (Kd.S_below HO356.out hb)
                          have n6_ := Aside0.mk (Kd.S_below HO362.out hb)
                          have n7_ := Aside0.mk (below_step HB.out hb)
                          have n8_ := Aside0.mk (hb.size)
                          clear BK339
                          clear HO344
                          clear HO347
                          clear HO352
                          clear BK353
                          clear HO356
                          clear HO362
                          clear HB
                          have BK339 := n0_
                          have HO344 := n1_
                          have HO347 := n2_
                          have HO352 := n3_
                          have BK353 := n4_
                          have HO356 := n5_
                          have HO362 := n6_
                          have HB := n7_
                          have Zw56 := n8_
                          clear n0_ n1_ n2_ n3_ n4_ n5_ n6_ n7_ n8_
                          (try clear hb)
                          (try clear hkp)
                          (try clear hd_)
                          refine hK.out _ _ ⟨(blk_cell BK353.out 0).trans rfl, (blk_cell BK353.out 1).trans rfl, (blk_cell BK339.out 0).trans rfl, (blk_cell BK339.out 1).trans rfl⟩ (fun hHeld => ?_)
                          clear hK K
                          refine norm_ (a' := ?_) ?_ ?_
                          rotate_left
                          · show Act.put _ (some 52) _ = _
                            simp only [Act.put, nf_]
                            rfl
                          refine pure_ (i := 4) (N := some 53) (v := ?_) (a' := ?_) #[true, true, true, true, true] rfl rfl (by kernel_rfl) (fun _ _ _ h => h) (Or.inl ⟨by rfl, ?_⟩) ?_ ?_
                          rotate_left
                          · intro w'
                            go_simp
                            with_reducible rfl
                          rotate_left
                          · simp only [Act.put, nf_]
                            rfl
                          refine done_ (by kernel_rfl) ?_
                          have hcz57_0 : w56.cell? ⟨gb353, 0, none⟩ = some (.int .i64 t349) := (blk_cell BK353.out 0).trans rfl
                          have hcz57_1 : w56.cell? ⟨gb353, 1, none⟩ = some (.slice Ao45 t350.length co45) := (blk_cell BK353.out 1).trans rfl
                          have hfz57_0 := blk_frozen BK353.out 0
                          have hfz57_1 := blk_frozen BK353.out 1
                          try go_wp2_with (first | ((with_reducible refine gate_callee (f := 16) rfl ?_); refine goesL_ (some 56) rfl rfl Try.func16 (by kernel_rfl) rfl #[.agg #[.int .i64 t349, .slice Ao45 t350.length co45], .int .i64 1] rfl (by (try simp only [List.map_toArray, List.map_cons, List.map_nil]); first | done | rfl) ?_; (with_reducible refine (laws_markGraph.calls k t349 (fun k_ => w41.heap.size ≤ k_ ∧ k_ < w44.heap.size) (.slice Ao45 t350.length co45) t350 1 t364 t365 w _ ?side1 ?side2 A19.out).mono ?_); (case side1 => exact HB.out); (case side2 => exact HO352.out); rintro e w58 ⟨rfl, hy0, hb, hkp⟩; refine ⟨_, rfl, ?_⟩; replace BK339 := Aside0.mk (blk_kept (blk_below BK339.out bgo_) hkp (fun hs_ => by have h1_ := ZB339.out.1; have h2_ := ZB339.out.2; have := Zw35.out; have := Zw37.out; have := Zw39.out; have := Zw41.out; have := Zw44.out; have := Zw46.out; have := Zw49.out; have := Zw50.out; have := Zw52.out; have := Zw53.out; have := Zw54.out; have := Zw56.out; have h3_ := hs_.1; have h4_ := hs_.2; omega)); replace HO344 := Aside0.mk (Kd.S_step HO344.out (fun k_ ho_ hl_ => hkp.2 k_ hl_ (fun hs_ => by have h1_ := ho_.1; have h2_ := ho_.2; have := Zw35.out; have := Zw37.out; have := Zw39.out; have := Zw41.out; have := Zw44.out; have := Zw46.out; have := Zw49.out; have := Zw50.out; have := Zw52.out; have := Zw53.out; have := Zw54.out; have := Zw56.out; have h3_ := hs_.1; have h4_ := hs_.2; omega))); replace HO347 := Aside0.mk (Kd.S_step HO347.out (fun k_ ho_ hl_ => hkp.2 k_ hl_ (fun hs_ => by have h1_ := ho_.1; have h2_ := ho_.2; have := Zw35.out; have := Zw37.out; have := Zw39.out; have := Zw41.out; have := Zw44.out; have := Zw46.out; have := Zw49.out; have := Zw50.out; have := Zw52.out; have := Zw53.out; have := Zw54.out; have := Zw56.out; have h3_ := hs_.1; have h4_ := hs_.2; omega))); replace HO352 := Aside0.mk (hy0); replace BK353 := Aside0.mk (blk_kept (blk_below BK353.out bgo_) hkp (fun hs_ => by have h1_ := ZB353.out.1; have h2_ := ZB353.out.2; have := Zw35.out; have := Zw37.out; have := Zw39.out; have := Zw41.out; have := Zw44.out; have := Zw46.out; have := Zw49.out; have := Zw50.out; have := Zw52.out; have := Zw53.out; have := Zw54.out; have := Zw56.out; have h3_ := hs_.1; have h4_ := hs_.2; omega)); replace HO356 := Aside0.mk (Kd.S_step HO356.out (fun k_ ho_ hl_ => hkp.2 k_ hl_ (fun hs_ => by have h1_ := ho_.1; have h2_ := ho_.2; have := Zw35.out; have := Zw37.out; have := Zw39.out; have := Zw41.out; have := Zw44.out; have := Zw46.out; have := Zw49.out; have := Zw50.out; have := Zw52.out; have := Zw53.out; have := Zw54.out; have := Zw56.out; have h3_ := hs_.1; have h4_ := hs_.2; omega))); replace HO362 := Aside0.mk (Kd.S_step HO362.out (fun k_ ho_ hl_ => hkp.2 k_ hl_ (fun hs_ => by have h1_ := ho_.1; have h2_ := ho_.2; have := Zw35.out; have := Zw37.out; have := Zw39.out; have := Zw41.out; have := Zw44.out; have := Zw46.out; have := Zw49.out; have := Zw50.out; have := Zw52.out; have := Zw53.out; have := Zw54.out; have := Zw56.out; have h3_ := hs_.1; have h4_ := hs_.2; omega))); replace HB := Aside0.mk (hb); have Zw58 := Aside0.mk (hkp.1); (try clear hb); (try clear hkp); (try clear hd_); (try clear hy0)) | (go_at_call 26; (with_reducible refine (laws_eqInt64SS.calls k _ _ t354 _ _ t345 true _ ?side1 ?side2 ?side3 ?side4 A21.out).mono ?_); (case side1 => exact (Kd.S_reads' HO356.out).2.2); (case side2 => (have e_ := Kd.S_reads' HO356.out; have e1_ := e_.1; have e2_ := e_.2.1; omega)); (case side3 => exact (Kd.S_reads' HO347.out).2.2); (case side4 => (have e_ := Kd.S_reads' HO347.out; have e1_ := e_.1; have e2_ := e_.2.1; omega)); rintro e w59 ⟨rfl, hd_⟩; have hb := hd_.below; replace BK339 := Aside0.mk (blk_below (g := gb339) (o := .cells #[.int .i64 a0_0, .slice A0_1 l0_1.length c0_1] 24 (0, 0)) (blk_below BK339.out bgo_) hb); replace HO344 := Aside0.mk (Kd.S_below HO344.out hb); replace HO347 := Aside0.mk (Kd.S_below HO347.out hb); replace HO352 := Aside0.mk (Kd.S_below HO352.out hb); replace BK353 := Aside0.mk (blk_below (g := gb353) (o := .cells #[.int .i64 t349, .slice Ao45 t350.length co45] 29 (0, 0)) (blk_below BK353.out bgo_) hb); replace HO356 := Aside0.mk (Kd.S_below HO356.out hb); replace HO362 := Aside0.mk (Kd.S_below HO362.out hb); replace HB := Aside0.mk (below_step HB.out hb); have Zw59 := Aside0.mk (hb.size); (try clear hb); (try clear hkp); (try clear hd_)) | ((with_reducible refine gate_callee (f := 27) rfl ?_); refine goesL_ (some 72) rfl rfl Try.func27 (by kernel_rfl) rfl #[.slice Ao51 t354.length co51, .int .i64 1] rfl (by (try simp only [List.map_toArray, List.map_cons, List.map_nil]); first | done | rfl) ?_; (with_reducible refine (laws_markInt64SS.calls k (fun k_ => w49.heap.size ≤ k_ ∧ k_ < w50.heap.size) (.slice Ao51 t354.length co51) t354 1 t367 t368 w _ ?side1 ?side2 A23.out).mono ?_); (case side1 => exact HB.out); (case side2 => exact HO356.out); rintro e w60 ⟨rfl, hy0, hb, hkp⟩; refine ⟨_, rfl, ?_⟩; replace BK339 := Aside0.mk (blk_kept (blk_below BK339.out bgo_) hkp (fun hs_ => by have h1_ := ZB339.out.1; have h2_ := ZB339.out.2; have := Zw35.out; have := Zw37.out; have := Zw39.out; have := Zw41.out; have := Zw44.out; have := Zw46.out; have := Zw49.out; have := Zw50.out; have := Zw52.out; have := Zw53.out; have := Zw54.out; have := Zw56.out; have := Zw58.out; have := Zw59.out; have h3_ := hs_.1; have h4_ := hs_.2; omega)); replace HO344 := Aside0.mk (Kd.S_step HO344.out (fun k_ ho_ hl_ => hkp.2 k_ hl_ (fun hs_ => by have h1_ := ho_.1; have h2_ := ho_.2; have := Zw35.out; have := Zw37.out; have := Zw39.out; have := Zw41.out; have := Zw44.out; have := Zw46.out; have := Zw49.out; have := Zw50.out; have := Zw52.out; have := Zw53.out; have := Zw54.out; have := Zw56.out; have := Zw58.out; have := Zw59.out; have h3_ := hs_.1; have h4_ := hs_.2; omega))); replace HO347 := Aside0.mk (Kd.S_step HO347.out (fun k_ ho_ hl_ => hkp.2 k_ hl_ (fun hs_ => by have h1_ := ho_.1; have h2_ := ho_.2; have := Zw35.out; have := Zw37.out; have := Zw39.out; have := Zw41.out; have := Zw44.out; have := Zw46.out; have := Zw49.out; have := Zw50.out; have := Zw52.out; have := Zw53.out; have := Zw54.out; have := Zw56.out; have := Zw58.out; have := Zw59.out; have h3_ := hs_.1; have h4_ := hs_.2; omega))); replace HO352 := Aside0.mk (Kd.S_step HO352.out (fun k_ ho_ hl_ => hkp.2 k_ hl_ (fun hs_ => by have h1_ := ho_.1; have h2_ := ho_.2; have := Zw35.out; have := Zw37.out; have := Zw39.out; have := Zw41.out; have := Zw44.out; have := Zw46.out; have := Zw49.out; have := Zw50.out; have := Zw52.out; have := Zw53.out; have := Zw54.out; have := Zw56.out; have := Zw58.out; have := Zw59.out; have h3_ := hs_.1; have h4_ := hs_.2; omega))); replace BK353 := Aside0.mk (blk_kept (blk_below BK353.out bgo_) hkp (fun hs_ => by have h1_ := ZB353.out.1; have h2_ := ZB353.out.2; have := Zw35.out; have := Zw37.out; have := Zw39.out; have := Zw41.out; have := Zw44.out; have := Zw46.out; have := Zw49.out; have := Zw50.out; have := Zw52.out; have := Zw53.out; have := Zw54.out; have := Zw56.out; have := Zw58.out; have := Zw59.out; have h3_ := hs_.1; have h4_ := hs_.2; omega)); replace HO356 := Aside0.mk (hy0); replace HO362 := Aside0.mk (Kd.S_step HO362.out (fun k_ ho_ hl_ => hkp.2 k_ hl_ (fun hs_ => by have h1_ := ho_.1; have h2_ := ho_.2; have := Zw35.out; have := Zw37.out; have := Zw39.out; have := Zw41.out; have := Zw44.out; have := Zw46.out; have := Zw49.out; have := Zw50.out; have := Zw52.out; have := Zw53.out; have := Zw54.out; have := Zw56.out; have := Zw58.out; have := Zw59.out; have h3_ := hs_.1; have h4_ := hs_.2; omega))); replace HB := Aside0.mk (hb); have Zw60 := Aside0.mk (hkp.1); (try clear hb); (try clear hkp); (try clear hd_); (try clear hy0)) | ((with_reducible refine gate_callee (f := 28) rfl ?_); refine goesL_ (some 75) rfl rfl Try.func28 (by kernel_rfl) rfl #[.slice Ao51 t354.length co51, .int .i64 1] rfl (by (try simp only [List.map_toArray, List.map_cons, List.map_nil]); first | done | rfl) ?_; refine calls_of_args (args' := #[.slice Ao51 t368.length co51, .int .i64 1]) (by first | rfl | (rw [show t354.length = t368.length from (Kd.S_reads' HO356.out).1] <;> rfl) | (simp only [show t354.length = t368.length from (Kd.S_reads' HO356.out).1])) ?_; (with_reducible refine (laws_heldInt64SS.calls k _ _ t368 1 t369 _ ?side1 ?side2 A24.out).mono ?_); (case side1 => exact (Kd.S_reads' HO356.out).2.2); (case side2 => (have e_ := Kd.S_reads' HO356.out; have e1_ := e_.1; have e2_ := e_.2.1; omega)); rintro e w61 ⟨rfl, hd_⟩; refine ⟨_, rfl, ?_⟩; have hb := hd_.below; replace BK339 := Aside0.mk (blk_below (g := gb339) (o := .cells #[.int .i64 a0_0, .slice A0_1 l0_1.length c0_1] 24 (0, 0)) (blk_below BK339.out bgo_) hb); replace HO344 := Aside0.mk (Kd.S_below HO344.out hb); replace HO347 := Aside0.mk (Kd.S_below HO347.out hb); replace HO352 := Aside0.mk (Kd.S_below HO352.out hb); replace BK353 := Aside0.mk (blk_below (g := gb353) (o := .cells #[.int .i64 t349, .slice Ao45 t350.length co45] 29 (0, 0)) (blk_below BK353.out bgo_) hb); replace HO356 := Aside0.mk (Kd.S_below HO356.out hb); replace HO362 := Aside0.mk (Kd.S_below HO362.out hb); replace HB := Aside0.mk (below_step HB.out hb); have Zw61 := Aside0.mk (hb.size); (try clear hb); (try clear hkp); (try clear hd_); have hcz62_0 : w61.cell? ⟨gb339, 0, none⟩ = some (.int .i64 a0_0) := (blk_cell BK339.out 0).trans rfl; have hcz62_1 : w61.cell? ⟨gb339, 1, none⟩ = some (.slice A0_1 l0_1.length c0_1) := (blk_cell BK339.out 1).trans rfl; have hfz62_0 := blk_frozen BK339.out 0; have hfz62_1 := blk_frozen BK339.out 1) | ((with_reducible refine gate_callee (f := 12) rfl ?_); refine goesL_ (some 83) rfl rfl Try.func12 (by kernel_rfl) rfl #[.agg #[.int .i64 a0_0, .slice A0_1 l0_1.length c0_1]] rfl (by (try simp only [List.map_toArray, List.map_cons, List.map_nil]); first | done | rfl) ?_; (with_reducible refine (laws_toGraph.calls k a0_0 _ _ l0_1 t370 t371 _ ?side1 ?side2 A27.out).mono ?_); (case side1 => exact (Kd.C_below HR0_1.out HB.out)); (case side2 => exact HC0_1.out); rintro e w63 ⟨v372, rfl, ho0, hb⟩; refine ⟨_, rfl, ?_⟩; replace BK339 := Aside0.mk (blk_below (g := gb339) (o := .cells #[.int .i64 a0_0, .slice A0_1 l0_1.length c0_1] 24 (0, 0)) (blk_below BK339.out bgo_) hb); replace HO344 := Aside0.mk (Kd.S_below HO344.out hb); replace HO347 := Aside0.mk (Kd.S_below HO347.out hb); replace HO352 := Aside0.mk (Kd.S_below HO352.out hb); replace BK353 := Aside0.mk (blk_below (g := gb353) (o := .cells #[.int .i64 t349, .slice Ao45 t350.length co45] 29 (0, 0)) (blk_below BK353.out bgo_) hb); replace HO356 := Aside0.mk (Kd.S_below HO356.out hb); replace HO362 := Aside0.mk (Kd.S_below HO362.out hb); have HO373 := Aside0.mk (Kd.S_lower (Kd.S_mono (Kd.S_bound ho0) (fun k_ hk_ => (⟨hk_.2.1, hk_.2.2.1⟩ : w61.heap.size ≤ k_ ∧ k_ < w63.heap.size))) HB.out.size); replace HB := Aside0.mk (below_step HB.out hb); have Zw63 := Aside0.mk (hb.size); (try clear hb); (try clear hkp); (try clear hd_); (try clear ho0); obtain ⟨Ao64, co64, eo64⟩ := Kd.S_slice HO373.out; subst eo64) | ((with_reducible refine gate_callee (f := 25) rfl ?_); refine goesL_ (some 86) rfl rfl Try.func25 (by kernel_rfl) rfl #[.agg #[.int .i64 t370, .slice Ao64 t371.length co64], .int .i64 a1, .int .i64 a2] rfl (by (try simp only [List.map_toArray, List.map_cons, List.map_nil]); first | done | rfl) ?_; (with_reducible refine (impl_WalksFrom.calls k t370 _ _ t371 a1 a2 t374 t377 _ ?side1 ?side2 A28.out).mono ?_); (case side1 => exact (Kd.S_reads' HO373.out).2.2); (case side2 => (have e_ := Kd.S_reads' HO373.out; have e1_ := e_.1; have e2_ := e_.2.1; omega)); rintro e w65 ⟨v375, rfl, ho0, hb⟩; refine ⟨_, rfl, ?_⟩; replace BK339 := Aside0.mk (blk_below (g := gb339) (o := .cells #[.int .i64 a0_0, .slice A0_1 l0_1.length c0_1] 24 (0, 0)) (blk_below BK339.out bgo_) hb); replace HO344 := Aside0.mk (Kd.S_below HO344.out hb); replace HO347 := Aside0.mk (Kd.S_below HO347.out hb); replace HO352 := Aside0.mk (Kd.S_below HO352.out hb); replace BK353 := Aside0.mk (blk_below (g := gb353) (o := .cells #[.int .i64 t349, .slice Ao45 t350.length co45] 29 (0, 0)) (blk_below BK353.out bgo_) hb); replace HO356 := Aside0.mk (Kd.S_below HO356.out hb); replace HO362 := Aside0.mk (Kd.S_below HO362.out hb); replace HO373 := Aside0.mk (Kd.S_below HO373.out hb); have HO376 := Aside0.mk (Kd.S_lower (Kd.S_mono (Kd.S_bound ho0) (fun k_ hk_ => (⟨hk_.2.1, hk_.2.2.1⟩ : w63.heap.size ≤ k_ ∧ k_ < w65.heap.size))) HB.out.size); replace HB := Aside0.mk (below_step HB.out hb); have Zw65 := Aside0.mk (hb.size); (try clear hb); (try clear hkp); (try clear hd_); (try clear ho0); obtain ⟨Ao66, co66, eo66⟩ := Kd.S_slice HO376.out; subst eo66) | ((with_reducible refine gate_callee (f := 26) rfl ?_); refine goesL_ (some 91) rfl rfl Try.func26 (by kernel_rfl) rfl #[.slice Ao66 t374.length co66, .slice Ao42 t345.length co42] rfl (by (try simp only [List.map_toArray, List.map_cons, List.map_nil]); first | done | rfl) ?_; (with_reducible refine (laws_eqInt64SS.calls k _ _ t374 _ _ t345 true _ ?side1 ?side2 ?side3 ?side4 A29.out).mono ?_); (case side1 => exact (Kd.S_reads' HO376.out).2.2); (case side2 => (have e_ := Kd.S_reads' HO376.out; have e1_ := e_.1; have e2_ := e_.2.1; omega)); (case side3 => exact (Kd.S_reads' HO347.out).2.2); (case side4 => (have e_ := Kd.S_reads' HO347.out; have e1_ := e_.1; have e2_ := e_.2.1; omega)); rintro e w67 ⟨rfl, hd_⟩; refine ⟨_, rfl, ?_⟩; have hb := hd_.below; replace BK339 := Aside0.mk (blk_below (g := gb339) (o := .cells #[.int .i64 a0_0, .slice A0_1 l0_1.length c0_1] 24 (0, 0)) (blk_below BK339.out bgo_) hb); replace HO344 := Aside0.mk (Kd.S_below HO344.out hb); replace HO347 := Aside0.mk (Kd.S_below HO347.out hb); replace HO352 := Aside0.mk (Kd.S_below HO352.out hb); replace BK353 := Aside0.mk (blk_below (g := gb353) (o := .cells #[.int .i64 t349, .slice Ao45 t350.length co45] 29 (0, 0)) (blk_below BK353.out bgo_) hb); replace HO356 := Aside0.mk (Kd.S_below HO356.out hb); replace HO362 := Aside0.mk (Kd.S_below HO362.out hb); replace HO373 := Aside0.mk (Kd.S_below HO373.out hb); replace HO376 := Aside0.mk (Kd.S_below HO376.out hb); replace HB := Aside0.mk (below_step HB.out hb); have Zw67 := Aside0.mk (hb.size); (try clear hb); (try clear hkp); (try clear hd_)) | ((with_reducible refine gate_callee (f := 28) rfl ?_); refine goesL_ (some 100) rfl rfl Try.func28 (by kernel_rfl) rfl #[.slice Ao51 t354.length co51, .int .i64 1] rfl (by (try simp only [List.map_toArray, List.map_cons, List.map_nil]); first | done | rfl) ?_; refine calls_of_args (args' := #[.slice Ao51 t368.length co51, .int .i64 1]) (by first | rfl | (rw [show t354.length = t368.length from (Kd.S_reads' HO356.out).1] <;> rfl) | (simp only [show t354.length = t368.length from (Kd.S_reads' HO356.out).1])) ?_; (with_reducible refine (laws_heldInt64SS.calls k _ _ t368 1 t379 _ ?side1 ?side2 A32.out).mono ?_); (case side1 => exact (Kd.S_reads' HO356.out).2.2); (case side2 => (have e_ := Kd.S_reads' HO356.out; have e1_ := e_.1; have e2_ := e_.2.1; omega)); rintro e w68 ⟨rfl, hd_⟩; refine ⟨_, rfl, ?_⟩; have hb := hd_.below; replace BK339 := Aside0.mk (blk_below (g := gb339) (o := .cells #[.int .i64 a0_0, .slice A0_1 l0_1.length c0_1] 24 (0, 0)) (blk_below BK339.out bgo_) hb); replace HO344 := Aside0.mk (Kd.S_below HO344.out hb); replace HO347 := Aside0.mk (Kd.S_below HO347.out hb); replace HO352 := Aside0.mk (Kd.S_below HO352.out hb); replace BK353 := Aside0.mk (blk_below (g := gb353) (o := .cells #[.int .i64 t349, .slice Ao45 t350.length co45] 29 (0, 0)) (blk_below BK353.out bgo_) hb); replace HO356 := Aside0.mk (Kd.S_below HO356.out hb); replace HO362 := Aside0.mk (Kd.S_below HO362.out hb); replace HO373 := Aside0.mk (Kd.S_below HO373.out hb); replace HO376 := Aside0.mk (Kd.S_below HO376.out hb); replace HB := Aside0.mk (below_step HB.out hb); have Zw68 := Aside0.mk (hb.size); (try clear hb); (try clear hkp); (try clear hd_)))
                          go_ret
                          exact ⟨er_, hbs_⟩
                        · rw [if_neg c34] at H
                          have c34b0 : (t379 == t367) = false := beq_eq_false_iff_ne.mpr c34
                          have c34b1 : (t379 != t367) = true := bne_iff_ne.mpr c34
                          exact absurd H (by simp)
                    · rw [if_neg c31] at H
                      have c31b0 : (t377 == t348) = false := beq_eq_false_iff_ne.mpr c31
                      have c31b1 : (t377 != t348) = true := bne_iff_ne.mpr c31
                      exact absurd H (by simp)
                  · replace c30 := Bool.eq_false_iff.mpr c30
                    subst c30
                    have H1 : (some false) = some true := by rw [if_neg (show ¬ (false = true) by decide)] at H; exact H
                    clear H
                    have H := H1
                    clear H1
                    exact absurd H (by simp)
                · rw [if_neg c26] at H
                  have c26b0 : (t369 == t367) = false := beq_eq_false_iff_ne.mpr c26
                  have c26b1 : (t369 != t367) = true := bne_iff_ne.mpr c26
                  exact absurd H (by simp)
            · replace c22 := Bool.eq_false_iff.mpr c22
              subst c22
              have H1 : (some false) = some true := by rw [if_neg (show ¬ (false = true) by decide)] at H; exact H
              clear H
              have H := H1
              clear H1
              exact absurd H (by simp)
        · replace c18 := Bool.eq_false_iff.mpr c18
          subst c18
          have H1 : (some false) = some true := by rw [if_neg (show ¬ (false = true) by decide)] at H; exact H
          clear H
          have H := H1
          clear H1
          exact absurd H (by simp)
      · rw [if_neg c15] at H
        have c15b0 : (t357 == t348) = false := beq_eq_false_iff_ne.mpr c15
        have c15b1 : (t357 != t348) = true := bne_iff_ne.mpr c15
        exact absurd H (by simp)
    · replace c14 := Bool.eq_false_iff.mpr c14
      subst c14
      have H1 : (some false) = some true := by rw [if_neg (show ¬ (false = true) by decide)] at H; exact H
      clear H
      have H := H1
      clear H1
      exact absurd H (by simp)

/-- THE ONE PURE STATEMENT of laws_FnExactWalksFrom: yours. -/
def laws_FnExactWalksFrom.Pure : Prop := ∀ (a0_0 : Int) (l0_1 : List (List Int)) (a1 : Int) (a2 : Int), (Lit.int .i64 a0_0).wf = true → l0_1.length ≤ maxLen → (∀ r ∈ l0_1, r.length ≤ maxLen ∧ ∀ y ∈ r, (Lit.int .i64 y).wf = true) → (Lit.int .i64 a1).wf = true → (Lit.int .i64 a2).wf = true → ∃ k, laws_FnExactWalksFrom.f k a0_0 l0_1 a1 a2 = some true
theorem laws_FnExactWalksFrom.walk (P : laws_FnExactWalksFrom.Pure) (a0_0 : Int) (A0_1 : Option Addr) (c0_1 : Nat) (l0_1 : List (List Int)) (a1 : Int) (a2 : Int) (w : World) (hw0_0 : (Lit.int .i64 a0_0).wf = true) (hm0_1 : l0_1.length ≤ maxLen) (hw0_1 : (∀ r ∈ l0_1, r.length ≤ maxLen ∧ ∀ y ∈ r, (Lit.int .i64 y).wf = true)) (hr0_1 : Kd.C (Kd.slice 2 (Kd.int .i64)) w A0_1 l0_1.length l0_1) (hc0_1 : l0_1.length ≤ c0_1) (hw1 : (Lit.int .i64 a1).wf = true) (hw2 : (Lit.int .i64 a2).wf = true) :
    Calls Try.prog 6 #[.agg #[.int .i64 a0_0, .slice A0_1 l0_1.length c0_1], .int .i64 a1, .int .i64 a2] w fun e w' => e = .returned (.bool true) ∧ Below w.heap.size w w' := by
  obtain ⟨k, h⟩ := P a0_0 l0_1 a1 a2 hw0_0 hm0_1 hw0_1 hw1 hw2
  refine (laws_FnExactWalksFrom.calls k a0_0 _ _ l0_1 a1 a2 w hr0_1 hc0_1 h).mono ?_
  rintro e w' ⟨rfl, hd⟩
  exact ⟨rfl, hd⟩

end Go.Proofs.Ytipigagbgpoecaa.G
