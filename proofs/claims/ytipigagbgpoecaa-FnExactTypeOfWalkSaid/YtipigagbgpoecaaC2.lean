/- The printed functions that this law reaches, and their contracts: part 2. -/
-- printed by this repo's wip/printer out of the kit's print with its own changes
import Derived.Test.YtipigagbgpoecaaC1
namespace Go.Proofs.Ytipigagbgpoecaa.G
open Go.RowKit Go.Proofs.YtipigagbgpoecaaW.PrintWords Go.Proofs.YtipigagbgpoecaaW.PrintLast Go.Proofs.YtipigagbgpoecaaW.PrintMore
attribute [local go_sem] max2_int min2_int max_two min_two max_three min_three max_four min_four   -- for this text's walks alone
set_option linter.unusedVariables false
set_option linter.unusedSimpArgs false

/-! ### impl_IsCover: function 119 -/
def impl_IsCover.f (k : Nat) (a0_0 : Int) (l0_1 : List (List Int)) (a0_2 : Int) (l0_3 : List (List Int)) : Option (Bool) := (impl_IsGraph.f k a0_0 l0_1).bind fun t222 => (if t222 = true then ((impl_within.f a0_2 1 4).bind fun t223 => (if t223 = true then ((impl_Graph_size.f a0_0 l0_1).bind fun t224 => (if (l0_3.length : Int) = t224 then ((slices_ContainsFunc_int64_int64_131_at_IsCover_1.f k l0_3 a0_0 l0_1 a0_2 l0_3).bind fun t225 => (some (!t225))) else (some false))) else (some false))) else (some false))
def impl_IsCover.T1 : Bool × List (List Nat × List Nat) := (true, [([], []), ([0], [0]), ([1], [1]), ([2], [2]), ([3, 2], [3]), ([4], [4]), ([5, 4], [4, 5]), ([6, 4, 4], [4, 6]), ([7, 4], [4, 7]), ([4, 8], [4, 8]), ([9, 7], [9]), ([10], [10]), ([11, 10], [10, 11]), ([12, 10], [10, 12]), ([10], [10]), ([14, 10], [10, 14]), ([15, 10, 10], [10, 15]), ([13, 16, 10], [10, 13, 16]), ([10, 17], [10, 17])])
def impl_IsCover.B1 : List Nat := [0, 1, 3, 7, 15, 31, 63, 127, 255, 511, 1023, 2047, 4095, 8191, 2047, 18431, 51199, 131071, 262143]
theorem impl_IsCover.tab1 : rtab .any (opsOf Try.f119 1) = impl_IsCover.T1 := by kernel_rfl
theorem impl_IsCover.bits1 : waitsOk impl_IsCover.T1.2 impl_IsCover.B1 = true := by kernel_rfl
set_option maxHeartbeats 8000000 in
set_option maxRecDepth 100000 in
theorem impl_IsCover.calls (k : Nat) (a0_0 : Int) (A0_1 : Option Addr) (c0_1 : Nat) (l0_1 : List (List Int)) (a0_2 : Int) (A0_3 : Option Addr) (c0_3 : Nat) (l0_3 : List (List Int)) (r : Bool) (w : World) (hr0_1 : Kd.C (Kd.slice 2 (Kd.int .i64)) w A0_1 l0_1.length l0_1) (hc0_1 : l0_1.length ≤ c0_1) (hr0_3 : Kd.C (Kd.slice 2 (Kd.int .i64)) w A0_3 l0_3.length l0_3) (hc0_3 : l0_3.length ≤ c0_3) (h : impl_IsCover.f k a0_0 l0_1 a0_2 l0_3 = some r) :
  Calls Try.prog 119 #[.agg #[.int .i64 a0_0, .slice A0_1 l0_1.length c0_1, .int .i64 a0_2, .slice A0_3 l0_3.length c0_3]] w fun e w' => e = .returned (.bool r) ∧ Below w.heap.size w w' := by
 have hu52 := Try.underlying52
 have hu29 := Try.underlying29
 have HR0_1 := Aside0.mk hr0_1
 have HC0_1 := Aside0.mk hc0_1
 clear hr0_1 hc0_1
 have HR0_3 := Aside0.mk hr0_3
 have HC0_3 := Aside0.mk hc0_3
 clear hr0_3 hc0_3
 have HB := Aside0.mk (Below.refl w.heap.size w)
 have H : ((impl_IsGraph.f k a0_0 l0_1).bind fun t222 => (if t222 = true then ((impl_within.f a0_2 1 4).bind fun t223 => (if t223 = true then ((impl_Graph_size.f a0_0 l0_1).bind fun t224 => (if (l0_3.length : Int) = t224 then ((slices_ContainsFunc_int64_int64_131_at_IsCover_1.f k l0_3 a0_0 l0_1 a0_2 l0_3).bind fun t225 => (some (!t225))) else (some false))) else (some false))) else (some false))) = some r := h
 clear h
 obtain ⟨t222, A2, H⟩ := bnd_ H
 by_cases c3 : t222 = true
 ·subst c3
  have H1 : ((impl_within.f a0_2 1 4).bind fun t223 => (if t223 = true then ((impl_Graph_size.f a0_0 l0_1).bind fun t224 => (if (l0_3.length : Int) = t224 then ((slices_ContainsFunc_int64_int64_131_at_IsCover_1.f k l0_3 a0_0 l0_1 a0_2 l0_3).bind fun t225 => (some (!t225))) else (some false))) else (some false))) = some r := by rw [if_pos rfl] at H; exact H
  clear H
  have H := H1
  clear H1
  obtain ⟨t223, A4, H⟩ := bnd_ H
  by_cases c5 : t223 = true
  ·subst c5
   have H1 : ((impl_Graph_size.f a0_0 l0_1).bind fun t224 => (if (l0_3.length : Int) = t224 then ((slices_ContainsFunc_int64_int64_131_at_IsCover_1.f k l0_3 a0_0 l0_1 a0_2 l0_3).bind fun t225 => (some (!t225))) else (some false))) = some r := by rw [if_pos rfl] at H; exact H
   clear H
   have H := H1
   clear H1
   obtain ⟨t224, A6, H⟩ := bnd_ H
   by_cases c7 : (l0_3.length : Int) = t224
   ·rw [if_pos c7] at H
    have c7b0 : ((l0_3.length : Int) == t224) = true := beq_iff_eq.mpr c7
    have c7b1 : ((l0_3.length : Int) != t224) = false := bne_eq_false_iff_eq.mpr c7
    clear c7
    obtain ⟨t225, A8, H⟩ := bnd_ H
    obtain rfl := Option.some.inj H
    go_enter Try.func119, Try.ntmps119
    try go_wp2_with (first | ((with_reducible refine gate_dst (N := 1) rfl ?_); (try (refine gate_guard (by rfl) ?_; dsimp only)); refine box_event ?hg (N := 1) ?hd (cs := #[.int .i64 a0_0, .slice A0_1 l0_1.length c0_1, .int .i64 a0_2, .slice A0_3 l0_3.length c0_3]) (t := 52) ?hr ?_; (case hd => rfl); (case hg => rfl); (case hr => first | (go_simp; done) | (go_simp; rfl)); intro gb221 hg w9 hbox hb; have BK221 := Aside0.mk (hbox); have GW221 := Aside0.mk ((by rw [hg]; exact (below_size hb_) : w.heap.size ≤ gb221)); have GE221 := Aside0.mk ((by rw [hg]; exact (below_size hb_) : w.heap.size ≤ gb221)); replace HB := Aside0.mk (below_step hb_ hb); clear hb hbox hg))
    have n0_ := Aside0.mk (blk_drew BK221.out)
    have n1_ := Aside0.mk (below_drew1 HB.out)
    clear BK221
    clear HB
    have BK221 := n0_
    have HB := n1_
    clear n0_ n1_
    refine start_ (n := 19) (S := fun w' => w'.cell? ⟨gb221, 0, none⟩ = some (.int .i64 a0_0) ∧ w'.cell? ⟨gb221, 1, none⟩ = some (.slice A0_1 l0_1.length c0_1) ∧ w'.cell? ⟨gb221, 2, none⟩ = some (.int .i64 a0_2) ∧ w'.cell? ⟨gb221, 3, none⟩ = some (.slice A0_3 l0_3.length c0_3)) (ds := []) #[false, false, false, false, false, false, false, false, false, false, false, false, false, false, false, false, false, false, false] (by kernel_rfl) rfl rfl ⟨(blk_cell BK221.out 0).trans rfl, (blk_cell BK221.out 1).trans rfl, (blk_cell BK221.out 2).trans rfl, (blk_cell BK221.out 3).trans rfl⟩ (fun hHeld => ?_); refine with_tabW impl_IsCover.tab1 impl_IsCover.bits1 (fun HT_ HW_ => ?_)
    generalize w9.drew = w10 at BK221 HB hHeld ⊢
    refine pk_ 0 19 3 1 ?_
    refine tk_ 1 19 4 3 hHeld ?_
    refine one_ (i := 2) (N := some 5) #[true, true, true, false, false, false, false, false, false, false, false, false, false, false, false, false, false, false, false] rfl rfl (one_of HT_.out (by kernel_rfl)) (by decide) (fun K hK => ?_)
    refine goes_ Try.func46 (by kernel_rfl) rfl #[.agg #[.int .i64 a0_0, .slice A0_1 l0_1.length c0_1]] (by rfl) rfl rfl arg_ ?_
    with_reducible refine (impl_IsGraph.calls k a0_0 _ _ l0_1 true _ ?side1 ?side2 A2.out).mono ?_
    (case side1 => exact Kd.C_below (Kd.C_below HR0_1.out HB.out) bgo_)
    (case side2 => exact HC0_1.out)
    rintro e w11 ⟨rfl, hb⟩
    refine ⟨_, rfl, ?_⟩
    have n0_ := Aside0.mk (blk_below (g := gb221) (o := .cells #[.int .i64 a0_0, .slice A0_1 l0_1.length c0_1, .int .i64 a0_2, .slice A0_3 l0_3.length c0_3] 52 (0, 0)) (blk_below BK221.out bgo_) hb)
    have n1_ := Aside0.mk (below_step hbs_ hb)
    clear BK221
    clear HB
    have BK221 := n0_
    have HB := n1_
    clear n0_ n1_
    (try clear hb)
    (try clear hb2)
    (try clear hk)
    (try clear hi)
    refine hK.out _ _ ⟨(blk_cell BK221.out 0).trans rfl, (blk_cell BK221.out 1).trans rfl, (blk_cell BK221.out 2).trans rfl, (blk_cell BK221.out 3).trans rfl⟩ (fun hHeld => ?_)
    clear hK K
    refine norm_ (a' := ?_) ?_ ?_
    rotate_left
    ·show Act.put _ (some 5) _ = _
     simp only [Act.put, nf_]
     rfl
    refine pk_ 3 19 6 15 ?_
    refine pk_ 4 19 7 31 ?_
    refine pk_ 5 19 8 63 ?_
    refine tk_ 6 19 9 127 hHeld ?_
    refine one_ (i := 7) (N := some 10) #[true, true, true, true, true, true, true, true, false, false, false, false, false, false, false, false, false, false, false] rfl rfl (one_of HT_.out (by kernel_rfl)) (by decide) (fun K hK => ?_)
    refine goes_ Try.func58 (by kernel_rfl) rfl #[.int .i64 a0_2, .int .i64 1, .int .i64 4] (by rfl) rfl rfl arg_ ?_
    with_reducible refine (impl_within.calls a0_2 1 4 true _ A4.out).mono ?_
    rintro e w' ⟨rfl, ⟨nd, rfl⟩⟩
    refine ⟨_, rfl, ?_⟩
    refine hK.out _ _ ⟨(blk_cell BK221.out 0).trans rfl, (blk_cell BK221.out 1).trans rfl, (blk_cell BK221.out 2).trans rfl, (blk_cell BK221.out 3).trans rfl⟩ (fun hHeld => ?_)
    clear hK K
    refine norm_ (a' := ?_) ?_ ?_
    rotate_left
    ·show Act.put _ (some 10) _ = _
     simp only [Act.put, nf_]
     rfl
    refine pk_ 8 19 11 511 ?_
    refine pk_ 9 19 12 1023 ?_
    refine pk_ 10 19 13 2047 ?_
    refine pk_ 11 19 14 4095 ?_
    refine pk_ 14 19 17 20479 ?_
    refine tk_ 12 19 15 24575 hHeld ?_
    refine pk_ 13 19 16 32767 ?_
    refine tk_ 15 19 18 65535 hHeld ?_
    refine one_ (i := 16) (N := some 19) #[true, true, true, true, true, true, true, true, true, true, true, true, true, true, true, true, true, false, false] rfl rfl (one_of HT_.out (by kernel_rfl)) (by decide) (fun K hK => ?_)
    refine goes_ Try.func104 (by kernel_rfl) rfl #[.agg #[.int .i64 a0_0, .slice A0_1 l0_1.length c0_1]] (by rfl) rfl rfl arg_ ?_
    with_reducible refine (impl_Graph_size.calls a0_0 _ _ l0_1 t224 _ ?side1 ?side2 A6.out).mono ?_
    (case side1 => exact Kd.C_below (Kd.C_below HR0_1.out hbs_) bgo_)
    (case side2 => exact HC0_1.out)
    rintro e w12 ⟨rfl, hb⟩
    refine ⟨_, rfl, ?_⟩
    have n0_ := Aside0.mk (blk_below (g := gb221) (o := .cells #[.int .i64 a0_0, .slice A0_1 l0_1.length c0_1, .int .i64 a0_2, .slice A0_3 l0_3.length c0_3] 52 (0, 0)) (blk_below BK221.out bgo_) hb)
    have n1_ := Aside0.mk (below_step hbs_ hb)
    clear BK221
    clear HB
    have BK221 := n0_
    have HB := n1_
    clear n0_ n1_
    (try clear hb)
    (try clear hb2)
    (try clear hk)
    (try clear hi)
    refine hK.out _ _ ⟨(blk_cell BK221.out 0).trans rfl, (blk_cell BK221.out 1).trans rfl, (blk_cell BK221.out 2).trans rfl, (blk_cell BK221.out 3).trans rfl⟩ (fun hHeld => ?_)
    clear hK K
    refine norm_ (a' := ?_) ?_ ?_
    rotate_left
    ·show Act.put _ (some 19) _ = _
     simp only [Act.put, nf_]
     rfl
    refine pk_ 17 19 20 262143 ?_
    refine pk_ 18 19 21 524287 ?_
    refine done_ (done_of HT_.out (by kernel_rfl)) ?_
    have hcz13_0 : w12.cell? ⟨gb221, 0, none⟩ = some (.int .i64 a0_0) := (blk_cell BK221.out 0).trans rfl
    have hcz13_1 : w12.cell? ⟨gb221, 1, none⟩ = some (.slice A0_1 l0_1.length c0_1) := (blk_cell BK221.out 1).trans rfl
    have hcz13_2 : w12.cell? ⟨gb221, 2, none⟩ = some (.int .i64 a0_2) := (blk_cell BK221.out 2).trans rfl
    have hcz13_3 : w12.cell? ⟨gb221, 3, none⟩ = some (.slice A0_3 l0_3.length c0_3) := (blk_cell BK221.out 3).trans rfl
    have hfz13_0 := blk_frozen BK221.out 0
    have hfz13_1 := blk_frozen BK221.out 1
    have hfz13_2 := blk_frozen BK221.out 2
    have hfz13_3 := blk_frozen BK221.out 3
    try go_wp2_with (first | ((with_reducible refine gate_callee (f := 131) rfl ?_); refine goesL_ (some 25) rfl rfl Try.func131 (by kernel_rfl) rfl #[.slice A0_3 l0_3.length c0_3, .func (.func 132) #[] #[.pointer (some ⟨gb221, 0, none⟩)]] rfl arg_ ?_; (with_reducible refine (slices_ContainsFunc_int64_int64_131_at_IsCover_1.calls k _ _ l0_3 gb221 a0_0 A0_1 c0_1 l0_1 a0_2 A0_3 c0_3 l0_3 t225 _ ?side1 ?side2 ?side3 ?side4 ?side5 ?side6 ?side7 A8.out).mono ?_); (case side1 => exact Kd.C_below (Kd.C_below HR0_3.out HB.out) bgo_); (case side2 => exact HC0_3.out); (case side3 => exact (blk_below BK221.out bgo_)); (case side4 => exact Kd.C_below (Kd.C_below HR0_1.out HB.out) bgo_); (case side5 => exact HC0_1.out); (case side6 => exact Kd.C_below (Kd.C_below HR0_3.out HB.out) bgo_); (case side7 => exact HC0_3.out); rintro e w14 ⟨rfl, hb⟩; refine ⟨_, rfl, ?_⟩; replace BK221 := Aside0.mk (blk_below (g := gb221) (o := .cells #[.int .i64 a0_0, .slice A0_1 l0_1.length c0_1, .int .i64 a0_2, .slice A0_3 l0_3.length c0_3] 52 (0, 0)) (blk_below BK221.out bgo_) hb); replace HB := Aside0.mk (below_step hbs_ hb); (try clear hb); (try clear hb2); (try clear hk); (try clear hi)))
    go_ret
    exact ⟨er_, hbs_⟩
   ·rw [if_neg c7] at H
    have c7b0 : ((l0_3.length : Int) == t224) = false := beq_eq_false_iff_ne.mpr c7
    have c7b1 : ((l0_3.length : Int) != t224) = true := bne_iff_ne.mpr c7
    obtain rfl := Option.some.inj H
    go_enter Try.func119, Try.ntmps119
    try go_wp2_with (first | ((with_reducible refine gate_dst (N := 1) rfl ?_); (try (refine gate_guard (by rfl) ?_; dsimp only)); refine box_event ?hg (N := 1) ?hd (cs := #[.int .i64 a0_0, .slice A0_1 l0_1.length c0_1, .int .i64 a0_2, .slice A0_3 l0_3.length c0_3]) (t := 52) ?hr ?_; (case hd => rfl); (case hg => rfl); (case hr => first | (go_simp; done) | (go_simp; rfl)); intro gb221 hg w15 hbox hb; have BK221 := Aside0.mk (hbox); have GW221 := Aside0.mk ((by rw [hg]; exact (below_size hb_) : w.heap.size ≤ gb221)); have GE221 := Aside0.mk ((by rw [hg]; exact (below_size hb_) : w.heap.size ≤ gb221)); replace HB := Aside0.mk (below_step hb_ hb); clear hb hbox hg))
    have n0_ := Aside0.mk (blk_drew BK221.out)
    have n1_ := Aside0.mk (below_drew1 HB.out)
    clear BK221
    clear HB
    have BK221 := n0_
    have HB := n1_
    clear n0_ n1_
    refine start_ (n := 19) (S := fun w' => w'.cell? ⟨gb221, 0, none⟩ = some (.int .i64 a0_0) ∧ w'.cell? ⟨gb221, 1, none⟩ = some (.slice A0_1 l0_1.length c0_1) ∧ w'.cell? ⟨gb221, 2, none⟩ = some (.int .i64 a0_2) ∧ w'.cell? ⟨gb221, 3, none⟩ = some (.slice A0_3 l0_3.length c0_3)) (ds := []) #[false, false, false, false, false, false, false, false, false, false, false, false, false, false, false, false, false, false, false] (by kernel_rfl) rfl rfl ⟨(blk_cell BK221.out 0).trans rfl, (blk_cell BK221.out 1).trans rfl, (blk_cell BK221.out 2).trans rfl, (blk_cell BK221.out 3).trans rfl⟩ (fun hHeld => ?_); refine with_tabW impl_IsCover.tab1 impl_IsCover.bits1 (fun HT_ HW_ => ?_)
    generalize w15.drew = w16 at BK221 HB hHeld ⊢
    refine pk_ 0 19 3 1 ?_
    refine tk_ 1 19 4 3 hHeld ?_
    refine one_ (i := 2) (N := some 5) #[true, true, true, false, false, false, false, false, false, false, false, false, false, false, false, false, false, false, false] rfl rfl (one_of HT_.out (by kernel_rfl)) (by decide) (fun K hK => ?_)
    refine goes_ Try.func46 (by kernel_rfl) rfl #[.agg #[.int .i64 a0_0, .slice A0_1 l0_1.length c0_1]] (by rfl) rfl rfl arg_ ?_
    with_reducible refine (impl_IsGraph.calls k a0_0 _ _ l0_1 true _ ?side1 ?side2 A2.out).mono ?_
    (case side1 => exact Kd.C_below (Kd.C_below HR0_1.out HB.out) bgo_)
    (case side2 => exact HC0_1.out)
    rintro e w17 ⟨rfl, hb⟩
    refine ⟨_, rfl, ?_⟩
    have n0_ := Aside0.mk (blk_below (g := gb221) (o := .cells #[.int .i64 a0_0, .slice A0_1 l0_1.length c0_1, .int .i64 a0_2, .slice A0_3 l0_3.length c0_3] 52 (0, 0)) (blk_below BK221.out bgo_) hb)
    have n1_ := Aside0.mk (below_step hbs_ hb)
    clear BK221
    clear HB
    have BK221 := n0_
    have HB := n1_
    clear n0_ n1_
    (try clear hb)
    (try clear hb2)
    (try clear hk)
    (try clear hi)
    refine hK.out _ _ ⟨(blk_cell BK221.out 0).trans rfl, (blk_cell BK221.out 1).trans rfl, (blk_cell BK221.out 2).trans rfl, (blk_cell BK221.out 3).trans rfl⟩ (fun hHeld => ?_)
    clear hK K
    refine norm_ (a' := ?_) ?_ ?_
    rotate_left
    ·show Act.put _ (some 5) _ = _
     simp only [Act.put, nf_]
     rfl
    refine pk_ 3 19 6 15 ?_
    refine pk_ 4 19 7 31 ?_
    refine pk_ 5 19 8 63 ?_
    refine tk_ 6 19 9 127 hHeld ?_
    refine one_ (i := 7) (N := some 10) #[true, true, true, true, true, true, true, true, false, false, false, false, false, false, false, false, false, false, false] rfl rfl (one_of HT_.out (by kernel_rfl)) (by decide) (fun K hK => ?_)
    refine goes_ Try.func58 (by kernel_rfl) rfl #[.int .i64 a0_2, .int .i64 1, .int .i64 4] (by rfl) rfl rfl arg_ ?_
    with_reducible refine (impl_within.calls a0_2 1 4 true _ A4.out).mono ?_
    rintro e w' ⟨rfl, ⟨nd, rfl⟩⟩
    refine ⟨_, rfl, ?_⟩
    refine hK.out _ _ ⟨(blk_cell BK221.out 0).trans rfl, (blk_cell BK221.out 1).trans rfl, (blk_cell BK221.out 2).trans rfl, (blk_cell BK221.out 3).trans rfl⟩ (fun hHeld => ?_)
    clear hK K
    refine norm_ (a' := ?_) ?_ ?_
    rotate_left
    ·show Act.put _ (some 10) _ = _
     simp only [Act.put, nf_]
     rfl
    refine pk_ 8 19 11 511 ?_
    refine pk_ 9 19 12 1023 ?_
    refine pk_ 10 19 13 2047 ?_
    refine pk_ 11 19 14 4095 ?_
    refine pk_ 14 19 17 20479 ?_
    refine tk_ 12 19 15 24575 hHeld ?_
    refine pk_ 13 19 16 32767 ?_
    refine tk_ 15 19 18 65535 hHeld ?_
    refine one_ (i := 16) (N := some 19) #[true, true, true, true, true, true, true, true, true, true, true, true, true, true, true, true, true, false, false] rfl rfl (one_of HT_.out (by kernel_rfl)) (by decide) (fun K hK => ?_)
    refine goes_ Try.func104 (by kernel_rfl) rfl #[.agg #[.int .i64 a0_0, .slice A0_1 l0_1.length c0_1]] (by rfl) rfl rfl arg_ ?_
    with_reducible refine (impl_Graph_size.calls a0_0 _ _ l0_1 t224 _ ?side1 ?side2 A6.out).mono ?_
    (case side1 => exact Kd.C_below (Kd.C_below HR0_1.out hbs_) bgo_)
    (case side2 => exact HC0_1.out)
    rintro e w18 ⟨rfl, hb⟩
    refine ⟨_, rfl, ?_⟩
    have n0_ := Aside0.mk (blk_below (g := gb221) (o := .cells #[.int .i64 a0_0, .slice A0_1 l0_1.length c0_1, .int .i64 a0_2, .slice A0_3 l0_3.length c0_3] 52 (0, 0)) (blk_below BK221.out bgo_) hb)
    have n1_ := Aside0.mk (below_step hbs_ hb)
    clear BK221
    clear HB
    have BK221 := n0_
    have HB := n1_
    clear n0_ n1_
    (try clear hb)
    (try clear hb2)
    (try clear hk)
    (try clear hi)
    refine hK.out _ _ ⟨(blk_cell BK221.out 0).trans rfl, (blk_cell BK221.out 1).trans rfl, (blk_cell BK221.out 2).trans rfl, (blk_cell BK221.out 3).trans rfl⟩ (fun hHeld => ?_)
    clear hK K
    refine norm_ (a' := ?_) ?_ ?_
    rotate_left
    ·show Act.put _ (some 19) _ = _
     simp only [Act.put, nf_]
     rfl
    refine pk_ 17 19 20 262143 ?_
    refine pk_ 18 19 21 524287 ?_
    refine done_ (done_of HT_.out (by kernel_rfl)) ?_
    try go_wp2
    go_ret
    exact ⟨er_, hbs_⟩
  ·replace c5 := Bool.eq_false_iff.mpr c5
   subst c5
   have H1 : (some false) = some r := by rw [if_neg (show ¬ (false = true) by decide)] at H; exact H
   clear H
   have H := H1
   clear H1
   obtain rfl := Option.some.inj H
   go_enter Try.func119, Try.ntmps119
   try go_wp2_with (first | ((with_reducible refine gate_dst (N := 1) rfl ?_); (try (refine gate_guard (by rfl) ?_; dsimp only)); refine box_event ?hg (N := 1) ?hd (cs := #[.int .i64 a0_0, .slice A0_1 l0_1.length c0_1, .int .i64 a0_2, .slice A0_3 l0_3.length c0_3]) (t := 52) ?hr ?_; (case hd => rfl); (case hg => rfl); (case hr => first | (go_simp; done) | (go_simp; rfl)); intro gb221 hg w19 hbox hb; have BK221 := Aside0.mk (hbox); have GW221 := Aside0.mk ((by rw [hg]; exact (below_size hb_) : w.heap.size ≤ gb221)); have GE221 := Aside0.mk ((by rw [hg]; exact (below_size hb_) : w.heap.size ≤ gb221)); replace HB := Aside0.mk (below_step hb_ hb); clear hb hbox hg))
   have n0_ := Aside0.mk (blk_drew BK221.out)
   have n1_ := Aside0.mk (below_drew1 HB.out)
   clear BK221
   clear HB
   have BK221 := n0_
   have HB := n1_
   clear n0_ n1_
   refine start_ (n := 19) (S := fun w' => w'.cell? ⟨gb221, 0, none⟩ = some (.int .i64 a0_0) ∧ w'.cell? ⟨gb221, 1, none⟩ = some (.slice A0_1 l0_1.length c0_1) ∧ w'.cell? ⟨gb221, 2, none⟩ = some (.int .i64 a0_2) ∧ w'.cell? ⟨gb221, 3, none⟩ = some (.slice A0_3 l0_3.length c0_3)) (ds := []) #[false, false, false, false, false, false, false, false, false, false, false, false, false, false, false, false, false, false, false] (by kernel_rfl) rfl rfl ⟨(blk_cell BK221.out 0).trans rfl, (blk_cell BK221.out 1).trans rfl, (blk_cell BK221.out 2).trans rfl, (blk_cell BK221.out 3).trans rfl⟩ (fun hHeld => ?_); refine with_tabW impl_IsCover.tab1 impl_IsCover.bits1 (fun HT_ HW_ => ?_)
   generalize w19.drew = w20 at BK221 HB hHeld ⊢
   refine pk_ 0 19 3 1 ?_
   refine tk_ 1 19 4 3 hHeld ?_
   refine one_ (i := 2) (N := some 5) #[true, true, true, false, false, false, false, false, false, false, false, false, false, false, false, false, false, false, false] rfl rfl (one_of HT_.out (by kernel_rfl)) (by decide) (fun K hK => ?_)
   refine goes_ Try.func46 (by kernel_rfl) rfl #[.agg #[.int .i64 a0_0, .slice A0_1 l0_1.length c0_1]] (by rfl) rfl rfl arg_ ?_
   with_reducible refine (impl_IsGraph.calls k a0_0 _ _ l0_1 true _ ?side1 ?side2 A2.out).mono ?_
   (case side1 => exact Kd.C_below (Kd.C_below HR0_1.out HB.out) bgo_)
   (case side2 => exact HC0_1.out)
   rintro e w21 ⟨rfl, hb⟩
   refine ⟨_, rfl, ?_⟩
   have n0_ := Aside0.mk (blk_below (g := gb221) (o := .cells #[.int .i64 a0_0, .slice A0_1 l0_1.length c0_1, .int .i64 a0_2, .slice A0_3 l0_3.length c0_3] 52 (0, 0)) (blk_below BK221.out bgo_) hb)
   have n1_ := Aside0.mk (below_step hbs_ hb)
   clear BK221
   clear HB
   have BK221 := n0_
   have HB := n1_
   clear n0_ n1_
   (try clear hb)
   (try clear hb2)
   (try clear hk)
   (try clear hi)
   refine hK.out _ _ ⟨(blk_cell BK221.out 0).trans rfl, (blk_cell BK221.out 1).trans rfl, (blk_cell BK221.out 2).trans rfl, (blk_cell BK221.out 3).trans rfl⟩ (fun hHeld => ?_)
   clear hK K
   refine norm_ (a' := ?_) ?_ ?_
   rotate_left
   ·show Act.put _ (some 5) _ = _
    simp only [Act.put, nf_]
    rfl
   refine pk_ 3 19 6 15 ?_
   refine pk_ 4 19 7 31 ?_
   refine pk_ 5 19 8 63 ?_
   refine tk_ 6 19 9 127 hHeld ?_
   refine one_ (i := 7) (N := some 10) #[true, true, true, true, true, true, true, true, false, false, false, false, false, false, false, false, false, false, false] rfl rfl (one_of HT_.out (by kernel_rfl)) (by decide) (fun K hK => ?_)
   refine goes_ Try.func58 (by kernel_rfl) rfl #[.int .i64 a0_2, .int .i64 1, .int .i64 4] (by rfl) rfl rfl arg_ ?_
   with_reducible refine (impl_within.calls a0_2 1 4 false _ A4.out).mono ?_
   rintro e w' ⟨rfl, ⟨nd, rfl⟩⟩
   refine ⟨_, rfl, ?_⟩
   refine hK.out _ _ ⟨(blk_cell BK221.out 0).trans rfl, (blk_cell BK221.out 1).trans rfl, (blk_cell BK221.out 2).trans rfl, (blk_cell BK221.out 3).trans rfl⟩ (fun hHeld => ?_)
   clear hK K
   refine norm_ (a' := ?_) ?_ ?_
   rotate_left
   ·show Act.put _ (some 10) _ = _
    simp only [Act.put, nf_]
    rfl
   refine pk_ 8 19 11 511 ?_
   refine pk_ 9 19 12 1023 ?_
   refine pk_ 10 19 13 2047 ?_
   refine pure_ (i := 11) (N := some 14) (v := undef) (a' := ?_) #[true, true, true, true, true, true, true, true, true, true, true, true, false, false, false, false, false, false, false] rfl rfl (any_of HT_.out (by kernel_rfl)) (fun _ _ _ h => h) (Or.inr ⟨by rfl, rfl⟩) ?_ ?_
   rotate_left
   ·simp only [Act.put, nf_]
    rfl
   refine pure_ (i := 12) (N := some 15) (v := undef) (a' := ?_) #[true, true, true, true, true, true, true, true, true, true, true, true, true, false, false, false, false, false, false] rfl rfl (any_of HT_.out (by kernel_rfl)) (fun _ _ _ h => h) (Or.inr ⟨by rfl, rfl⟩) ?_ ?_
   rotate_left
   ·simp only [Act.put, nf_]
    rfl
   refine pure_ (i := 13) (N := some 16) (v := undef) (a' := ?_) #[true, true, true, true, true, true, true, true, true, true, true, true, true, true, false, false, false, false, false] rfl rfl (any_of HT_.out (by kernel_rfl)) (fun _ _ _ h => h) (Or.inr ⟨by rfl, rfl⟩) ?_ ?_
   rotate_left
   ·simp only [Act.put, nf_]
    rfl
   refine pure_ (i := 14) (N := some 17) (v := undef) (a' := ?_) #[true, true, true, true, true, true, true, true, true, true, true, true, true, true, true, false, false, false, false] rfl rfl (any_of HT_.out (by kernel_rfl)) (fun _ _ _ h => h) (Or.inr ⟨by rfl, rfl⟩) ?_ ?_
   rotate_left
   ·simp only [Act.put, nf_]
    rfl
   refine pure_ (i := 15) (N := some 18) (v := undef) (a' := ?_) #[true, true, true, true, true, true, true, true, true, true, true, true, true, true, true, true, false, false, false] rfl rfl (any_of HT_.out (by kernel_rfl)) (fun _ _ _ h => h) (Or.inr ⟨by rfl, rfl⟩) ?_ ?_
   rotate_left
   ·simp only [Act.put, nf_]
    rfl
   refine pure_ (i := 16) (N := some 19) (v := undef) (a' := ?_) #[true, true, true, true, true, true, true, true, true, true, true, true, true, true, true, true, true, false, false] rfl rfl (any_of HT_.out (by kernel_rfl)) (fun _ _ _ h => h) (Or.inr ⟨by rfl, rfl⟩) ?_ ?_
   rotate_left
   ·simp only [Act.put, nf_]
    rfl
   refine pure_ (i := 17) (N := some 20) (v := undef) (a' := ?_) #[true, true, true, true, true, true, true, true, true, true, true, true, true, true, true, true, true, true, false] rfl rfl (any_of HT_.out (by kernel_rfl)) (fun _ _ _ h => h) (Or.inr ⟨by rfl, rfl⟩) ?_ ?_
   rotate_left
   ·simp only [Act.put, nf_]
    rfl
   refine pk_ 18 19 21 524287 ?_
   refine done_ (done_of HT_.out (by kernel_rfl)) ?_
   try go_wp2
   go_ret
   exact ⟨er_, hbs_⟩
 ·replace c3 := Bool.eq_false_iff.mpr c3
  subst c3
  have H1 : (some false) = some r := by rw [if_neg (show ¬ (false = true) by decide)] at H; exact H
  clear H
  have H := H1
  clear H1
  obtain rfl := Option.some.inj H
  go_enter Try.func119, Try.ntmps119
  try go_wp2_with (first | ((with_reducible refine gate_dst (N := 1) rfl ?_); (try (refine gate_guard (by rfl) ?_; dsimp only)); refine box_event ?hg (N := 1) ?hd (cs := #[.int .i64 a0_0, .slice A0_1 l0_1.length c0_1, .int .i64 a0_2, .slice A0_3 l0_3.length c0_3]) (t := 52) ?hr ?_; (case hd => rfl); (case hg => rfl); (case hr => first | (go_simp; done) | (go_simp; rfl)); intro gb221 hg w22 hbox hb; have BK221 := Aside0.mk (hbox); have GW221 := Aside0.mk ((by rw [hg]; exact (below_size hb_) : w.heap.size ≤ gb221)); have GE221 := Aside0.mk ((by rw [hg]; exact (below_size hb_) : w.heap.size ≤ gb221)); replace HB := Aside0.mk (below_step hb_ hb); clear hb hbox hg))
  have n0_ := Aside0.mk (blk_drew BK221.out)
  have n1_ := Aside0.mk (below_drew1 HB.out)
  clear BK221
  clear HB
  have BK221 := n0_
  have HB := n1_
  clear n0_ n1_
  refine start_ (n := 19) (S := fun w' => w'.cell? ⟨gb221, 0, none⟩ = some (.int .i64 a0_0) ∧ w'.cell? ⟨gb221, 1, none⟩ = some (.slice A0_1 l0_1.length c0_1) ∧ w'.cell? ⟨gb221, 2, none⟩ = some (.int .i64 a0_2) ∧ w'.cell? ⟨gb221, 3, none⟩ = some (.slice A0_3 l0_3.length c0_3)) (ds := []) #[false, false, false, false, false, false, false, false, false, false, false, false, false, false, false, false, false, false, false] (by kernel_rfl) rfl rfl ⟨(blk_cell BK221.out 0).trans rfl, (blk_cell BK221.out 1).trans rfl, (blk_cell BK221.out 2).trans rfl, (blk_cell BK221.out 3).trans rfl⟩ (fun hHeld => ?_); refine with_tabW impl_IsCover.tab1 impl_IsCover.bits1 (fun HT_ HW_ => ?_)
  generalize w22.drew = w23 at BK221 HB hHeld ⊢
  refine pk_ 0 19 3 1 ?_
  refine tk_ 1 19 4 3 hHeld ?_
  refine one_ (i := 2) (N := some 5) #[true, true, true, false, false, false, false, false, false, false, false, false, false, false, false, false, false, false, false] rfl rfl (one_of HT_.out (by kernel_rfl)) (by decide) (fun K hK => ?_)
  refine goes_ Try.func46 (by kernel_rfl) rfl #[.agg #[.int .i64 a0_0, .slice A0_1 l0_1.length c0_1]] (by rfl) rfl rfl arg_ ?_
  with_reducible refine (impl_IsGraph.calls k a0_0 _ _ l0_1 false _ ?side1 ?side2 A2.out).mono ?_
  (case side1 => exact Kd.C_below (Kd.C_below HR0_1.out HB.out) bgo_)
  (case side2 => exact HC0_1.out)
  rintro e w24 ⟨rfl, hb⟩
  refine ⟨_, rfl, ?_⟩
  have n0_ := Aside0.mk (blk_below (g := gb221) (o := .cells #[.int .i64 a0_0, .slice A0_1 l0_1.length c0_1, .int .i64 a0_2, .slice A0_3 l0_3.length c0_3] 52 (0, 0)) (blk_below BK221.out bgo_) hb)
  have n1_ := Aside0.mk (below_step hbs_ hb)
  clear BK221
  clear HB
  have BK221 := n0_
  have HB := n1_
  clear n0_ n1_
  (try clear hb)
  (try clear hb2)
  (try clear hk)
  (try clear hi)
  refine hK.out _ _ ⟨(blk_cell BK221.out 0).trans rfl, (blk_cell BK221.out 1).trans rfl, (blk_cell BK221.out 2).trans rfl, (blk_cell BK221.out 3).trans rfl⟩ (fun hHeld => ?_)
  clear hK K
  refine norm_ (a' := ?_) ?_ ?_
  rotate_left
  ·show Act.put _ (some 5) _ = _
   simp only [Act.put, nf_]
   rfl
  refine pk_ 3 19 6 15 ?_
  refine pk_ 4 19 7 31 ?_
  refine pure_ (i := 5) (N := some 8) (v := undef) (a' := ?_) #[true, true, true, true, true, true, false, false, false, false, false, false, false, false, false, false, false, false, false] rfl rfl (any_of HT_.out (by kernel_rfl)) (fun _ _ _ h => h) (Or.inr ⟨by rfl, rfl⟩) ?_ ?_
  rotate_left
  ·simp only [Act.put, nf_]
   rfl
  refine pure_ (i := 6) (N := some 9) (v := undef) (a' := ?_) #[true, true, true, true, true, true, true, false, false, false, false, false, false, false, false, false, false, false, false] rfl rfl (any_of HT_.out (by kernel_rfl)) (fun _ _ _ h => h) (Or.inr ⟨by rfl, rfl⟩) ?_ ?_
  rotate_left
  ·simp only [Act.put, nf_]
   rfl
  refine pure_ (i := 7) (N := some 10) (v := undef) (a' := ?_) #[true, true, true, true, true, true, true, true, false, false, false, false, false, false, false, false, false, false, false] rfl rfl (any_of HT_.out (by kernel_rfl)) (fun _ _ _ h => h) (Or.inr ⟨by rfl, rfl⟩) ?_ ?_
  rotate_left
  ·simp only [Act.put, nf_]
   rfl
  refine pure_ (i := 8) (N := some 11) (v := undef) (a' := ?_) #[true, true, true, true, true, true, true, true, true, false, false, false, false, false, false, false, false, false, false] rfl rfl (any_of HT_.out (by kernel_rfl)) (fun _ _ _ h => h) (Or.inr ⟨by rfl, rfl⟩) ?_ ?_
  rotate_left
  ·simp only [Act.put, nf_]
   rfl
  refine pk_ 9 19 12 1023 ?_
  refine pk_ 10 19 13 2047 ?_
  refine pure_ (i := 11) (N := some 14) (v := undef) (a' := ?_) #[true, true, true, true, true, true, true, true, true, true, true, true, false, false, false, false, false, false, false] rfl rfl (any_of HT_.out (by kernel_rfl)) (fun _ _ _ h => h) (Or.inr ⟨by rfl, rfl⟩) ?_ ?_
  rotate_left
  ·simp only [Act.put, nf_]
   rfl
  refine pure_ (i := 12) (N := some 15) (v := undef) (a' := ?_) #[true, true, true, true, true, true, true, true, true, true, true, true, true, false, false, false, false, false, false] rfl rfl (any_of HT_.out (by kernel_rfl)) (fun _ _ _ h => h) (Or.inr ⟨by rfl, rfl⟩) ?_ ?_
  rotate_left
  ·simp only [Act.put, nf_]
   rfl
  refine pure_ (i := 13) (N := some 16) (v := undef) (a' := ?_) #[true, true, true, true, true, true, true, true, true, true, true, true, true, true, false, false, false, false, false] rfl rfl (any_of HT_.out (by kernel_rfl)) (fun _ _ _ h => h) (Or.inr ⟨by rfl, rfl⟩) ?_ ?_
  rotate_left
  ·simp only [Act.put, nf_]
   rfl
  refine pure_ (i := 14) (N := some 17) (v := undef) (a' := ?_) #[true, true, true, true, true, true, true, true, true, true, true, true, true, true, true, false, false, false, false] rfl rfl (any_of HT_.out (by kernel_rfl)) (fun _ _ _ h => h) (Or.inr ⟨by rfl, rfl⟩) ?_ ?_
  rotate_left
  ·simp only [Act.put, nf_]
   rfl
  refine pure_ (i := 15) (N := some 18) (v := undef) (a' := ?_) #[true, true, true, true, true, true, true, true, true, true, true, true, true, true, true, true, false, false, false] rfl rfl (any_of HT_.out (by kernel_rfl)) (fun _ _ _ h => h) (Or.inr ⟨by rfl, rfl⟩) ?_ ?_
  rotate_left
  ·simp only [Act.put, nf_]
   rfl
  refine pure_ (i := 16) (N := some 19) (v := undef) (a' := ?_) #[true, true, true, true, true, true, true, true, true, true, true, true, true, true, true, true, true, false, false] rfl rfl (any_of HT_.out (by kernel_rfl)) (fun _ _ _ h => h) (Or.inr ⟨by rfl, rfl⟩) ?_ ?_
  rotate_left
  ·simp only [Act.put, nf_]
   rfl
  refine pure_ (i := 17) (N := some 20) (v := undef) (a' := ?_) #[true, true, true, true, true, true, true, true, true, true, true, true, true, true, true, true, true, true, false] rfl rfl (any_of HT_.out (by kernel_rfl)) (fun _ _ _ h => h) (Or.inr ⟨by rfl, rfl⟩) ?_ ?_
  rotate_left
  ·simp only [Act.put, nf_]
   rfl
  refine pk_ 18 19 21 524287 ?_
  refine done_ (done_of HT_.out (by kernel_rfl)) ?_
  try go_wp2
  go_ret
  exact ⟨er_, hbs_⟩

/-! ### impl_Graph_areDirected_1: function 100005 -/
def impl_Graph_areDirected_1.f (a0 : Int) (a1_0 : Int) (l1_1 : List (List Int)) : Option (Bool) := (impl_Graph_size.f a1_0 l1_1).bind fun t231 => ((impl_within.f a0 0 (wrap64 ((wrap64 (2 * t231)) - 1))).bind fun t232 => (some (!t232)))
set_option maxHeartbeats 8000000 in
set_option maxRecDepth 100000 in
theorem impl_Graph_areDirected_1.calls (a0 : Int) (gq1_0 : Nat) (a1_0 : Int) (A1_1 : Option Addr) (c1_1 : Nat) (l1_1 : List (List Int)) (r : Bool) (w : World) (hbgq1_0 : w.heap[gq1_0]? = some (.cells #[.int .i64 a1_0, .slice A1_1 l1_1.length c1_1] 29 (0, 0))) (hr1_1 : Kd.C (Kd.slice 2 (Kd.int .i64)) w A1_1 l1_1.length l1_1) (hc1_1 : l1_1.length ≤ c1_1) (h : impl_Graph_areDirected_1.f a0 a1_0 l1_1 = some r) :
  Calls Try.prog 134 #[.int .i64 a0, .pointer (some ⟨gq1_0, 0, none⟩)] w fun e w' => e = .returned (.bool r) ∧ Below w.heap.size w w' := by
 have hu29 := Try.underlying29
 have HR1_1 := Aside0.mk hr1_1
 have HC1_1 := Aside0.mk hc1_1
 clear hr1_1 hc1_1
 have BK230 := Aside0.mk hbgq1_0
 clear hbgq1_0
 have HB := Aside0.mk (Below.refl w.heap.size w)
 have H : ((impl_Graph_size.f a1_0 l1_1).bind fun t231 => ((impl_within.f a0 0 (wrap64 ((wrap64 (2 * t231)) - 1))).bind fun t232 => (some (!t232)))) = some r := h
 clear h
 obtain ⟨t231, A3, H⟩ := bnd_ H
 obtain ⟨t232, A4, H⟩ := bnd_ H
 obtain rfl := Option.some.inj H
 have hcz5_0 : w.cell? ⟨gq1_0, 0, none⟩ = some (.int .i64 a1_0) := (blk_cell BK230.out 0).trans rfl
 have hcz5_1 : w.cell? ⟨gq1_0, 1, none⟩ = some (.slice A1_1 l1_1.length c1_1) := (blk_cell BK230.out 1).trans rfl
 have hfz5_0 := blk_frozen BK230.out 0
 have hfz5_1 := blk_frozen BK230.out 1
 go_enter Try.func134, Try.ntmps134
 go_wp2_with (first | ((with_reducible refine gate_callee (f := 104) rfl ?_); refine goesL_ (some 6) rfl rfl Try.func104 (by kernel_rfl) rfl #[.agg #[.int .i64 a1_0, .slice A1_1 l1_1.length c1_1]] rfl arg_ ?_; (with_reducible refine (impl_Graph_size.calls a1_0 _ _ l1_1 t231 _ ?side1 ?side2 A3.out).mono ?_); (case side1 => exact Kd.C_below HR1_1.out bgo_); (case side2 => exact HC1_1.out); rintro e w6 ⟨rfl, hb⟩; refine ⟨_, rfl, ?_⟩; replace BK230 := Aside0.mk (blk_below (g := gq1_0) (o := .cells #[.int .i64 a1_0, .slice A1_1 l1_1.length c1_1] 29 (0, 0)) (blk_below BK230.out bgo_) hb); replace HB := Aside0.mk (below_step hbs_ hb); (try clear hb); (try clear hb2); (try clear hk); (try clear hi)) | ((with_reducible refine gate_callee (f := 58) rfl ?_); refine goesL_ (some 9) rfl rfl Try.func58 (by kernel_rfl) rfl #[.int .i64 a0, .int .i64 0, .int .i64 (wrap64 ((wrap64 (2 * t231)) - 1))] rfl arg_ ?_; (with_reducible refine (impl_within.calls a0 0 (wrap64 ((wrap64 (2 * t231)) - 1)) t232 _ A4.out).mono ?_); rintro e w' ⟨rfl, ⟨nd, rfl⟩⟩; refine ⟨_, rfl, ?_⟩))
 go_ret
 exact ⟨er_, hbs_⟩

/-! ### slices_IndexFunc_int64_int64_124_at_Graph_areDirected_1: function 100004 -/
def slices_IndexFunc_int64_int64_124_at_Graph_areDirected_1.l0 : Nat → List Int → Int → Int → Int → List (List Int) → Option (Int)
 | 0, _, _, _, _, _ => none
 | k + 1, x0, x7, x8, x234000, x234001 => if x8 < x7 then (if 0 ≤ x8 then (if x8 < (x0.length : Int) then ((impl_Graph_areDirected_1.f (rd x0 x8) x234000 x234001).bind fun t235 => (if t235 = true then (some x8) else (slices_IndexFunc_int64_int64_124_at_Graph_areDirected_1.l0 k x0 x7 (wrap64 (x8 + 1)) x234000 x234001))) else (none)) else (none)) else (some (-1))
def slices_IndexFunc_int64_int64_124_at_Graph_areDirected_1.f (k : Nat) (l0 : List Int) (a1_0 : Int) (l1_1 : List (List Int)) : Option (Int) := slices_IndexFunc_int64_int64_124_at_Graph_areDirected_1.l0 k l0 (l0.length : Int) 0 a1_0 l1_1
set_option maxHeartbeats 8000000 in
set_option maxRecDepth 100000 in
theorem slices_IndexFunc_int64_int64_124_at_Graph_areDirected_1.calls (k : Nat) (A0 : Option Addr) (c0 : Nat) (l0 : List Int) (gq1_0 : Nat) (a1_0 : Int) (A1_1 : Option Addr) (c1_1 : Nat) (l1_1 : List (List Int)) (r : Int) (w : World) (hr0 : Kd.C (Kd.int .i64) w A0 l0.length l0) (hc0 : l0.length ≤ c0) (hbgq1_0 : w.heap[gq1_0]? = some (.cells #[.int .i64 a1_0, .slice A1_1 l1_1.length c1_1] 29 (0, 0))) (hr1_1 : Kd.C (Kd.slice 2 (Kd.int .i64)) w A1_1 l1_1.length l1_1) (hc1_1 : l1_1.length ≤ c1_1) (h : slices_IndexFunc_int64_int64_124_at_Graph_areDirected_1.f k l0 a1_0 l1_1 = some r) :
  Calls Try.prog 124 #[.slice A0 l0.length c0, .func (.func 134) #[] #[.pointer (some ⟨gq1_0, 0, none⟩)]] w fun e w' => e = .returned (.int .i64 r) ∧ Below w.heap.size w w' := by
 have HR0 := Aside0.mk hr0
 have HC0 := Aside0.mk hc0
 clear hr0 hc0
 have HR1_1 := Aside0.mk hr1_1
 have HC1_1 := Aside0.mk hc1_1
 clear hr1_1 hc1_1
 have BK233 := Aside0.mk hbgq1_0
 clear hbgq1_0
 have HB := Aside0.mk (Below.refl w.heap.size w)
 have H : (slices_IndexFunc_int64_int64_124_at_Graph_areDirected_1.l0 k l0 (l0.length : Int) 0 a1_0 l1_1) = some r := h
 clear h
 have H' := Aside0.mk H
 clear H
 go_enter Try.func124, Try.ntmps124
 go_wp2
 go_loopg [8] k (fun kq v8 w' => ∃ (x8_1 : Int), v8 = .int .i64 x8_1 ∧ Aside0 (slices_IndexFunc_int64_int64_124_at_Graph_areDirected_1.l0 kq l0 (l0.length : Int) x8_1 a1_0 l1_1 = some r) ∧ Aside0 (kq ≤ k) ∧ Aside0 (w'.heap[gq1_0]? = some (.cells #[.int .i64 a1_0, (.slice A1_1 l1_1.length c1_1)] 29 (0, 0))) ∧ Aside0 (Below w.heap.size w w'))
 case atStart => exact ⟨(0), es_, H', ⟨Nat.le_refl _⟩, ⟨blk_below BK233.out bgo_⟩, ⟨hbs_⟩⟩
 case round =>
  clear H'
  obtain ⟨x8_1, rfl, HA, HK1, BK233, HB⟩ := hrel
  cases gk with
  | zero => exact absurd HA.out (by simp [slices_IndexFunc_int64_int64_124_at_Graph_areDirected_1.l0])
  | succ k1 =>
   have H := HA.out
   clear HA
   simp only [slices_IndexFunc_int64_int64_124_at_Graph_areDirected_1.l0] at H
   by_cases c3 : x8_1 < (l0.length : Int)
   ·rw [if_pos c3] at H
    have c3b0 := decide_eq_true c3
    clear c3
    obtain ⟨c4, H⟩ := itn_ H
    have c4b0 := decide_eq_true c4
    clear c4
    obtain ⟨c5, H⟩ := itn_ H
    have c5b0 := decide_eq_true c5
    clear c5
    obtain ⟨t235, A6, H⟩ := bnd_ H
    by_cases c7 : t235 = true
    ·subst c7
     have H1 : (some x8_1) = some r := by rw [if_pos rfl] at H; exact H
     clear H
     have H := H1
     clear H1
     obtain rfl := Option.some.inj H
     have p234 : 0 ≤ (x8_1 : Int) := od_
     have q234 : x8_1 < (l0.length : Int) := od_
     obtain ⟨ad234, e234, hx234_0⟩ := Kd.at_int HR0.out x8_1 p234 q234
     cases e234
     replace hx234_0 := (HB.out.cell (World.block_lt_of_cell? w _ hx234_0)).trans hx234_0
     replace p234 := eq_true p234
     replace q234 := eq_true q234
     go_wp2_with (first | ((with_reducible refine gate_fn (t := 11) rfl ?_); refine goesF_ (some 16) rfl rfl Try.func134 (by kernel_rfl) rfl (lb := #[.pointer (some ⟨gq1_0, 0, none⟩)]) #[.int .i64 (rd l0 x8_1), .pointer (some ⟨gq1_0, 0, none⟩)] rfl (by first | rfl | (simp; done)) (by (try simp only [List.map_toArray, List.map_cons, List.map_nil, List.append_toArray, List.cons_append, List.nil_append]); first | done | rfl | (simp only [List.length_drop, List.length_take]; rfl)) ?_; (with_reducible refine (impl_Graph_areDirected_1.calls (rd l0 x8_1) gq1_0 a1_0 A1_1 c1_1 l1_1 true _ ?side1 ?side2 ?side3 A6.out).mono ?_); (case side1 => exact (blk_below BK233.out bgo_)); (case side2 => exact Kd.C_below (Kd.C_below HR1_1.out HB.out) bgo_); (case side3 => exact HC1_1.out); rintro e w8 ⟨rfl, hb⟩; refine ⟨_, rfl, ?_⟩; replace BK233 := Aside0.mk (blk_below (g := gq1_0) (o := .cells #[.int .i64 a1_0, .slice A1_1 l1_1.length c1_1] 29 (0, 0)) (blk_below BK233.out bgo_) hb); replace HB := Aside0.mk (below_step hbs_ hb); (try clear hb); (try clear hb2); (try clear hk); (try clear hi)))
     go_ret
     exact ⟨er_, hbs_⟩
    ·replace c7 := Bool.eq_false_iff.mpr c7
     subst c7
     have H1 : (slices_IndexFunc_int64_int64_124_at_Graph_areDirected_1.l0 k1 l0 (l0.length : Int) (wrap64 (x8_1 + 1)) a1_0 l1_1) = some r := by rw [if_neg (show ¬ (false = true) by decide)] at H; exact H
     clear H
     have H := H1
     clear H1
     have H' := Aside0.mk H
     clear H
     have p234 : 0 ≤ (x8_1 : Int) := od_
     have q234 : x8_1 < (l0.length : Int) := od_
     obtain ⟨ad234, e234, hx234_0⟩ := Kd.at_int HR0.out x8_1 p234 q234
     cases e234
     replace hx234_0 := (HB.out.cell (World.block_lt_of_cell? w _ hx234_0)).trans hx234_0
     replace p234 := eq_true p234
     replace q234 := eq_true q234
     go_wp2_with (first | ((with_reducible refine gate_fn (t := 11) rfl ?_); refine goesF_ (some 16) rfl rfl Try.func134 (by kernel_rfl) rfl (lb := #[.pointer (some ⟨gq1_0, 0, none⟩)]) #[.int .i64 (rd l0 x8_1), .pointer (some ⟨gq1_0, 0, none⟩)] rfl (by first | rfl | (simp; done)) (by (try simp only [List.map_toArray, List.map_cons, List.map_nil, List.append_toArray, List.cons_append, List.nil_append]); first | done | rfl | (simp only [List.length_drop, List.length_take]; rfl)) ?_; (with_reducible refine (impl_Graph_areDirected_1.calls (rd l0 x8_1) gq1_0 a1_0 A1_1 c1_1 l1_1 false _ ?side1 ?side2 ?side3 A6.out).mono ?_); (case side1 => exact (blk_below BK233.out bgo_)); (case side2 => exact Kd.C_below (Kd.C_below HR1_1.out HB.out) bgo_); (case side3 => exact HC1_1.out); rintro e w9 ⟨rfl, hb⟩; refine ⟨_, rfl, ?_⟩; replace BK233 := Aside0.mk (blk_below (g := gq1_0) (o := .cells #[.int .i64 a1_0, .slice A1_1 l1_1.length c1_1] 29 (0, 0)) (blk_below BK233.out bgo_) hb); replace HB := Aside0.mk (below_step hbs_ hb); (try clear hb); (try clear hb2); (try clear hk); (try clear hi)))
     go_roundg k1
     case measure => have := HK1.out; omega
     case rel => exact ⟨(wrap64 (x8_1 + 1)), es_, H', ⟨by have := HK1.out; omega⟩, ⟨blk_below BK233.out bgo_⟩, ⟨hbs_⟩⟩
   ·rw [if_neg c3] at H
    have c3b0 := decide_eq_false c3
    clear c3
    obtain rfl := Option.some.inj H
    go_wp2
    go_ret
    exact ⟨er_, hbs_⟩

/-! ### slices_ContainsFunc_int64_int64_93_at_Graph_areDirected_1: function 100003 -/
def slices_ContainsFunc_int64_int64_93_at_Graph_areDirected_1.f (k : Nat) (l0 : List Int) (a1_0 : Int) (l1_1 : List (List Int)) : Option (Bool) := (slices_IndexFunc_int64_int64_124_at_Graph_areDirected_1.f k l0 a1_0 l1_1).bind fun t237 => (some (decide (t237 ≥ 0)))
set_option maxHeartbeats 8000000 in
set_option maxRecDepth 100000 in
theorem slices_ContainsFunc_int64_int64_93_at_Graph_areDirected_1.calls (k : Nat) (A0 : Option Addr) (c0 : Nat) (l0 : List Int) (gq1_0 : Nat) (a1_0 : Int) (A1_1 : Option Addr) (c1_1 : Nat) (l1_1 : List (List Int)) (r : Bool) (w : World) (hr0 : Kd.C (Kd.int .i64) w A0 l0.length l0) (hc0 : l0.length ≤ c0) (hbgq1_0 : w.heap[gq1_0]? = some (.cells #[.int .i64 a1_0, .slice A1_1 l1_1.length c1_1] 29 (0, 0))) (hr1_1 : Kd.C (Kd.slice 2 (Kd.int .i64)) w A1_1 l1_1.length l1_1) (hc1_1 : l1_1.length ≤ c1_1) (h : slices_ContainsFunc_int64_int64_93_at_Graph_areDirected_1.f k l0 a1_0 l1_1 = some r) :
  Calls Try.prog 93 #[.slice A0 l0.length c0, .func (.func 134) #[] #[.pointer (some ⟨gq1_0, 0, none⟩)]] w fun e w' => e = .returned (.bool r) ∧ Below w.heap.size w w' := by
 have HR0 := Aside0.mk hr0
 have HC0 := Aside0.mk hc0
 clear hr0 hc0
 have HR1_1 := Aside0.mk hr1_1
 have HC1_1 := Aside0.mk hc1_1
 clear hr1_1 hc1_1
 have BK236 := Aside0.mk hbgq1_0
 clear hbgq1_0
 have HB := Aside0.mk (Below.refl w.heap.size w)
 have H : ((slices_IndexFunc_int64_int64_124_at_Graph_areDirected_1.f k l0 a1_0 l1_1).bind fun t237 => (some (decide (t237 ≥ 0)))) = some r := h
 clear h
 obtain ⟨t237, A3, H⟩ := bnd_ H
 obtain rfl := Option.some.inj H
 go_enter Try.func93, Try.ntmps93
 go_wp2_with (first | ((with_reducible refine gate_callee (f := 124) rfl ?_); refine goesL_ (some 7) rfl rfl Try.func124 (by kernel_rfl) rfl #[.slice A0 l0.length c0, .func (.func 134) #[] #[.pointer (some ⟨gq1_0, 0, none⟩)]] rfl arg_ ?_; (with_reducible refine (slices_IndexFunc_int64_int64_124_at_Graph_areDirected_1.calls k _ _ l0 gq1_0 a1_0 A1_1 c1_1 l1_1 t237 _ ?side1 ?side2 ?side3 ?side4 ?side5 A3.out).mono ?_); (case side1 => exact Kd.C_below HR0.out bgo_); (case side2 => exact HC0.out); (case side3 => exact (blk_below BK236.out bgo_)); (case side4 => exact Kd.C_below HR1_1.out bgo_); (case side5 => exact HC1_1.out); rintro e w4 ⟨rfl, hb⟩; refine ⟨_, rfl, ?_⟩; replace BK236 := Aside0.mk (blk_below (g := gq1_0) (o := .cells #[.int .i64 a1_0, .slice A1_1 l1_1.length c1_1] 29 (0, 0)) (blk_below BK236.out bgo_) hb); replace HB := Aside0.mk (below_step hbs_ hb); (try clear hb); (try clear hb2); (try clear hk); (try clear hi)))
 go_ret
 exact ⟨er_, hbs_⟩

/-! ### impl_Graph_areDirected: function 120 -/
def impl_Graph_areDirected.f (k : Nat) (a0_0 : Int) (l0_1 : List (List Int)) (l1 : List Int) : Option (Bool) := (slices_ContainsFunc_int64_int64_93_at_Graph_areDirected_1.f k l1 a0_0 l0_1).bind fun t239 => (some (!t239))
set_option maxHeartbeats 8000000 in
set_option maxRecDepth 100000 in
theorem impl_Graph_areDirected.calls (k : Nat) (a0_0 : Int) (A0_1 : Option Addr) (c0_1 : Nat) (l0_1 : List (List Int)) (A1 : Option Addr) (c1 : Nat) (l1 : List Int) (r : Bool) (w : World) (hr0_1 : Kd.C (Kd.slice 2 (Kd.int .i64)) w A0_1 l0_1.length l0_1) (hc0_1 : l0_1.length ≤ c0_1) (hr1 : Kd.C (Kd.int .i64) w A1 l1.length l1) (hc1 : l1.length ≤ c1) (h : impl_Graph_areDirected.f k a0_0 l0_1 l1 = some r) :
  Calls Try.prog 120 #[.agg #[.int .i64 a0_0, .slice A0_1 l0_1.length c0_1], .slice A1 l1.length c1] w fun e w' => e = .returned (.bool r) ∧ Below w.heap.size w w' := by
 have hu29 := Try.underlying29
 have HR0_1 := Aside0.mk hr0_1
 have HC0_1 := Aside0.mk hc0_1
 clear hr0_1 hc0_1
 have HR1 := Aside0.mk hr1
 have HC1 := Aside0.mk hc1
 clear hr1 hc1
 have HB := Aside0.mk (Below.refl w.heap.size w)
 have H : ((slices_ContainsFunc_int64_int64_93_at_Graph_areDirected_1.f k l1 a0_0 l0_1).bind fun t239 => (some (!t239))) = some r := h
 clear h
 obtain ⟨t239, A3, H⟩ := bnd_ H
 obtain rfl := Option.some.inj H
 go_enter Try.func120, Try.ntmps120
 go_wp2_with (first | ((with_reducible refine gate_dst (N := 2) rfl ?_); refine box_event ?hg (N := 2) ?hd (cs := #[.int .i64 a0_0, .slice A0_1 l0_1.length c0_1]) (t := 29) ?hr ?_; (case hd => rfl); (case hg => rfl); (case hr => first | (go_simp; done) | (go_simp; rfl)); intro gb238 hg w4 hbox hb; have BK238 := Aside0.mk (hbox); have GW238 := Aside0.mk ((by rw [hg]; exact (below_size hb_) : w.heap.size ≤ gb238)); have GE238 := Aside0.mk ((by rw [hg]; exact (below_size hb_) : w.heap.size ≤ gb238)); replace HB := Aside0.mk (below_step hb_ hb); clear hb hbox hg) | ((with_reducible refine gate_callee (f := 93) rfl ?_); refine goesL_ (some 7) rfl rfl Try.func93 (by kernel_rfl) rfl #[.slice A1 l1.length c1, .func (.func 134) #[] #[.pointer (some ⟨gb238, 0, none⟩)]] rfl arg_ ?_; (with_reducible refine (slices_ContainsFunc_int64_int64_93_at_Graph_areDirected_1.calls k _ _ l1 gb238 a0_0 A0_1 c0_1 l0_1 t239 _ ?side1 ?side2 ?side3 ?side4 ?side5 A3.out).mono ?_); (case side1 => exact Kd.C_below (Kd.C_below HR1.out HB.out) bgo_); (case side2 => exact HC1.out); (case side3 => exact (blk_below BK238.out bgo_)); (case side4 => exact Kd.C_below (Kd.C_below HR0_1.out HB.out) bgo_); (case side5 => exact HC0_1.out); rintro e w5 ⟨rfl, hb⟩; refine ⟨_, rfl, ?_⟩; replace BK238 := Aside0.mk (blk_below (g := gb238) (o := .cells #[.int .i64 a0_0, .slice A0_1 l0_1.length c0_1] 29 (0, 0)) (blk_below BK238.out bgo_) hb); replace HB := Aside0.mk (below_step hbs_ hb); (try clear hb); (try clear hb2); (try clear hk); (try clear hi)))
 go_ret
 exact ⟨er_, hbs_⟩

/-! ### impl_PermutationOfWalk: function 83 -/
mutual
def impl_PermutationOfWalk.l0 : Nat → List Int → List Int → Int → Int → Int → List (List Int) → Int → List (List Int) → Option (List Int × Int)
 | 0, _, _, _, _, _, _, _, _ => none
 | k + 1, x1, x33, x34, x35, x241000, x241001, x241002, x241003 => if x35 < x34 then (if 0 ≤ x35 then (if x35 < (x33.length : Int) then ((impl_Graph_ends.f x241000 x241001 (rd x33 x35)).bind fun bt245 => (if (x1.length : Int) = 0 then (none) else (if 0 ≤ (Int.tmod (wrap64 (x35 + 1)) (x1.length : Int)) then (if (Int.tmod (wrap64 (x35 + 1)) (x1.length : Int)) < (x1.length : Int) then ((impl_Graph_ends.f x241000 x241001 (rd x1 (Int.tmod (wrap64 (x35 + 1)) (x1.length : Int)))).bind fun bt248 => (if bt248.1 = bt245.2 then (impl_PermutationOfWalk.l0 k x1 x33 x34 (wrap64 (x35 + 1)) x241000 x241001 x241002 x241003) else (some (([] : List Int), 5)))) else (none)) else (none)))) else (none)) else (none)) else (impl_PermutationOfWalk.l1 k x1 (([] : List Int)) x241002 0 x241000 x241001 x241002 x241003)
def impl_PermutationOfWalk.l1 : Nat → List Int → List Int → Int → Int → Int → List (List Int) → Int → List (List Int) → Option (List Int × Int)
 | 0, _, _, _, _, _, _, _, _ => none
 | k + 1, x1, x12, x67, x68, x241000, x241001, x241002, x241003 => if x68 < x67 then (impl_PermutationOfWalk.l2 k x1 x12 x68 x67 x68 x1 (x1.length : Int) 0 x241000 x241001 x241002 x241003) else (some (x12, 0))
def impl_PermutationOfWalk.l2 : Nat → List Int → List Int → Int → Int → Int → List Int → Int → Int → Int → List (List Int) → Int → List (List Int) → Option (List Int × Int)
 | 0, _, _, _, _, _, _, _, _, _, _, _, _ => none
 | k + 1, x1, x12, x13, x67, x68, x71, x72, x73, x241000, x241001, x241002, x241003 => if x73 < x72 then (if 0 ≤ x73 then (if x73 < (x71.length : Int) then (if 0 ≤ (wrap64 (Int.tdiv (rd x71 x73) 2)) then (if (wrap64 (Int.tdiv (rd x71 x73) 2)) < (x241003.length : Int) then (if (Int.tmod (rd x71 x73) 2) = 0 then (if 0 ≤ x13 then (if x13 < ((rd_L1 x241003 (wrap64 (Int.tdiv (rd x71 x73) 2))).length : Int) then (impl_PermutationOfWalk.l2 k x1 x12 (rd (rd_L1 x241003 (wrap64 (Int.tdiv (rd x71 x73) 2))) x13) x67 x68 x71 x72 (wrap64 (x73 + 1)) x241000 x241001 x241002 x241003) else (none)) else (none)) else ((slices_Index_int64_int64.f k (rd_L1 x241003 (wrap64 (Int.tdiv (rd x71 x73) 2))) x13).bind fun t256 => (impl_PermutationOfWalk.l2 k x1 x12 t256 x67 x68 x71 x72 (wrap64 (x73 + 1)) x241000 x241001 x241002 x241003))) else (none)) else (none)) else (none)) else (none)) else (if x12.length < 17592186044416 then (impl_PermutationOfWalk.l1 k x1 (x12 ++ [x13]) x67 (wrap64 (x68 + 1)) x241000 x241001 x241002 x241003) else (none))
end
def impl_PermutationOfWalk.f (k : Nat) (a0_0 : Int) (l0_1 : List (List Int)) (a0_2 : Int) (l0_3 : List (List Int)) (l1 : List Int) : Option (List Int × Int) := (impl_IsCover.f k a0_0 l0_1 a0_2 l0_3).bind fun t241 => (if t241 = true then ((impl_within.f (l1.length : Int) 1 20).bind fun t242 => (if t242 = true then ((impl_Graph_areDirected.f k a0_0 l0_1 l1).bind fun t243 => (if t243 = true then (impl_PermutationOfWalk.l0 k l1 l1 (l1.length : Int) 0 a0_0 l0_1 a0_2 l0_3) else (some (([] : List Int), 2)))) else (some (([] : List Int), 2)))) else (some (([] : List Int), 1)))
def impl_PermutationOfWalk.T9 : Bool × List (List Nat × List Nat) := (true, [([], []), ([0], [0]), ([], []), ([], []), ([3], [3]), ([], []), ([5], [5]), ([4, 6], [4, 6]), ([2, 7], [2, 7]), ([8], [8]), ([1, 9], [1, 9]), ([10], [10]), ([11], [11]), ([11], [11]), ([12, 10, 0, 1, 2, 3, 4, 5, 6, 7, 8, 9, 10, 11, 12], [12]), ([13, 14, 0, 1, 2, 3, 4, 5, 6, 7, 8, 9, 10, 11, 12, 13, 14], [13])])
def impl_PermutationOfWalk.B9 : List Nat := [0, 1, 0, 0, 8, 0, 32, 120, 252, 508, 1023, 2047, 4095, 4095, 8191, 32767]
theorem impl_PermutationOfWalk.tab9 : rtab .any (opsOf Try.f83 9) = impl_PermutationOfWalk.T9 := by kernel_rfl
theorem impl_PermutationOfWalk.bits9 : waitsOk impl_PermutationOfWalk.T9.2 impl_PermutationOfWalk.B9 = true := by kernel_rfl
set_option maxHeartbeats 8000000 in
set_option maxRecDepth 100000 in
theorem impl_PermutationOfWalk.calls (k : Nat) (a0_0 : Int) (A0_1 : Option Addr) (c0_1 : Nat) (l0_1 : List (List Int)) (a0_2 : Int) (A0_3 : Option Addr) (c0_3 : Nat) (l0_3 : List (List Int)) (A1 : Option Addr) (c1 : Nat) (l1 : List Int) (r1 : List Int) (r2 : Int) (w : World) (hr0_1 : Kd.C (Kd.slice 2 (Kd.int .i64)) w A0_1 l0_1.length l0_1) (hc0_1 : l0_1.length ≤ c0_1) (hr0_3 : Kd.C (Kd.slice 2 (Kd.int .i64)) w A0_3 l0_3.length l0_3) (hc0_3 : l0_3.length ≤ c0_3) (hr1 : Kd.C (Kd.int .i64) w A1 l1.length l1) (hc1 : l1.length ≤ c1) (h : impl_PermutationOfWalk.f k a0_0 l0_1 a0_2 l0_3 l1 = some (r1, r2)) :
  Calls Try.prog 83 #[.agg #[.int .i64 a0_0, .slice A0_1 l0_1.length c0_1, .int .i64 a0_2, .slice A0_3 l0_3.length c0_3], .slice A1 l1.length c1] w fun e w' => ∃ v0_ : Value, e = .returned (.tuple #[v0_, .int .i64 r2]) ∧ Kd.R (Kd.int .i64) 2 w' w.heap.size (fun _ => True) v0_ r1 ∧ Below w.heap.size w w' := by
 have hu52 := Try.underlying52
 have hu29 := Try.underlying29
 have HR0_1 := Aside0.mk hr0_1
 have HC0_1 := Aside0.mk hc0_1
 clear hr0_1 hc0_1
 have HR0_3 := Aside0.mk hr0_3
 have HC0_3 := Aside0.mk hc0_3
 clear hr0_3 hc0_3
 have HR1 := Aside0.mk hr1
 have HC1 := Aside0.mk hc1
 clear hr1 hc1
 have HB := Aside0.mk (Below.refl w.heap.size w)
 have H : ((impl_IsCover.f k a0_0 l0_1 a0_2 l0_3).bind fun t241 => (if t241 = true then ((impl_within.f (l1.length : Int) 1 20).bind fun t242 => (if t242 = true then ((impl_Graph_areDirected.f k a0_0 l0_1 l1).bind fun t243 => (if t243 = true then (impl_PermutationOfWalk.l0 k l1 l1 (l1.length : Int) 0 a0_0 l0_1 a0_2 l0_3) else (some (([] : List Int), 2)))) else (some (([] : List Int), 2)))) else (some (([] : List Int), 1)))) = some (r1, r2) := h
 clear h
 obtain ⟨t241, A3, H⟩ := bnd_ H
 by_cases c4 : t241 = true
 ·subst c4
  have H1 : ((impl_within.f (l1.length : Int) 1 20).bind fun t242 => (if t242 = true then ((impl_Graph_areDirected.f k a0_0 l0_1 l1).bind fun t243 => (if t243 = true then (impl_PermutationOfWalk.l0 k l1 l1 (l1.length : Int) 0 a0_0 l0_1 a0_2 l0_3) else (some (([] : List Int), 2)))) else (some (([] : List Int), 2)))) = some (r1, r2) := by rw [if_pos rfl] at H; exact H
  clear H
  have H := H1
  clear H1
  obtain ⟨t242, A5, H⟩ := bnd_ H
  by_cases c6 : t242 = true
  ·subst c6
   have H1 : ((impl_Graph_areDirected.f k a0_0 l0_1 l1).bind fun t243 => (if t243 = true then (impl_PermutationOfWalk.l0 k l1 l1 (l1.length : Int) 0 a0_0 l0_1 a0_2 l0_3) else (some (([] : List Int), 2)))) = some (r1, r2) := by rw [if_pos rfl] at H; exact H
   clear H
   have H := H1
   clear H1
   obtain ⟨t243, A7, H⟩ := bnd_ H
   by_cases c8 : t243 = true
   ·subst c8
    have H1 : (impl_PermutationOfWalk.l0 k l1 l1 (l1.length : Int) 0 a0_0 l0_1 a0_2 l0_3) = some (r1, r2) := by rw [if_pos rfl] at H; exact H
    clear H
    have H := H1
    clear H1
    have H' := Aside0.mk H
    clear H
    go_enter Try.func83, Try.ntmps83
    go_wp2_with (first | ((with_reducible refine gate_dst (N := 2) rfl ?_); refine box_event ?hg (N := 2) ?hd (cs := #[.int .i64 a0_0, .slice A0_1 l0_1.length c0_1, .int .i64 a0_2, .slice A0_3 l0_3.length c0_3]) (t := 52) ?hr ?_; (case hd => rfl); (case hg => rfl); (case hr => first | (go_simp; done) | (go_simp; rfl)); intro gb240 hg w9 hbox hb; have BK240 := Aside0.mk (hbox); have GW240 := Aside0.mk ((by rw [hg]; exact (below_size hb_) : w.heap.size ≤ gb240)); have GE240 := Aside0.mk ((by rw [hg]; exact (below_size hb_) : w.heap.size ≤ gb240)); replace HB := Aside0.mk (below_step hb_ hb); clear hb hbox hg; have hcz10_0 : w9.cell? ⟨gb240, 0, none⟩ = some (.int .i64 a0_0) := (blk_cell BK240.out 0).trans rfl; have hcz10_1 : w9.cell? ⟨gb240, 1, none⟩ = some (.slice A0_1 l0_1.length c0_1) := (blk_cell BK240.out 1).trans rfl; have hcz10_2 : w9.cell? ⟨gb240, 2, none⟩ = some (.int .i64 a0_2) := (blk_cell BK240.out 2).trans rfl; have hcz10_3 : w9.cell? ⟨gb240, 3, none⟩ = some (.slice A0_3 l0_3.length c0_3) := (blk_cell BK240.out 3).trans rfl; have hfz10_0 := blk_frozen BK240.out 0; have hfz10_1 := blk_frozen BK240.out 1; have hfz10_2 := blk_frozen BK240.out 2; have hfz10_3 := blk_frozen BK240.out 3) | ((with_reducible refine gate_callee (f := 119) rfl ?_); refine goesL_ (some 19) rfl rfl Try.func119 (by kernel_rfl) rfl #[.agg #[.int .i64 a0_0, .slice A0_1 l0_1.length c0_1, .int .i64 a0_2, .slice A0_3 l0_3.length c0_3]] rfl arg_ ?_; (with_reducible refine (impl_IsCover.calls k a0_0 _ _ l0_1 a0_2 _ _ l0_3 true _ ?side1 ?side2 ?side3 ?side4 A3.out).mono ?_); (case side1 => exact Kd.C_below (Kd.C_below HR0_1.out HB.out) bgo_); (case side2 => exact HC0_1.out); (case side3 => exact Kd.C_below (Kd.C_below HR0_3.out HB.out) bgo_); (case side4 => exact HC0_3.out); rintro e w11 ⟨rfl, hb⟩; refine ⟨_, rfl, ?_⟩; replace BK240 := Aside0.mk (blk_below (g := gb240) (o := .cells #[.int .i64 a0_0, .slice A0_1 l0_1.length c0_1, .int .i64 a0_2, .slice A0_3 l0_3.length c0_3] 52 (0, 0)) (blk_below BK240.out bgo_) hb); replace HB := Aside0.mk (below_step hbs_ hb); (try clear hb); (try clear hb2); (try clear hk); (try clear hi)) | ((with_reducible refine gate_callee (f := 58) rfl ?_); refine goesL_ (some 24) rfl rfl Try.func58 (by kernel_rfl) rfl #[.int .i64 (l1.length : Int), .int .i64 1, .int .i64 20] rfl arg_ ?_; (with_reducible refine (impl_within.calls (l1.length : Int) 1 20 true _ A5.out).mono ?_); rintro e w' ⟨rfl, ⟨nd, rfl⟩⟩; refine ⟨_, rfl, ?_⟩; have hcz12_0 : w11.cell? ⟨gb240, 0, none⟩ = some (.int .i64 a0_0) := (blk_cell BK240.out 0).trans rfl; have hcz12_1 : w11.cell? ⟨gb240, 1, none⟩ = some (.slice A0_1 l0_1.length c0_1) := (blk_cell BK240.out 1).trans rfl; have hcz12_2 : w11.cell? ⟨gb240, 2, none⟩ = some (.int .i64 a0_2) := (blk_cell BK240.out 2).trans rfl; have hcz12_3 : w11.cell? ⟨gb240, 3, none⟩ = some (.slice A0_3 l0_3.length c0_3) := (blk_cell BK240.out 3).trans rfl; have hfz12_0 := blk_frozen BK240.out 0; have hfz12_1 := blk_frozen BK240.out 1; have hfz12_2 := blk_frozen BK240.out 2; have hfz12_3 := blk_frozen BK240.out 3) | (go_at_call 120; (with_reducible refine (impl_Graph_areDirected.calls k a0_0 _ _ l0_1 _ _ l1 true _ ?side1 ?side2 ?side3 ?side4 A7.out).mono ?_); (case side1 => exact Kd.C_below (Kd.C_below HR0_1.out hbs_) bgo_); (case side2 => exact HC0_1.out); (case side3 => exact Kd.C_below (Kd.C_below HR1.out hbs_) bgo_); (case side4 => exact HC1.out); rintro e w13 ⟨rfl, hb⟩; replace BK240 := Aside0.mk (blk_below (g := gb240) (o := .cells #[.int .i64 a0_0, .slice A0_1 l0_1.length c0_1, .int .i64 a0_2, .slice A0_3 l0_3.length c0_3] 52 (0, 0)) (blk_below BK240.out bgo_) hb); replace HB := Aside0.mk (below_step hbs_ hb); (try clear hb); (try clear hb2); (try clear hk); (try clear hi)))
    go_loopg [35] k (fun kq v35 w' => ∃ (x35_1 : Int), v35 = .int .i64 x35_1 ∧ Aside0 (impl_PermutationOfWalk.l0 kq l1 l1 (l1.length : Int) x35_1 a0_0 l0_1 a0_2 l0_3 = some (r1, r2)) ∧ Aside0 (kq ≤ k) ∧ Aside0 (w'.heap[gb240]? = some (.cells #[.int .i64 a0_0, (.slice A0_1 l0_1.length c0_1), .int .i64 a0_2, (.slice A0_3 l0_3.length c0_3)] 52 (0, 0))) ∧ Aside0 (Below w.heap.size w w'))
    case atStart => exact ⟨(0), es_, H', ⟨Nat.le_refl _⟩, ⟨blk_below BK240.out bgo_⟩, ⟨hbs_⟩⟩
    case round =>
     clear H'
     obtain ⟨x35_1, rfl, HA, HK1, BK240, HB⟩ := hrel
     cases gk with
     | zero => exact absurd HA.out (by simp [impl_PermutationOfWalk.l0])
     | succ k1 =>
      have H := HA.out
      clear HA
      simp only [impl_PermutationOfWalk.l0] at H
      by_cases c14 : x35_1 < (l1.length : Int)
      ·rw [if_pos c14] at H
       have c14b0 := decide_eq_true c14
       clear c14
       obtain ⟨c15, H⟩ := itn_ H
       have c15b0 := decide_eq_true c15
       clear c15
       obtain ⟨c16, H⟩ := itn_ H
       have c16b0 := decide_eq_true c16
       clear c16
       obtain ⟨⟨t245, t246⟩, A17, H⟩ := bnd_ H
       dsimp only at H
       by_cases c18 : (l1.length : Int) = 0
       ·rw [if_pos c18] at H
        exact absurd H (by simp)
       ·rw [if_neg c18] at H
        have c18b0 : ((l1.length : Int) == 0) = false := beq_eq_false_iff_ne.mpr c18
        have c18b1 : ((l1.length : Int) != 0) = true := bne_iff_ne.mpr c18
        have c18b2 : ¬ (l1 = []) := fun h_ => c18 (by rw [h_]; rfl)
        obtain ⟨ji19, hji19⟩ : ∃ j_ : Int, (Int.tmod (wrap64 (x35_1 + 1)) (l1.length : Int)) = j_ := ⟨_, rfl⟩
        (try rw [hji19])
        replace H : (if 0 ≤ (ji19) then (if (ji19) < (l1.length : Int) then ((impl_Graph_ends.f a0_0 l0_1 (rd l1 (ji19))).bind fun bt248 => (if bt248.1 = t246 then (impl_PermutationOfWalk.l0 k1 l1 l1 (l1.length : Int) (wrap64 (x35_1 + 1)) a0_0 l0_1 a0_2 l0_3) else (some (([] : List Int), 5)))) else (none)) else (none)) = some (r1, r2) := by first | (rw [hji19] at H; exact H) | (simp only [hji19] at H ⊢; exact H)
        (try rw [hji19] at A17)
        obtain ⟨c20, H⟩ := itn_ H
        have c20b0 := decide_eq_true c20
        clear c20
        obtain ⟨c21, H⟩ := itn_ H
        have c21b0 := decide_eq_true c21
        clear c21
        obtain ⟨⟨t248, t249⟩, A22, H⟩ := bnd_ H
        dsimp only at H
        by_cases c23 : t248 = t246
        ·rw [if_pos c23] at H
         have c23b0 : (t248 == t246) = true := beq_iff_eq.mpr c23
         have c23b1 : (t248 != t246) = false := bne_eq_false_iff_eq.mpr c23
         clear c23
         have H' := Aside0.mk H
         clear H
         have p244 : 0 ≤ (x35_1 : Int) := od_
         have q244 : x35_1 < (l1.length : Int) := od_
         obtain ⟨ad244, e244, hx244_0⟩ := Kd.at_int HR1.out x35_1 p244 q244
         cases e244
         replace hx244_0 := (HB.out.cell (World.block_lt_of_cell? w _ hx244_0)).trans hx244_0
         replace p244 := eq_true p244
         replace q244 := eq_true q244
         have hcz24_0 : wr.cell? ⟨gb240, 0, none⟩ = some (.int .i64 a0_0) := (blk_cell BK240.out 0).trans rfl
         have hcz24_1 : wr.cell? ⟨gb240, 1, none⟩ = some (.slice A0_1 l0_1.length c0_1) := (blk_cell BK240.out 1).trans rfl
         have hcz24_2 : wr.cell? ⟨gb240, 2, none⟩ = some (.int .i64 a0_2) := (blk_cell BK240.out 2).trans rfl
         have hcz24_3 : wr.cell? ⟨gb240, 3, none⟩ = some (.slice A0_3 l0_3.length c0_3) := (blk_cell BK240.out 3).trans rfl
         have hfz24_0 := blk_frozen BK240.out 0
         have hfz24_1 := blk_frozen BK240.out 1
         have hfz24_2 := blk_frozen BK240.out 2
         have hfz24_3 := blk_frozen BK240.out 3
         try go_wp2_with (first | ((with_reducible refine gate_callee (f := 71) rfl ?_); refine goesL_ (some 44) rfl rfl Try.func71 (by kernel_rfl) rfl #[.agg #[.int .i64 a0_0, .slice A0_1 l0_1.length c0_1], .int .i64 (rd l1 x35_1)] rfl arg_ ?_; (with_reducible refine (impl_Graph_ends.calls a0_0 _ _ l0_1 (rd l1 x35_1) t245 t246 _ ?side1 ?side2 A17.out).mono ?_); (case side1 => exact Kd.C_below (Kd.C_below HR0_1.out HB.out) bgo_); (case side2 => exact HC0_1.out); rintro e w25 ⟨rfl, hb⟩; refine ⟨_, rfl, ?_⟩; replace BK240 := Aside0.mk (blk_below (g := gb240) (o := .cells #[.int .i64 a0_0, .slice A0_1 l0_1.length c0_1, .int .i64 a0_2, .slice A0_3 l0_3.length c0_3] 52 (0, 0)) (blk_below BK240.out bgo_) hb); replace HB := Aside0.mk (below_step hbs_ hb); (try clear hb); (try clear hb2); (try clear hk); (try clear hi)))
         have n0_ := Aside0.mk (blk_drew BK240.out)
         have n1_ := Aside0.mk (below_drew1 HB.out)
         clear BK240
         clear HB
         have BK240 := n0_
         have HB := n1_
         clear n0_ n1_
         have p247 : 0 ≤ ((ji19) : Int) := od_
         have q247 : (ji19) < (l1.length : Int) := od_
         obtain ⟨ad247, e247, hx247_0⟩ := Kd.at_int HR1.out (ji19) p247 q247
         have hw247_0 := hx247_0
         obtain rfl : ad244 = ad247 := (by injection e247)
         replace hx247_0 := (HB.out.cell (World.block_lt_of_cell? w _ hx247_0)).trans hx247_0
         replace p247 := eq_true p247
         replace q247 := eq_true q247
         refine start_ (n := 16) (S := fun w' => w'.cell? ⟨gb240, 0, none⟩ = some (.int .i64 a0_0) ∧ w'.cell? ⟨gb240, 1, none⟩ = some (.slice A0_1 l0_1.length c0_1) ∧ w'.cell? ⟨gb240, 2, none⟩ = some (.int .i64 a0_2) ∧ w'.cell? ⟨gb240, 3, none⟩ = some (.slice A0_3 l0_3.length c0_3) ∧ w'.cell? (ad244.add ((ji19)).toNat) = some (.int .i64 (rd l1 (ji19)))) (ds := []) #[false, false, false, false, false, false, false, false, false, false, false, false, false, false, false, false] (by kernel_rfl) rfl rfl ⟨(blk_cell BK240.out 0).trans rfl, (blk_cell BK240.out 1).trans rfl, (blk_cell BK240.out 2).trans rfl, (blk_cell BK240.out 3).trans rfl, ((HB.out.cell (World.block_lt_of_cell? _ _ hw247_0)).trans hw247_0)⟩ (fun hHeld => ?_); refine with_tabW impl_PermutationOfWalk.tab9 impl_PermutationOfWalk.bits9 (fun HT_ HW_ => ?_)
         generalize w25.drew = w26 at BK240 HB hx247_0 hHeld ⊢
         refine pk_ 0 16 48 1 ?_
         refine pk_ 2 16 50 5 ?_
         refine pk_ 3 16 51 13 ?_
         refine pk_ 4 16 52 29 ?_
         refine pk_ 5 16 53 61 ?_
         refine pk_ 6 16 54 125 ?_
         refine pk_ 7 16 55 253 ?_
         refine pk_ 8 16 56 509 ?_
         refine tk_ 1 16 49 511 hHeld ?_
         refine tk_ 9 16 57 1023 hHeld ?_
         refine one_ (i := 10) (N := some 58) #[true, true, true, true, true, true, true, true, true, true, true, false, false, false, false, false] rfl rfl (one_of HT_.out (by kernel_rfl)) (by decide) (fun K hK => ?_)
         refine goes_ Try.func71 (by kernel_rfl) rfl #[.agg #[.int .i64 a0_0, .slice A0_1 l0_1.length c0_1], .int .i64 (rd l1 (ji19))] (by rfl) rfl rfl (by (try simp only [List.map_toArray, List.map_cons, List.map_nil]); first | done | (simp only [hji19]; rfl) | rfl | (simp only [List.length_drop, List.length_take]; rfl)) ?_
         with_reducible refine (impl_Graph_ends.calls a0_0 _ _ l0_1 (rd l1 (ji19)) t248 t249 _ ?side1 ?side2 A22.out).mono ?_
         (case side1 => exact Kd.C_below (Kd.C_below HR0_1.out HB.out) bgo_)
         (case side2 => exact HC0_1.out)
         rintro e w27 ⟨rfl, hb⟩
         refine ⟨_, rfl, ?_⟩
         have n0_ := Aside0.mk (blk_below (g := gb240) (o := .cells #[.int .i64 a0_0, .slice A0_1 l0_1.length c0_1, .int .i64 a0_2, .slice A0_3 l0_3.length c0_3] 52 (0, 0)) (blk_below BK240.out bgo_) hb)
         have n1_ := Aside0.mk (below_step hbs_ hb)
         clear BK240
         clear HB
         have BK240 := n0_
         have HB := n1_
         clear n0_ n1_
         (try clear hb)
         (try clear hb2)
         (try clear hk)
         (try clear hi)
         refine hK.out _ _ ⟨(blk_cell BK240.out 0).trans rfl, (blk_cell BK240.out 1).trans rfl, (blk_cell BK240.out 2).trans rfl, (blk_cell BK240.out 3).trans rfl, ((HB.out.cell (World.block_lt_of_cell? _ _ hw247_0)).trans hw247_0)⟩ (fun hHeld => ?_)
         clear hK K
         refine norm_ (a' := ?_) ?_ ?_
         rotate_left
         ·show Act.put _ (some 58) _ = _
          simp only [Act.put, nf_]
          rfl
         refine pk_ 11 16 47 4095 ?_
         refine pk_ 12 16 59 8191 ?_
         refine pk_ 13 16 60 16383 ?_
         refine pk_ 14 16 10 32767 ?_
         refine pk_ 15 16 11 65535 ?_
         refine done_ (done_of HT_.out (by kernel_rfl)) ?_
         try go_wp2
         first | (go_roundg k1) | ((try subst hji19); (go_roundg k1))
         case measure => have := HK1.out; omega
         case rel => exact ⟨(wrap64 (x35_1 + 1)), es_, H', ⟨by have := HK1.out; omega⟩, ⟨blk_below BK240.out bgo_⟩, ⟨hbs_⟩⟩
        ·rw [if_neg c23] at H
         have c23b0 : (t248 == t246) = false := beq_eq_false_iff_ne.mpr c23
         have c23b1 : (t248 != t246) = true := bne_iff_ne.mpr c23
         simp only [Option.some.injEq, Prod.mk.injEq] at H
         obtain ⟨rfl, rfl⟩ := H
         have p244 : 0 ≤ (x35_1 : Int) := od_
         have q244 : x35_1 < (l1.length : Int) := od_
         obtain ⟨ad244, e244, hx244_0⟩ := Kd.at_int HR1.out x35_1 p244 q244
         cases e244
         replace hx244_0 := (HB.out.cell (World.block_lt_of_cell? w _ hx244_0)).trans hx244_0
         replace p244 := eq_true p244
         replace q244 := eq_true q244
         have hcz28_0 : wr.cell? ⟨gb240, 0, none⟩ = some (.int .i64 a0_0) := (blk_cell BK240.out 0).trans rfl
         have hcz28_1 : wr.cell? ⟨gb240, 1, none⟩ = some (.slice A0_1 l0_1.length c0_1) := (blk_cell BK240.out 1).trans rfl
         have hcz28_2 : wr.cell? ⟨gb240, 2, none⟩ = some (.int .i64 a0_2) := (blk_cell BK240.out 2).trans rfl
         have hcz28_3 : wr.cell? ⟨gb240, 3, none⟩ = some (.slice A0_3 l0_3.length c0_3) := (blk_cell BK240.out 3).trans rfl
         have hfz28_0 := blk_frozen BK240.out 0
         have hfz28_1 := blk_frozen BK240.out 1
         have hfz28_2 := blk_frozen BK240.out 2
         have hfz28_3 := blk_frozen BK240.out 3
         try go_wp2_with (first | ((with_reducible refine gate_callee (f := 71) rfl ?_); refine goesL_ (some 44) rfl rfl Try.func71 (by kernel_rfl) rfl #[.agg #[.int .i64 a0_0, .slice A0_1 l0_1.length c0_1], .int .i64 (rd l1 x35_1)] rfl arg_ ?_; (with_reducible refine (impl_Graph_ends.calls a0_0 _ _ l0_1 (rd l1 x35_1) t245 t246 _ ?side1 ?side2 A17.out).mono ?_); (case side1 => exact Kd.C_below (Kd.C_below HR0_1.out HB.out) bgo_); (case side2 => exact HC0_1.out); rintro e w29 ⟨rfl, hb⟩; refine ⟨_, rfl, ?_⟩; replace BK240 := Aside0.mk (blk_below (g := gb240) (o := .cells #[.int .i64 a0_0, .slice A0_1 l0_1.length c0_1, .int .i64 a0_2, .slice A0_3 l0_3.length c0_3] 52 (0, 0)) (blk_below BK240.out bgo_) hb); replace HB := Aside0.mk (below_step hbs_ hb); (try clear hb); (try clear hb2); (try clear hk); (try clear hi)))
         have n0_ := Aside0.mk (blk_drew BK240.out)
         have n1_ := Aside0.mk (below_drew1 HB.out)
         clear BK240
         clear HB
         have BK240 := n0_
         have HB := n1_
         clear n0_ n1_
         have p247 : 0 ≤ ((ji19) : Int) := od_
         have q247 : (ji19) < (l1.length : Int) := od_
         obtain ⟨ad247, e247, hx247_0⟩ := Kd.at_int HR1.out (ji19) p247 q247
         have hw247_0 := hx247_0
         obtain rfl : ad244 = ad247 := (by injection e247)
         replace hx247_0 := (HB.out.cell (World.block_lt_of_cell? w _ hx247_0)).trans hx247_0
         replace p247 := eq_true p247
         replace q247 := eq_true q247
         refine start_ (n := 16) (S := fun w' => w'.cell? ⟨gb240, 0, none⟩ = some (.int .i64 a0_0) ∧ w'.cell? ⟨gb240, 1, none⟩ = some (.slice A0_1 l0_1.length c0_1) ∧ w'.cell? ⟨gb240, 2, none⟩ = some (.int .i64 a0_2) ∧ w'.cell? ⟨gb240, 3, none⟩ = some (.slice A0_3 l0_3.length c0_3) ∧ w'.cell? (ad244.add ((ji19)).toNat) = some (.int .i64 (rd l1 (ji19)))) (ds := []) #[false, false, false, false, false, false, false, false, false, false, false, false, false, false, false, false] (by kernel_rfl) rfl rfl ⟨(blk_cell BK240.out 0).trans rfl, (blk_cell BK240.out 1).trans rfl, (blk_cell BK240.out 2).trans rfl, (blk_cell BK240.out 3).trans rfl, ((HB.out.cell (World.block_lt_of_cell? _ _ hw247_0)).trans hw247_0)⟩ (fun hHeld => ?_); refine with_tabW impl_PermutationOfWalk.tab9 impl_PermutationOfWalk.bits9 (fun HT_ HW_ => ?_)
         generalize w29.drew = w30 at BK240 HB hx247_0 hHeld ⊢
         refine pk_ 0 16 48 1 ?_
         refine pk_ 2 16 50 5 ?_
         refine pk_ 3 16 51 13 ?_
         refine pk_ 4 16 52 29 ?_
         refine pk_ 5 16 53 61 ?_
         refine pk_ 6 16 54 125 ?_
         refine pk_ 7 16 55 253 ?_
         refine pk_ 8 16 56 509 ?_
         refine tk_ 1 16 49 511 hHeld ?_
         refine tk_ 9 16 57 1023 hHeld ?_
         refine one_ (i := 10) (N := some 58) #[true, true, true, true, true, true, true, true, true, true, true, false, false, false, false, false] rfl rfl (one_of HT_.out (by kernel_rfl)) (by decide) (fun K hK => ?_)
         refine goes_ Try.func71 (by kernel_rfl) rfl #[.agg #[.int .i64 a0_0, .slice A0_1 l0_1.length c0_1], .int .i64 (rd l1 (ji19))] (by rfl) rfl rfl (by (try simp only [List.map_toArray, List.map_cons, List.map_nil]); first | done | (simp only [hji19]; rfl) | rfl | (simp only [List.length_drop, List.length_take]; rfl)) ?_
         with_reducible refine (impl_Graph_ends.calls a0_0 _ _ l0_1 (rd l1 (ji19)) t248 t249 _ ?side1 ?side2 A22.out).mono ?_
         (case side1 => exact Kd.C_below (Kd.C_below HR0_1.out HB.out) bgo_)
         (case side2 => exact HC0_1.out)
         rintro e w31 ⟨rfl, hb⟩
         refine ⟨_, rfl, ?_⟩
         have n0_ := Aside0.mk (blk_below (g := gb240) (o := .cells #[.int .i64 a0_0, .slice A0_1 l0_1.length c0_1, .int .i64 a0_2, .slice A0_3 l0_3.length c0_3] 52 (0, 0)) (blk_below BK240.out bgo_) hb)
         have n1_ := Aside0.mk (below_step hbs_ hb)
         clear BK240
         clear HB
         have BK240 := n0_
         have HB := n1_
         clear n0_ n1_
         (try clear hb)
         (try clear hb2)
         (try clear hk)
         (try clear hi)
         refine hK.out _ _ ⟨(blk_cell BK240.out 0).trans rfl, (blk_cell BK240.out 1).trans rfl, (blk_cell BK240.out 2).trans rfl, (blk_cell BK240.out 3).trans rfl, ((HB.out.cell (World.block_lt_of_cell? _ _ hw247_0)).trans hw247_0)⟩ (fun hHeld => ?_)
         clear hK K
         refine norm_ (a' := ?_) ?_ ?_
         rotate_left
         ·show Act.put _ (some 58) _ = _
          simp only [Act.put, nf_]
          rfl
         refine pk_ 11 16 47 4095 ?_
         refine pk_ 12 16 59 8191 ?_
         refine pk_ 13 16 60 16383 ?_
         refine pk_ 14 16 10 32767 ?_
         refine pk_ 15 16 11 65535 ?_
         refine done_ (done_of HT_.out (by kernel_rfl)) ?_
         try go_wp2
         go_ret2
         exact ⟨_, by first | rfl | (simp [errW_none, errW_some] <;> rfl) | (simp only [← hji19]; first | rfl | (simp [errW_none, errW_some] <;> rfl)) | (simp [*, errW_none, errW_some] <;> rfl), by first | exact Kd.R_nil _ _ _ _ _ | exact Kd.N_nil _ _ _ _ _ | exact Kd.V_nil _ _ _ _ _ | exact Kd.Q_nil _ _ _ _ _ | exact Kd.S_nil _ _ _ _ _, hbs_⟩
      ·rw [if_neg c14] at H
       have c14b0 := decide_eq_false c14
       clear c14
       obtain ⟨y250, Ny250, H⟩ : ∃ y250 : List Int, Aside0 (y250 = (([] : List Int))) ∧ (impl_PermutationOfWalk.l1 k1 l1 y250 a0_2 0 a0_0 l0_1 a0_2 l0_3) = some (r1, r2) := ⟨_, ⟨rfl⟩, H⟩
       have H' := Aside0.mk H
       clear H
       go_wp2_with (first | ((with_reducible refine gate_dst (N := 65) rfl ?_); refine Kd.R_lit (Kd.int .i64) _ 2 ?hg (N := 65) ?hd (xs := ([] : List Int)) (inner := []) (ok := fun _ => True) (okp := fun _ => True) ?hr ?hp (fun _ hk => hk) trivial (Below.refl _ _) (Nat.le_refl _) (by simp) ?_; (case hd => rfl); (case hg => rfl); (case hr => first | (go_simp; done) | (go_simp; rfl)); (case hp => exact (Reps.none _ _)); intro v251 w32 ho33 hb hg_ hnew_; clear hg_ hnew_; (first | rw [← Ny250.out] at ho33 | (simp only [Int.reduceToNat] at ho33; rw [← Ny250.out] at ho33)); have HO252 := Aside0.mk (Kd.R_lower ho33 (below_size hbs_)); replace BK240 := Aside0.mk (blk_below (g := gb240) (o := .cells #[.int .i64 a0_0, .slice A0_1 l0_1.length c0_1, .int .i64 a0_2, .slice A0_3 l0_3.length c0_3] 52 (0, 0)) (blk_below BK240.out bgo_) hb); replace HB := Aside0.mk (below_step hbs_ hb); clear hb ho33; have hcz34_0 : w32.cell? ⟨gb240, 0, none⟩ = some (.int .i64 a0_0) := (blk_cell BK240.out 0).trans rfl; have hcz34_1 : w32.cell? ⟨gb240, 1, none⟩ = some (.slice A0_1 l0_1.length c0_1) := (blk_cell BK240.out 1).trans rfl; have hcz34_2 : w32.cell? ⟨gb240, 2, none⟩ = some (.int .i64 a0_2) := (blk_cell BK240.out 2).trans rfl; have hcz34_3 : w32.cell? ⟨gb240, 3, none⟩ = some (.slice A0_3 l0_3.length c0_3) := (blk_cell BK240.out 3).trans rfl; have hfz34_0 := blk_frozen BK240.out 0; have hfz34_1 := blk_frozen BK240.out 1; have hfz34_2 := blk_frozen BK240.out 2; have hfz34_3 := blk_frozen BK240.out 3))
       go_loopg [12, 68] k1 (fun kq v12 v68 w' => ∃ (x12_2 : List Int) (x68_2 : Int), v68 = .int .i64 x68_2 ∧ Aside0 (impl_PermutationOfWalk.l1 kq l1 x12_2 a0_2 x68_2 a0_0 l0_1 a0_2 l0_3 = some (r1, r2)) ∧ Aside0 (kq ≤ k1) ∧ Aside0 (Kd.R (Kd.int .i64) 2 w' w.heap.size (fun _ => True) v12 x12_2) ∧ Aside0 (w'.heap[gb240]? = some (.cells #[.int .i64 a0_0, (.slice A0_1 l0_1.length c0_1), .int .i64 a0_2, (.slice A0_3 l0_3.length c0_3)] 52 (0, 0))) ∧ Aside0 (Below w.heap.size w w'))
       case atStart => exact ⟨(y250), (0), es_, H', ⟨Nat.le_refl _⟩, ⟨Kd.R_below HO252.out bgo_⟩, ⟨blk_below BK240.out bgo_⟩, ⟨hbs_⟩⟩
       case round =>
        clear H'
        obtain ⟨x12_2, x68_2, rfl, HA, HK2, HO_12, BK240, HB⟩ := hrel
        cases gk with
        | zero => exact absurd HA.out (by simp [impl_PermutationOfWalk.l1])
        | succ k2 =>
         have H := HA.out
         clear HA
         simp only [impl_PermutationOfWalk.l1] at H
         by_cases c35 : x68_2 < a0_2
         ·rw [if_pos c35] at H
          have c35b0 := decide_eq_true c35
          clear c35
          have H' := Aside0.mk H
          clear H
          go_wp2
          go_loopg [13, 73] k2 (fun kq v13 v73 w' => ∃ (x13_3 : Int) (x73_3 : Int), v13 = .int .i64 x13_3 ∧ v73 = .int .i64 x73_3 ∧ Aside0 (impl_PermutationOfWalk.l2 kq l1 x12_2 x13_3 a0_2 x68_2 l1 (l1.length : Int) x73_3 a0_0 l0_1 a0_2 l0_3 = some (r1, r2)) ∧ Aside0 (kq ≤ k2) ∧ Aside0 (Kd.R (Kd.int .i64) 2 w' w.heap.size (fun _ => True) u12 x12_2) ∧ Aside0 (w'.heap[gb240]? = some (.cells #[.int .i64 a0_0, (.slice A0_1 l0_1.length c0_1), .int .i64 a0_2, (.slice A0_3 l0_3.length c0_3)] 52 (0, 0))) ∧ Aside0 (Below w.heap.size w w'))
          case atStart => exact ⟨(x68_2), (0), es_, es_, H', ⟨Nat.le_refl _⟩, ⟨Kd.R_below HO_12.out bgo_⟩, ⟨blk_below BK240.out bgo_⟩, ⟨hbs_⟩⟩
          case round =>
           clear H'
           obtain ⟨x13_3, x73_3, rfl, rfl, HA, HK3, HO_12, BK240, HB⟩ := hrel
           cases gk with
           | zero => exact absurd HA.out (by simp [impl_PermutationOfWalk.l2])
           | succ k3 =>
            have H := HA.out
            clear HA
            simp only [impl_PermutationOfWalk.l2] at H
            by_cases c36 : x73_3 < (l1.length : Int)
            ·rw [if_pos c36] at H
             have c36b0 := decide_eq_true c36
             clear c36
             obtain ⟨c37, H⟩ := itn_ H
             have c37b0 := decide_eq_true c37
             clear c37
             obtain ⟨c38, H⟩ := itn_ H
             have c38b0 := decide_eq_true c38
             clear c38
             obtain ⟨ji39, hji39⟩ : ∃ j_ : Int, (wrap64 (Int.tdiv (rd l1 x73_3) 2)) = j_ := ⟨_, rfl⟩
             (try rw [hji39])
             replace H : (if 0 ≤ (ji39) then (if (ji39) < (l0_3.length : Int) then (if (Int.tmod (rd l1 x73_3) 2) = 0 then (if 0 ≤ x13_3 then (if x13_3 < ((rd_L1 l0_3 (ji39)).length : Int) then (impl_PermutationOfWalk.l2 k3 l1 x12_2 (rd (rd_L1 l0_3 (ji39)) x13_3) a0_2 x68_2 l1 (l1.length : Int) (wrap64 (x73_3 + 1)) a0_0 l0_1 a0_2 l0_3) else (none)) else (none)) else ((slices_Index_int64_int64.f k3 (rd_L1 l0_3 (ji39)) x13_3).bind fun t256 => (impl_PermutationOfWalk.l2 k3 l1 x12_2 t256 a0_2 x68_2 l1 (l1.length : Int) (wrap64 (x73_3 + 1)) a0_0 l0_1 a0_2 l0_3))) else (none)) else (none)) = some (r1, r2) := by first | (rw [hji39] at H; exact H) | (simp only [hji39] at H ⊢; exact H)
             have hji39w : (IntKind.i64.wrap (Int.tdiv (rd l1 x73_3) 2)) = ji39 := (i64_w _).trans hji39
             obtain ⟨c40, H⟩ := itn_ H
             have c40b0 := decide_eq_true c40
             clear c40
             obtain ⟨c41, H⟩ := itn_ H
             have c41b0 := decide_eq_true c41
             clear c41
             by_cases c42 : (Int.tmod (rd l1 x73_3) 2) = 0
             ·rw [if_pos c42] at H
              have c42b0 : ((Int.tmod (rd l1 x73_3) 2) == 0) = true := beq_iff_eq.mpr c42
              have c42b1 : ((Int.tmod (rd l1 x73_3) 2) != 0) = false := bne_eq_false_iff_eq.mpr c42
              clear c42
              obtain ⟨c43, H⟩ := itn_ H
              have c43b0 := decide_eq_true c43
              clear c43
              obtain ⟨c44, H⟩ := itn_ H
              have c44b0 := decide_eq_true c44
              clear c44
              have H' := Aside0.mk H
              clear H
              have p253 : 0 ≤ (x73_3 : Int) := od_
              have q253 : x73_3 < (l1.length : Int) := od_
              obtain ⟨ad253, e253, hx253_0⟩ := Kd.at_int HR1.out x73_3 p253 q253
              cases e253
              replace hx253_0 := (HB.out.cell (World.block_lt_of_cell? w _ hx253_0)).trans hx253_0
              replace p253 := eq_true p253
              replace q253 := eq_true q253
              have hcz45_0 : wr.cell? ⟨gb240, 0, none⟩ = some (.int .i64 a0_0) := (blk_cell BK240.out 0).trans rfl
              have hcz45_1 : wr.cell? ⟨gb240, 1, none⟩ = some (.slice A0_1 l0_1.length c0_1) := (blk_cell BK240.out 1).trans rfl
              have hcz45_2 : wr.cell? ⟨gb240, 2, none⟩ = some (.int .i64 a0_2) := (blk_cell BK240.out 2).trans rfl
              have hcz45_3 : wr.cell? ⟨gb240, 3, none⟩ = some (.slice A0_3 l0_3.length c0_3) := (blk_cell BK240.out 3).trans rfl
              have hfz45_0 := blk_frozen BK240.out 0
              have hfz45_1 := blk_frozen BK240.out 1
              have hfz45_2 := blk_frozen BK240.out 2
              have hfz45_3 := blk_frozen BK240.out 3
              have p254 : 0 ≤ ((ji39) : Int) := od_
              have q254 : (ji39) < (l0_3.length : Int) := od_
              obtain ⟨ad254, A254_0, c254_0, e254, hx254_0, hl254_0, hi254_0⟩ := at_L1 HR0_3.out (ji39) p254 q254
              cases e254
              replace hx254_0 := (HB.out.cell (World.block_lt_of_cell? w _ hx254_0)).trans hx254_0
              have HR254_0 := Aside0.mk hi254_0
              have HC254_0 := Aside0.mk hl254_0
              clear hi254_0 hl254_0
              replace p254 := eq_true p254
              replace q254 := eq_true q254
              have p255 : 0 ≤ (x13_3 : Int) := od_
              have q255 : x13_3 < ((rd_L1 l0_3 (ji39)).length : Int) := od_
              obtain ⟨ad255, e255, hx255_0⟩ := Kd.at_int HR254_0.out x13_3 p255 q255
              cases e255
              replace hx255_0 := (HB.out.cell (World.block_lt_of_cell? w _ hx255_0)).trans hx255_0
              replace p255 := eq_true p255
              replace q255 := eq_true q255
              go_wp2
              first | (first | go_roundg k3 | (refine Handed.intro k3 ?measure ?_; rotate_left; go_step; (try simp only [add_plain]); (repeat apply Exists.intro); refine ⟨?rel, rfl⟩)) | ((try subst hji39); (first | go_roundg k3 | (refine Handed.intro k3 ?measure ?_; rotate_left; go_step; (try simp only [add_plain]); (repeat apply Exists.intro); refine ⟨?rel, rfl⟩)))
              case measure => have := HK1.out; have := HK2.out; have := HK3.out; omega
              case rel => exact ⟨(rd (rd_L1 l0_3 (ji39)) x13_3), (wrap64 (x73_3 + 1)), (by first | rfl | (simp; done) | (simp only [← hji39] <;> (first | rfl | simp)) | (simp [*]; done)), es_, H', ⟨by have := HK1.out; have := HK2.out; have := HK3.out; omega⟩, ⟨Kd.R_below HO_12.out bgo_⟩, ⟨blk_below BK240.out bgo_⟩, ⟨hbs_⟩⟩
             ·rw [if_neg c42] at H
              have c42b0 : ((Int.tmod (rd l1 x73_3) 2) == 0) = false := beq_eq_false_iff_ne.mpr c42
              have c42b1 : ((Int.tmod (rd l1 x73_3) 2) != 0) = true := bne_iff_ne.mpr c42
              obtain ⟨t256, A46, H⟩ := bnd_ H
              have H' := Aside0.mk H
              clear H
              have p253 : 0 ≤ (x73_3 : Int) := od_
              have q253 : x73_3 < (l1.length : Int) := od_
              obtain ⟨ad253, e253, hx253_0⟩ := Kd.at_int HR1.out x73_3 p253 q253
              cases e253
              replace hx253_0 := (HB.out.cell (World.block_lt_of_cell? w _ hx253_0)).trans hx253_0
              replace p253 := eq_true p253
              replace q253 := eq_true q253
              have hcz47_0 : wr.cell? ⟨gb240, 0, none⟩ = some (.int .i64 a0_0) := (blk_cell BK240.out 0).trans rfl
              have hcz47_1 : wr.cell? ⟨gb240, 1, none⟩ = some (.slice A0_1 l0_1.length c0_1) := (blk_cell BK240.out 1).trans rfl
              have hcz47_2 : wr.cell? ⟨gb240, 2, none⟩ = some (.int .i64 a0_2) := (blk_cell BK240.out 2).trans rfl
              have hcz47_3 : wr.cell? ⟨gb240, 3, none⟩ = some (.slice A0_3 l0_3.length c0_3) := (blk_cell BK240.out 3).trans rfl
              have hfz47_0 := blk_frozen BK240.out 0
              have hfz47_1 := blk_frozen BK240.out 1
              have hfz47_2 := blk_frozen BK240.out 2
              have hfz47_3 := blk_frozen BK240.out 3
              have p254 : 0 ≤ ((ji39) : Int) := od_
              have q254 : (ji39) < (l0_3.length : Int) := od_
              obtain ⟨ad254, A254_0, c254_0, e254, hx254_0, hl254_0, hi254_0⟩ := at_L1 HR0_3.out (ji39) p254 q254
              cases e254
              replace hx254_0 := (HB.out.cell (World.block_lt_of_cell? w _ hx254_0)).trans hx254_0
              have HR254_0 := Aside0.mk hi254_0
              have HC254_0 := Aside0.mk hl254_0
              clear hi254_0 hl254_0
              replace p254 := eq_true p254
              replace q254 := eq_true q254
              go_wp2_with (first | ((with_reducible refine gate_callee (f := 121) rfl ?_); refine goesL_ (some 92) rfl rfl Try.func121 (by kernel_rfl) rfl #[.slice A254_0 (rd_L1 l0_3 (ji39)).length c254_0, .int .i64 x13_3] rfl (by (try simp only [List.map_toArray, List.map_cons, List.map_nil]); first | done | (simp only [hji39]; rfl) | rfl | (simp only [List.length_drop, List.length_take]; rfl)) ?_; (with_reducible refine (slices_Index_int64_int64.calls k3 _ _ (rd_L1 l0_3 (ji39)) x13_3 t256 _ ?side1 ?side2 A46.out).mono ?_); (case side1 => exact Kd.C_below (Kd.C_below HR254_0.out HB.out) bgo_); (case side2 => exact HC254_0.out); rintro e w' ⟨rfl, ⟨nd, rfl⟩⟩; refine ⟨_, rfl, ?_⟩))
              first | (first | go_roundg k3 | (refine Handed.intro k3 ?measure ?_; rotate_left; go_step; (try simp only [add_plain]); (repeat apply Exists.intro); refine ⟨?rel, rfl⟩)) | ((try subst hji39); (first | go_roundg k3 | (refine Handed.intro k3 ?measure ?_; rotate_left; go_step; (try simp only [add_plain]); (repeat apply Exists.intro); refine ⟨?rel, rfl⟩)))
              case measure => have := HK1.out; have := HK2.out; have := HK3.out; omega
              case rel => exact ⟨(t256), (wrap64 (x73_3 + 1)), es_, es_, H', ⟨by have := HK1.out; have := HK2.out; have := HK3.out; omega⟩, ⟨Kd.R_below HO_12.out bgo_⟩, ⟨blk_below BK240.out bgo_⟩, ⟨hbs_⟩⟩
            ·rw [if_neg c36] at H
             have c36b0 := decide_eq_false c36
             clear c36
             obtain ⟨c48, H⟩ := itn_ H
             have LMc48 := Aside0.mk c48
             clear c48
             obtain ⟨y257, Ny257, H⟩ : ∃ y257 : List Int, Aside0 (y257 = (x12_2 ++ [x13_3])) ∧ (impl_PermutationOfWalk.l1 k3 l1 y257 a0_2 (wrap64 (x68_2 + 1)) a0_0 l0_1 a0_2 l0_3) = some (r1, r2) := ⟨_, ⟨rfl⟩, H⟩
             have H' := Aside0.mk H
             clear H
             go_wp2_with (first | ((with_reducible refine gate_builtin (b := .append) (xs := #[.tmp 94, .tmp 96]) rfl ?_); at_builtin; refine Kd.R_append (Kd.int .i64) (w0 := w) w.heap.size rfl (.tmp 94) (.tmp 96) 26 2 (.int .i64 0) 8 rfl Try.underlying26 info2 rfl (by decide) (by omega) u12 x12_2 x13_3 [.int .i64 x13_3] (fun _ => True) (fun _ => False) rfl rfl ?aP (fun _ hk => hk.elim) ?aF ?aO ?aB ?aS ?aL ?_; (case aP => exact rfl); (case aB => exact hbs_); (case aF => exact (fun _ _ => trivial)); (case aO => exact (Kd.R_below HO_12.out bgo_)); (case aS => exact (below_size hbs_)); (case aL => have := LMc48.out; omega); intro v258 w49 ho hb hg hat; rw [← Ny257.out] at ho; replace BK240 := Aside0.mk (blk_grown (g := gb240) (o := .cells #[.int .i64 a0_0, .slice A0_1 l0_1.length c0_1, .int .i64 a0_2, .slice A0_3 l0_3.length c0_3] 52 (0, 0)) (blk_below BK240.out bgo_) hg (Kd.R_ne HO_12.out BK240.out (by decide))); replace HB := Aside0.mk (hb); have HO259 := Aside0.mk (ho); clear HO_12; clear ho hb hg hat))
             first | go_roundg k3 | (refine Handed.intro k3 ?measure ?_; rotate_left; go_step; (try simp only [add_plain]); (repeat apply Exists.intro); refine ⟨?rel, rfl⟩)
             case measure => have := HK1.out; have := HK2.out; have := HK3.out; omega
             case rel => exact ⟨(y257), (wrap64 (x68_2 + 1)), es_, H', ⟨by have := HK1.out; have := HK2.out; have := HK3.out; omega⟩, ⟨Kd.R_below HO259.out bgo_⟩, ⟨blk_below BK240.out bgo_⟩, ⟨hbs_⟩⟩
         ·rw [if_neg c35] at H
          have c35b0 := decide_eq_false c35
          clear c35
          simp only [Option.some.injEq, Prod.mk.injEq] at H
          obtain ⟨rfl, rfl⟩ := H
          go_wp2
          go_ret2
          exact ⟨_, er_, (Kd.R_below HO_12.out bgo_), hbs_⟩
   ·replace c8 := Bool.eq_false_iff.mpr c8
    subst c8
    have H1 : (some (([] : List Int), 2)) = some (r1, r2) := by rw [if_neg (show ¬ (false = true) by decide)] at H; exact H
    clear H
    have H := H1
    clear H1
    simp only [Option.some.injEq, Prod.mk.injEq] at H
    obtain ⟨rfl, rfl⟩ := H
    go_enter Try.func83, Try.ntmps83
    go_wp2_with (first | ((with_reducible refine gate_dst (N := 2) rfl ?_); refine box_event ?hg (N := 2) ?hd (cs := #[.int .i64 a0_0, .slice A0_1 l0_1.length c0_1, .int .i64 a0_2, .slice A0_3 l0_3.length c0_3]) (t := 52) ?hr ?_; (case hd => rfl); (case hg => rfl); (case hr => first | (go_simp; done) | (go_simp; rfl)); intro gb240 hg w50 hbox hb; have BK240 := Aside0.mk (hbox); have GW240 := Aside0.mk ((by rw [hg]; exact (below_size hb_) : w.heap.size ≤ gb240)); have GE240 := Aside0.mk ((by rw [hg]; exact (below_size hb_) : w.heap.size ≤ gb240)); replace HB := Aside0.mk (below_step hb_ hb); clear hb hbox hg; have hcz51_0 : w50.cell? ⟨gb240, 0, none⟩ = some (.int .i64 a0_0) := (blk_cell BK240.out 0).trans rfl; have hcz51_1 : w50.cell? ⟨gb240, 1, none⟩ = some (.slice A0_1 l0_1.length c0_1) := (blk_cell BK240.out 1).trans rfl; have hcz51_2 : w50.cell? ⟨gb240, 2, none⟩ = some (.int .i64 a0_2) := (blk_cell BK240.out 2).trans rfl; have hcz51_3 : w50.cell? ⟨gb240, 3, none⟩ = some (.slice A0_3 l0_3.length c0_3) := (blk_cell BK240.out 3).trans rfl; have hfz51_0 := blk_frozen BK240.out 0; have hfz51_1 := blk_frozen BK240.out 1; have hfz51_2 := blk_frozen BK240.out 2; have hfz51_3 := blk_frozen BK240.out 3) | ((with_reducible refine gate_callee (f := 119) rfl ?_); refine goesL_ (some 19) rfl rfl Try.func119 (by kernel_rfl) rfl #[.agg #[.int .i64 a0_0, .slice A0_1 l0_1.length c0_1, .int .i64 a0_2, .slice A0_3 l0_3.length c0_3]] rfl arg_ ?_; (with_reducible refine (impl_IsCover.calls k a0_0 _ _ l0_1 a0_2 _ _ l0_3 true _ ?side1 ?side2 ?side3 ?side4 A3.out).mono ?_); (case side1 => exact Kd.C_below (Kd.C_below HR0_1.out HB.out) bgo_); (case side2 => exact HC0_1.out); (case side3 => exact Kd.C_below (Kd.C_below HR0_3.out HB.out) bgo_); (case side4 => exact HC0_3.out); rintro e w52 ⟨rfl, hb⟩; refine ⟨_, rfl, ?_⟩; replace BK240 := Aside0.mk (blk_below (g := gb240) (o := .cells #[.int .i64 a0_0, .slice A0_1 l0_1.length c0_1, .int .i64 a0_2, .slice A0_3 l0_3.length c0_3] 52 (0, 0)) (blk_below BK240.out bgo_) hb); replace HB := Aside0.mk (below_step hbs_ hb); (try clear hb); (try clear hb2); (try clear hk); (try clear hi)) | ((with_reducible refine gate_callee (f := 58) rfl ?_); refine goesL_ (some 24) rfl rfl Try.func58 (by kernel_rfl) rfl #[.int .i64 (l1.length : Int), .int .i64 1, .int .i64 20] rfl arg_ ?_; (with_reducible refine (impl_within.calls (l1.length : Int) 1 20 true _ A5.out).mono ?_); rintro e w' ⟨rfl, ⟨nd, rfl⟩⟩; refine ⟨_, rfl, ?_⟩; have hcz53_0 : w52.cell? ⟨gb240, 0, none⟩ = some (.int .i64 a0_0) := (blk_cell BK240.out 0).trans rfl; have hcz53_1 : w52.cell? ⟨gb240, 1, none⟩ = some (.slice A0_1 l0_1.length c0_1) := (blk_cell BK240.out 1).trans rfl; have hcz53_2 : w52.cell? ⟨gb240, 2, none⟩ = some (.int .i64 a0_2) := (blk_cell BK240.out 2).trans rfl; have hcz53_3 : w52.cell? ⟨gb240, 3, none⟩ = some (.slice A0_3 l0_3.length c0_3) := (blk_cell BK240.out 3).trans rfl; have hfz53_0 := blk_frozen BK240.out 0; have hfz53_1 := blk_frozen BK240.out 1; have hfz53_2 := blk_frozen BK240.out 2; have hfz53_3 := blk_frozen BK240.out 3) | (go_at_call 120; (with_reducible refine (impl_Graph_areDirected.calls k a0_0 _ _ l0_1 _ _ l1 false _ ?side1 ?side2 ?side3 ?side4 A7.out).mono ?_); (case side1 => exact Kd.C_below (Kd.C_below HR0_1.out hbs_) bgo_); (case side2 => exact HC0_1.out); (case side3 => exact Kd.C_below (Kd.C_below HR1.out hbs_) bgo_); (case side4 => exact HC1.out); rintro e w54 ⟨rfl, hb⟩; replace BK240 := Aside0.mk (blk_below (g := gb240) (o := .cells #[.int .i64 a0_0, .slice A0_1 l0_1.length c0_1, .int .i64 a0_2, .slice A0_3 l0_3.length c0_3] 52 (0, 0)) (blk_below BK240.out bgo_) hb); replace HB := Aside0.mk (below_step hbs_ hb); (try clear hb); (try clear hb2); (try clear hk); (try clear hi)))
    go_ret2
    exact ⟨_, er_, by first | exact Kd.R_nil _ _ _ _ _ | exact Kd.N_nil _ _ _ _ _ | exact Kd.V_nil _ _ _ _ _ | exact Kd.Q_nil _ _ _ _ _ | exact Kd.S_nil _ _ _ _ _, hbs_⟩
  ·replace c6 := Bool.eq_false_iff.mpr c6
   subst c6
   have H1 : (some (([] : List Int), 2)) = some (r1, r2) := by rw [if_neg (show ¬ (false = true) by decide)] at H; exact H
   clear H
   have H := H1
   clear H1
   simp only [Option.some.injEq, Prod.mk.injEq] at H
   obtain ⟨rfl, rfl⟩ := H
   go_enter Try.func83, Try.ntmps83
   go_wp2_with (first | ((with_reducible refine gate_dst (N := 2) rfl ?_); refine box_event ?hg (N := 2) ?hd (cs := #[.int .i64 a0_0, .slice A0_1 l0_1.length c0_1, .int .i64 a0_2, .slice A0_3 l0_3.length c0_3]) (t := 52) ?hr ?_; (case hd => rfl); (case hg => rfl); (case hr => first | (go_simp; done) | (go_simp; rfl)); intro gb240 hg w55 hbox hb; have BK240 := Aside0.mk (hbox); have GW240 := Aside0.mk ((by rw [hg]; exact (below_size hb_) : w.heap.size ≤ gb240)); have GE240 := Aside0.mk ((by rw [hg]; exact (below_size hb_) : w.heap.size ≤ gb240)); replace HB := Aside0.mk (below_step hb_ hb); clear hb hbox hg; have hcz56_0 : w55.cell? ⟨gb240, 0, none⟩ = some (.int .i64 a0_0) := (blk_cell BK240.out 0).trans rfl; have hcz56_1 : w55.cell? ⟨gb240, 1, none⟩ = some (.slice A0_1 l0_1.length c0_1) := (blk_cell BK240.out 1).trans rfl; have hcz56_2 : w55.cell? ⟨gb240, 2, none⟩ = some (.int .i64 a0_2) := (blk_cell BK240.out 2).trans rfl; have hcz56_3 : w55.cell? ⟨gb240, 3, none⟩ = some (.slice A0_3 l0_3.length c0_3) := (blk_cell BK240.out 3).trans rfl; have hfz56_0 := blk_frozen BK240.out 0; have hfz56_1 := blk_frozen BK240.out 1; have hfz56_2 := blk_frozen BK240.out 2; have hfz56_3 := blk_frozen BK240.out 3) | ((with_reducible refine gate_callee (f := 119) rfl ?_); refine goesL_ (some 19) rfl rfl Try.func119 (by kernel_rfl) rfl #[.agg #[.int .i64 a0_0, .slice A0_1 l0_1.length c0_1, .int .i64 a0_2, .slice A0_3 l0_3.length c0_3]] rfl arg_ ?_; (with_reducible refine (impl_IsCover.calls k a0_0 _ _ l0_1 a0_2 _ _ l0_3 true _ ?side1 ?side2 ?side3 ?side4 A3.out).mono ?_); (case side1 => exact Kd.C_below (Kd.C_below HR0_1.out HB.out) bgo_); (case side2 => exact HC0_1.out); (case side3 => exact Kd.C_below (Kd.C_below HR0_3.out HB.out) bgo_); (case side4 => exact HC0_3.out); rintro e w57 ⟨rfl, hb⟩; refine ⟨_, rfl, ?_⟩; replace BK240 := Aside0.mk (blk_below (g := gb240) (o := .cells #[.int .i64 a0_0, .slice A0_1 l0_1.length c0_1, .int .i64 a0_2, .slice A0_3 l0_3.length c0_3] 52 (0, 0)) (blk_below BK240.out bgo_) hb); replace HB := Aside0.mk (below_step hbs_ hb); (try clear hb); (try clear hb2); (try clear hk); (try clear hi)) | ((with_reducible refine gate_callee (f := 58) rfl ?_); refine goesL_ (some 24) rfl rfl Try.func58 (by kernel_rfl) rfl #[.int .i64 (l1.length : Int), .int .i64 1, .int .i64 20] rfl arg_ ?_; (with_reducible refine (impl_within.calls (l1.length : Int) 1 20 false _ A5.out).mono ?_); rintro e w' ⟨rfl, ⟨nd, rfl⟩⟩; refine ⟨_, rfl, ?_⟩))
   go_ret2
   exact ⟨_, er_, by first | exact Kd.R_nil _ _ _ _ _ | exact Kd.N_nil _ _ _ _ _ | exact Kd.V_nil _ _ _ _ _ | exact Kd.Q_nil _ _ _ _ _ | exact Kd.S_nil _ _ _ _ _, hbs_⟩
 ·replace c4 := Bool.eq_false_iff.mpr c4
  subst c4
  have H1 : (some (([] : List Int), 1)) = some (r1, r2) := by rw [if_neg (show ¬ (false = true) by decide)] at H; exact H
  clear H
  have H := H1
  clear H1
  simp only [Option.some.injEq, Prod.mk.injEq] at H
  obtain ⟨rfl, rfl⟩ := H
  go_enter Try.func83, Try.ntmps83
  go_wp2_with (first | ((with_reducible refine gate_dst (N := 2) rfl ?_); refine box_event ?hg (N := 2) ?hd (cs := #[.int .i64 a0_0, .slice A0_1 l0_1.length c0_1, .int .i64 a0_2, .slice A0_3 l0_3.length c0_3]) (t := 52) ?hr ?_; (case hd => rfl); (case hg => rfl); (case hr => first | (go_simp; done) | (go_simp; rfl)); intro gb240 hg w58 hbox hb; have BK240 := Aside0.mk (hbox); have GW240 := Aside0.mk ((by rw [hg]; exact (below_size hb_) : w.heap.size ≤ gb240)); have GE240 := Aside0.mk ((by rw [hg]; exact (below_size hb_) : w.heap.size ≤ gb240)); replace HB := Aside0.mk (below_step hb_ hb); clear hb hbox hg; have hcz59_0 : w58.cell? ⟨gb240, 0, none⟩ = some (.int .i64 a0_0) := (blk_cell BK240.out 0).trans rfl; have hcz59_1 : w58.cell? ⟨gb240, 1, none⟩ = some (.slice A0_1 l0_1.length c0_1) := (blk_cell BK240.out 1).trans rfl; have hcz59_2 : w58.cell? ⟨gb240, 2, none⟩ = some (.int .i64 a0_2) := (blk_cell BK240.out 2).trans rfl; have hcz59_3 : w58.cell? ⟨gb240, 3, none⟩ = some (.slice A0_3 l0_3.length c0_3) := (blk_cell BK240.out 3).trans rfl; have hfz59_0 := blk_frozen BK240.out 0; have hfz59_1 := blk_frozen BK240.out 1; have hfz59_2 := blk_frozen BK240.out 2; have hfz59_3 := blk_frozen BK240.out 3) | ((with_reducible refine gate_callee (f := 119) rfl ?_); refine goesL_ (some 19) rfl rfl Try.func119 (by kernel_rfl) rfl #[.agg #[.int .i64 a0_0, .slice A0_1 l0_1.length c0_1, .int .i64 a0_2, .slice A0_3 l0_3.length c0_3]] rfl arg_ ?_; (with_reducible refine (impl_IsCover.calls k a0_0 _ _ l0_1 a0_2 _ _ l0_3 false _ ?side1 ?side2 ?side3 ?side4 A3.out).mono ?_); (case side1 => exact Kd.C_below (Kd.C_below HR0_1.out HB.out) bgo_); (case side2 => exact HC0_1.out); (case side3 => exact Kd.C_below (Kd.C_below HR0_3.out HB.out) bgo_); (case side4 => exact HC0_3.out); rintro e w60 ⟨rfl, hb⟩; refine ⟨_, rfl, ?_⟩; replace BK240 := Aside0.mk (blk_below (g := gb240) (o := .cells #[.int .i64 a0_0, .slice A0_1 l0_1.length c0_1, .int .i64 a0_2, .slice A0_3 l0_3.length c0_3] 52 (0, 0)) (blk_below BK240.out bgo_) hb); replace HB := Aside0.mk (below_step hbs_ hb); (try clear hb); (try clear hb2); (try clear hk); (try clear hi)))
  go_ret2
  exact ⟨_, er_, by first | exact Kd.R_nil _ _ _ _ _ | exact Kd.N_nil _ _ _ _ _ | exact Kd.V_nil _ _ _ _ _ | exact Kd.Q_nil _ _ _ _ _ | exact Kd.S_nil _ _ _ _ _, hbs_⟩

/-! ### cmp_isNaN_int64: function 147 -/
def cmp_isNaN_int64.f (a0 : Int) : Option (Bool) := some (a0 != a0)
set_option maxHeartbeats 8000000 in
set_option maxRecDepth 100000 in
theorem cmp_isNaN_int64.calls (a0 : Int) (r : Bool) (w : World) (h : cmp_isNaN_int64.f a0 = some r) :
  Calls Try.prog 147 #[.int .i64 a0] w fun e w' => e = .returned (.bool r) ∧ Drawn0 w w' := by
 have H : (some (a0 != a0)) = some r := h
 clear h
 obtain rfl := Option.some.inj H
 go_enter Try.func147, Try.ntmps147
 go_wp2
 go_ret
 exact ⟨es_, by repeat (first | exact Drawn0.refl _ | apply Drawn0.step)⟩

/-! ### cmp_Less_int64: function 141 -/
def cmp_Less_int64.f (a0 : Int) (a1 : Int) : Option (Bool) := (cmp_isNaN_int64.f a0).bind fun t260 => (if t260 = true then ((cmp_isNaN_int64.f a1).bind fun t261 => (if t261 = true then (some (decide (a0 < a1))) else (some true))) else (some (decide (a0 < a1))))
set_option maxHeartbeats 8000000 in
set_option maxRecDepth 100000 in
theorem cmp_Less_int64.calls (a0 : Int) (a1 : Int) (r : Bool) (w : World) (h : cmp_Less_int64.f a0 a1 = some r) :
  Calls Try.prog 141 #[.int .i64 a0, .int .i64 a1] w fun e w' => e = .returned (.bool r) ∧ Drawn0 w w' := by
 have H : ((cmp_isNaN_int64.f a0).bind fun t260 => (if t260 = true then ((cmp_isNaN_int64.f a1).bind fun t261 => (if t261 = true then (some (decide (a0 < a1))) else (some true))) else (some (decide (a0 < a1))))) = some r := h
 clear h
 obtain ⟨t260, A3, H⟩ := bnd_ H
 by_cases c4 : t260 = true
 ·subst c4
  have H1 : ((cmp_isNaN_int64.f a1).bind fun t261 => (if t261 = true then (some (decide (a0 < a1))) else (some true))) = some r := by rw [if_pos rfl] at H; exact H
  clear H
  have H := H1
  clear H1
  obtain ⟨t261, A5, H⟩ := bnd_ H
  by_cases c6 : t261 = true
  ·subst c6
   have H1 : (some (decide (a0 < a1))) = some r := by rw [if_pos rfl] at H; exact H
   clear H
   have H := H1
   clear H1
   obtain rfl := Option.some.inj H
   go_enter Try.func141, Try.ntmps141
   go_wp2_with (first | ((with_reducible refine gate_callee (f := 147) rfl ?_); refine goesL_ (some 6) rfl rfl Try.func147 (by kernel_rfl) rfl #[.int .i64 a0] rfl arg_ ?_; (with_reducible refine (cmp_isNaN_int64.calls a0 true _ A3.out).mono ?_); rintro e w' ⟨rfl, ⟨nd, rfl⟩⟩; refine ⟨_, rfl, ?_⟩) | (go_at_call 147; (with_reducible refine (cmp_isNaN_int64.calls a1 true _ A5.out).mono ?_); rintro e w' ⟨rfl, ⟨nd, rfl⟩⟩))
   go_ret
   exact ⟨es_, by repeat (first | exact Drawn0.refl _ | apply Drawn0.step)⟩
  ·replace c6 := Bool.eq_false_iff.mpr c6
   subst c6
   have H1 : (some true) = some r := by rw [if_neg (show ¬ (false = true) by decide)] at H; exact H
   clear H
   have H := H1
   clear H1
   obtain rfl := Option.some.inj H
   go_enter Try.func141, Try.ntmps141
   go_wp2_with (first | ((with_reducible refine gate_callee (f := 147) rfl ?_); refine goesL_ (some 6) rfl rfl Try.func147 (by kernel_rfl) rfl #[.int .i64 a0] rfl arg_ ?_; (with_reducible refine (cmp_isNaN_int64.calls a0 true _ A3.out).mono ?_); rintro e w' ⟨rfl, ⟨nd, rfl⟩⟩; refine ⟨_, rfl, ?_⟩) | (go_at_call 147; (with_reducible refine (cmp_isNaN_int64.calls a1 false _ A5.out).mono ?_); rintro e w' ⟨rfl, ⟨nd, rfl⟩⟩))
   go_ret
   exact ⟨es_, by repeat (first | exact Drawn0.refl _ | apply Drawn0.step)⟩
 ·replace c4 := Bool.eq_false_iff.mpr c4
  subst c4
  have H1 : (some (decide (a0 < a1))) = some r := by rw [if_neg (show ¬ (false = true) by decide)] at H; exact H
  clear H
  have H := H1
  clear H1
  obtain rfl := Option.some.inj H
  go_enter Try.func141, Try.ntmps141
  go_wp2_with (first | ((with_reducible refine gate_callee (f := 147) rfl ?_); refine goesL_ (some 6) rfl rfl Try.func147 (by kernel_rfl) rfl #[.int .i64 a0] rfl arg_ ?_; (with_reducible refine (cmp_isNaN_int64.calls a0 false _ A3.out).mono ?_); rintro e w' ⟨rfl, ⟨nd, rfl⟩⟩; refine ⟨_, rfl, ?_⟩))
  go_ret
  exact ⟨es_, by repeat (first | exact Drawn0.refl _ | apply Drawn0.step)⟩

/-! ### slices_insertionSortOrdered_int64: function 135 -/
mutual
def slices_insertionSortOrdered_int64.l0 : Nat → List Int → Int → Int → Int → Option (List Int)
 | 0, _, _, _, _ => none
 | k + 1, x0, x1, x2, x6 => if x6 < x2 then (slices_insertionSortOrdered_int64.l1 k x0 x1 x2 x6 x6) else (some x0)
def slices_insertionSortOrdered_int64.l1 : Nat → List Int → Int → Int → Int → Int → Option (List Int)
 | 0, _, _, _, _, _ => none
 | k + 1, x0, x1, x2, x6, x7 => if x7 > x1 then (if 0 ≤ x7 then (if x7 < (x0.length : Int) then (if 0 ≤ (wrap64 (x7 - 1)) then (if (wrap64 (x7 - 1)) < (x0.length : Int) then ((cmp_Less_int64.f (rd x0 x7) (rd x0 (wrap64 (x7 - 1)))).bind fun t264 => (if t264 = true then (slices_insertionSortOrdered_int64.l1 k ((x0.set (x7 : Int).toNat (rd x0 (wrap64 (x7 - 1)))).set ((wrap64 (x7 - 1)) : Int).toNat (rd x0 x7)) x1 x2 x6 (wrap64 (x7 - 1))) else (slices_insertionSortOrdered_int64.l0 k x0 x1 x2 (wrap64 (x6 + 1))))) else (none)) else (none)) else (none)) else (none)) else (slices_insertionSortOrdered_int64.l0 k x0 x1 x2 (wrap64 (x6 + 1)))
end
def slices_insertionSortOrdered_int64.f (k : Nat) (l0 : List Int) (a1 : Int) (a2 : Int) : Option (List Int) := slices_insertionSortOrdered_int64.l0 k l0 a1 a2 (wrap64 (a1 + 1))
theorem slices_insertionSortOrdered_int64.mono_l : ∀ k, (∀ y0 y1 y2 y3, LeO (slices_insertionSortOrdered_int64.l0 k y0 y1 y2 y3) (slices_insertionSortOrdered_int64.l0 (k + 1) y0 y1 y2 y3)) ∧ (∀ y0 y1 y2 y3 y4, LeO (slices_insertionSortOrdered_int64.l1 k y0 y1 y2 y3 y4) (slices_insertionSortOrdered_int64.l1 (k + 1) y0 y1 y2 y3 y4))
 | 0 => ⟨fun _ _ _ _ r h => by simp [slices_insertionSortOrdered_int64.l0] at h, fun _ _ _ _ _ r h => by simp [slices_insertionSortOrdered_int64.l1] at h⟩
 | k + 1 => by
  obtain ⟨ih0, ih1⟩ := slices_insertionSortOrdered_int64.mono_l k
  refine ⟨?_, ?_⟩
  ·intro y0 y1 y2 y3
   unfold slices_insertionSortOrdered_int64.l0
   repeat' first
   | (with_reducible exact ih0 _ _ _ _)
   | (with_reducible exact ih1 _ _ _ _ _)
   | (with_reducible exact LeO.refl _)
   | (with_reducible exact LeO.none _)
   | (with_reducible refine LeO.ite ?_ ?_)
   | (with_reducible refine LeO.bind ?_ (fun _ => ?_))
  ·intro y0 y1 y2 y3 y4
   unfold slices_insertionSortOrdered_int64.l1
   repeat' first
   | (with_reducible exact ih0 _ _ _ _)
   | (with_reducible exact ih1 _ _ _ _ _)
   | (with_reducible exact LeO.refl _)
   | (with_reducible exact LeO.none _)
   | (with_reducible refine LeO.ite ?_ ?_)
   | (with_reducible refine LeO.bind ?_ (fun _ => ?_))
theorem slices_insertionSortOrdered_int64.mono : ∀ a0 a1 a2 k, LeO (slices_insertionSortOrdered_int64.f k a0 a1 a2) (slices_insertionSortOrdered_int64.f (k + 1) a0 a1 a2) := by
 intro a0 a1 a2 k
 obtain ⟨ih0, ih1⟩ := slices_insertionSortOrdered_int64.mono_l k
 unfold slices_insertionSortOrdered_int64.f
 repeat' first
   | (with_reducible exact ih0 _ _ _ _)
   | (with_reducible exact ih1 _ _ _ _ _)
   | (with_reducible exact LeO.refl _)
   | (with_reducible exact LeO.none _)
   | (with_reducible refine LeO.ite ?_ ?_)
   | (with_reducible refine LeO.bind ?_ (fun _ => ?_))
def slices_insertionSortOrdered_int64.T4 : Bool × List (List Nat × List Nat) := (true, [([], []), ([], []), ([0, 1], [0, 1]), ([2], [2]), ([3], [3]), ([3], [3]), ([4, 5, 3], [3, 4, 5]), ([6, 3], [3, 6]), ([3], [3]), ([3], [3]), ([9, 3], [3, 9]), ([8, 10, 3], [3, 8, 10]), ([11, 3], [3, 11]), ([7, 12, 3, 3], [3, 7, 12]), ([3, 13], [3, 13])])
def slices_insertionSortOrdered_int64.B4 : List Nat := [0, 0, 3, 7, 15, 15, 63, 127, 15, 15, 527, 1807, 3855, 8191, 16383]
theorem slices_insertionSortOrdered_int64.tab4 : rtab .any (opsOf Try.f135 4) = slices_insertionSortOrdered_int64.T4 := by kernel_rfl
theorem slices_insertionSortOrdered_int64.bits4 : waitsOk slices_insertionSortOrdered_int64.T4.2 slices_insertionSortOrdered_int64.B4 = true := by kernel_rfl
def slices_insertionSortOrdered_int64.T6 : Bool × List (List Nat × List Nat) := (true, [([], []), ([], []), ([], []), ([], []), ([3], [3]), ([], []), ([], []), ([6], [6]), ([5, 7], [5, 7]), ([8], [8]), ([], []), ([], []), ([10, 11], [10, 11]), ([12], [12]), ([0, 1, 0, 1, 5, 6, 7, 8, 9, 13], [0, 1]), ([14, 9, 0, 1, 5, 6, 7, 8, 9, 13], [9, 14]), ([2, 4, 0, 1, 2, 3, 4, 5, 6, 7, 8, 9, 10, 11, 12, 13, 14, 15], [2, 4]), ([16, 13, 15, 0, 1, 2, 3, 4, 5, 6, 7, 8, 9, 10, 11, 12, 13, 14, 15], [13, 16])])
def slices_insertionSortOrdered_int64.B6 : List Nat := [0, 0, 0, 0, 8, 0, 0, 64, 224, 480, 0, 0, 3072, 7168, 16355, 32739, 65535, 131071]
theorem slices_insertionSortOrdered_int64.tab6 : rtab .any (opsOf Try.f135 6) = slices_insertionSortOrdered_int64.T6 := by kernel_rfl
theorem slices_insertionSortOrdered_int64.bits6 : waitsOk slices_insertionSortOrdered_int64.T6.2 slices_insertionSortOrdered_int64.B6 = true := by kernel_rfl
set_option maxHeartbeats 8000000 in
set_option maxRecDepth 100000 in
theorem slices_insertionSortOrdered_int64.calls (k : Nat) (P0_ : Nat → Prop) (u9000_ : Value) (l0 : List Int) (a1 : Int) (a2 : Int) (r : List Int) (w0 w : World) (hB : Below w0.heap.size w0 w) (ho0 : Kd.R (Kd.int .i64) 2 w w0.heap.size P0_ u9000_ l0) (h : slices_insertionSortOrdered_int64.f k l0 a1 a2 = some r) :
  Calls Try.prog 135 #[u9000_, .int .i64 a1, .int .i64 a2] w fun e w' => e = .returned (.tuple #[]) ∧ Kd.R (Kd.int .i64) 2 w' w0.heap.size (fun k_ => (P0_ k_ ∨ w.heap.size ≤ k_)) u9000_ r ∧ Below w0.heap.size w0 w' ∧ Kept w w' (fun k_ => P0_ k_) := by
 have HO0 := Aside0.mk (show Kd.R (Kd.int .i64) 2 w w0.heap.size (fun k_ => (P0_ k_ ∨ w.heap.size ≤ k_)) u9000_ l0 from Kd.R_mono ho0 (fun k_ hk => (.inl hk)))
 have HK := Aside0.mk (Kept.refl w (fun k_ => P0_ k_))
 have HW0 := Aside0.mk hB.size
 have HB := Aside0.mk hB
 clear hB
 have H : (slices_insertionSortOrdered_int64.l0 k l0 a1 a2 (wrap64 (a1 + 1))) = some r := h
 clear h
 have H' := Aside0.mk H
 clear H
 go_enter Try.func135, Try.ntmps135
 go_wp2
 go_loopg [6] k (fun kq v6 w' => ∃ (x0_1 : List Int) (x6_1 : Int), v6 = .int .i64 x6_1 ∧ Aside0 (slices_insertionSortOrdered_int64.l0 kq x0_1 a1 a2 x6_1 = some r) ∧ Aside0 (kq ≤ k) ∧ Aside0 (Kd.R (Kd.int .i64) 2 w' w0.heap.size (fun k_ => (P0_ k_ ∨ w.heap.size ≤ k_)) u9000_ x0_1) ∧ Aside0 (Kept w w' (fun k_ => P0_ k_)) ∧ Aside0 (Below w0.heap.size w0 w'))
 case atStart => exact ⟨(l0), (wrap64 (a1 + 1)), es_, H', ⟨Nat.le_refl _⟩, ⟨Kd.R_below HO0.out bgo_⟩, ⟨by repeat (first | (with_reducible first | exact HK.out | apply Kept.alloc | apply Kept.drewN | apply Kept.drew) | exact HK.out)⟩, ⟨hb_⟩⟩
 case round =>
  clear H'
  obtain ⟨x0_1, x6_1, rfl, HA, HK1, HO_0, HK, HB⟩ := hrel
  cases gk with
  | zero => exact absurd HA.out (by simp [slices_insertionSortOrdered_int64.l0])
  | succ k1 =>
   have H := HA.out
   clear HA
   simp only [slices_insertionSortOrdered_int64.l0] at H
   by_cases c4 : x6_1 < a2
   ·rw [if_pos c4] at H
    have c4b0 := decide_eq_true c4
    clear c4
    have H' := Aside0.mk H
    clear H
    go_wp2
    go_loopg [7] k1 (fun kq v7 w' => ∃ (x0_2 : List Int) (x7_2 : Int), v7 = .int .i64 x7_2 ∧ Aside0 (slices_insertionSortOrdered_int64.l1 kq x0_2 a1 a2 x6_1 x7_2 = some r) ∧ Aside0 (kq ≤ k1) ∧ Aside0 (Kd.R (Kd.int .i64) 2 w' w0.heap.size (fun k_ => (P0_ k_ ∨ w.heap.size ≤ k_)) u9000_ x0_2) ∧ Aside0 (Kept w w' (fun k_ => P0_ k_)) ∧ Aside0 (Below w0.heap.size w0 w'))
    case atStart => exact ⟨(x0_1), (x6_1), es_, H', ⟨Nat.le_refl _⟩, ⟨Kd.R_below HO_0.out bgo_⟩, ⟨by repeat (first | (with_reducible first | exact HK.out | apply Kept.alloc | apply Kept.drewN | apply Kept.drew) | exact HK.out)⟩, ⟨hb_⟩⟩
    case round =>
     clear H'
     obtain ⟨x0_2, x7_2, rfl, HA, HK2, HO_0, HK, HB⟩ := hrel
     cases gk with
     | zero => exact absurd HA.out (by simp [slices_insertionSortOrdered_int64.l1])
     | succ k2 =>
      have H := HA.out
      clear HA
      simp only [slices_insertionSortOrdered_int64.l1] at H
      by_cases c5 : x7_2 > a1
      ·rw [if_pos c5] at H
       have c5b0 := decide_eq_true c5
       clear c5
       obtain ⟨c6, H⟩ := itn_ H
       have c6b0 := decide_eq_true c6
       clear c6
       obtain ⟨c7, H⟩ := itn_ H
       have c7b0 := decide_eq_true c7
       clear c7
       obtain ⟨ji8, hji8⟩ : ∃ j_ : Int, (wrap64 (x7_2 - 1)) = j_ := ⟨_, rfl⟩
       (try rw [hji8])
       replace H : (if 0 ≤ (ji8) then (if (ji8) < (x0_2.length : Int) then ((cmp_Less_int64.f (rd x0_2 x7_2) (rd x0_2 (ji8))).bind fun t264 => (if t264 = true then (slices_insertionSortOrdered_int64.l1 k2 ((x0_2.set (x7_2 : Int).toNat (rd x0_2 (ji8))).set ((ji8) : Int).toNat (rd x0_2 x7_2)) a1 a2 x6_1 ji8) else (slices_insertionSortOrdered_int64.l0 k2 x0_2 a1 a2 (wrap64 (x6_1 + 1))))) else (none)) else (none)) = some r := by first | (rw [hji8] at H; exact H) | (simp only [hji8] at H ⊢; exact H)
       have hji8w : (IntKind.i64.wrap (x7_2 - 1)) = ji8 := (i64_w _).trans hji8
       obtain ⟨c9, H⟩ := itn_ H
       have c9b0 := decide_eq_true c9
       clear c9
       obtain ⟨c10, H⟩ := itn_ H
       have c10b0 := decide_eq_true c10
       clear c10
       obtain ⟨t264, A11, H⟩ := bnd_ H
       by_cases c12 : t264 = true
       ·subst c12
        have H1 : (slices_insertionSortOrdered_int64.l1 k2 ((x0_2.set (x7_2 : Int).toNat (rd x0_2 (ji8))).set ((ji8) : Int).toNat (rd x0_2 x7_2)) a1 a2 x6_1 ji8) = some r := by rw [if_pos rfl] at H; exact H
        clear H
        have H := H1
        clear H1
        obtain ⟨y267, Ny267, H⟩ : ∃ y267 : List Int, Aside0 (y267 = (x0_2.set (x7_2 : Int).toNat (rd x0_2 (ji8)))) ∧ (slices_insertionSortOrdered_int64.l1 k2 (y267.set ((ji8) : Int).toNat (rd x0_2 x7_2)) a1 a2 x6_1 ji8) = some r := ⟨_, ⟨rfl⟩, H⟩
        obtain ⟨y268, Ny268, H⟩ : ∃ y268 : List Int, Aside0 (y268 = (y267.set ((ji8) : Int).toNat (rd x0_2 x7_2))) ∧ (slices_insertionSortOrdered_int64.l1 k2 y268 a1 a2 x6_1 ji8) = some r := ⟨_, ⟨rfl⟩, H⟩
        have H' := Aside0.mk H
        clear H
        try go_wp2
        have n0_ := Aside0.mk (Kd.R_drew HO_0.out)
        have n1_ := Aside0.mk (Kept.drew HK.out)
        have n2_ := Aside0.mk (below_drew1 HB.out)
        clear HO_0
        clear HK
        clear HB
        have HO_0 := n0_
        have HK := n1_
        have HB := n2_
        clear n0_ n1_ n2_
        obtain ⟨Ao16, co16, eo16⟩ := Kd.R_slice HO_0.out
        (first | subst eo16 | (injection eo16 with f1_ f2_ f3_; have f4_ := f1_.symm; have f5_ := f3_.symm; clear f1_ f2_ f3_; subst f4_; subst f5_))
        have p262 : 0 ≤ (x7_2 : Int) := od_
        have q262 : x7_2 < (x0_2.length : Int) := od_
        obtain ⟨ad262, e262, hx262_0⟩ := Kd.at_int (Kd.R_reads' HO_0.out).2.2 x7_2 p262 q262
        cases e262
        replace p262 := eq_true p262
        replace q262 := eq_true q262
        have p263 : 0 ≤ ((ji8) : Int) := od_
        have q263 : (ji8) < (x0_2.length : Int) := od_
        obtain ⟨ad263, e263, hx263_0⟩ := Kd.at_int (Kd.R_reads' HO_0.out).2.2 (ji8) p263 q263
        obtain rfl : ad262 = ad263 := (by injection e263)
        replace p263 := eq_true p263
        replace q263 := eq_true q263
        refine start_ (n := 15) (S := fun w' => w'.cell? (ad262.add (x7_2).toNat) = some (.int .i64 (rd x0_2 x7_2)) ∧ w'.cell? (ad262.add ((ji8)).toNat) = some (.int .i64 (rd x0_2 (ji8)))) (ds := []) #[false, false, false, false, false, false, false, false, false, false, false, false, false, false, false] (by kernel_rfl) rfl rfl ⟨hx262_0, hx263_0⟩ (fun hHeld => ?_); refine with_tabW slices_insertionSortOrdered_int64.tab4 slices_insertionSortOrdered_int64.bits4 (fun HT_ HW_ => ?_)
        generalize wr.drew = w15 at HO_0 HK HB hx262_0 hx263_0 hHeld ⊢
        refine pk_ 0 15 16 1 ?_
        refine pk_ 1 15 17 3 ?_
        refine pk_ 2 15 18 7 ?_
        refine pk_ 3 15 19 15 ?_
        refine pk_ 4 15 20 31 ?_
        refine pk_ 5 15 21 63 ?_
        refine pk_ 6 15 22 127 ?_
        refine pk_ 8 15 24 383 ?_
        refine pk_ 9 15 25 895 ?_
        refine pk_ 10 15 26 1919 ?_
        refine pk_ 11 15 27 3967 ?_
        refine tk_ 7 15 23 4095 hHeld ?_
        refine tk_ 12 15 28 8191 hHeld ?_
        refine one_ (i := 13) (N := some 29) #[true, true, true, true, true, true, true, true, true, true, true, true, true, true, false] rfl rfl (one_of HT_.out (by kernel_rfl)) (by decide) (fun K hK => ?_)
        refine goes_ Try.func141 (by kernel_rfl) rfl #[.int .i64 (rd x0_2 x7_2), .int .i64 (rd x0_2 (ji8))] (by rfl) rfl rfl (by (try simp only [List.map_toArray, List.map_cons, List.map_nil]); first | done | (simp only [hji8]; rfl) | rfl | (simp only [List.length_drop, List.length_take]; rfl)) ?_
        with_reducible refine (cmp_Less_int64.calls (rd x0_2 x7_2) (rd x0_2 (ji8)) true _ A11.out).mono ?_
        rintro e w' ⟨rfl, ⟨nd, rfl⟩⟩
        refine ⟨_, rfl, ?_⟩
        refine hK.out _ _ ⟨hHeld.1, hHeld.2⟩ (fun hHeld => ?_)
        clear hK K
        refine norm_ (a' := ?_) ?_ ?_
        rotate_left
        ·show Act.put _ (some 29) _ = _
         simp only [Act.put, nf_]
         rfl
        refine pk_ 14 15 30 32767 ?_
        refine done_ (done_of HT_.out (by kernel_rfl)) ?_
        try go_wp2
        (try (rw [drewN_self w15]; generalize hq_ : World.drewN w15 _ = w15; have n0_ : Aside0 (Kd.R (Kd.int .i64) 2 w15 w0.heap.size (fun k_ => (P0_ k_ ∨ w.heap.size ≤ k_)) (.slice (some ad262) x0_2.length co16) x0_2) := ⟨by rw [← hq_]; exact (Kd.R_below HO_0.out bgo_)⟩; have n1_ : Aside0 (Kept w w15 (fun k_ => P0_ k_)) := ⟨by rw [← hq_]; exact (by repeat (first | (with_reducible first | exact HK.out | apply Kept.alloc | apply Kept.drewN | apply Kept.drew) | exact HK.out))⟩; have n2_ : Aside0 (Below w0.heap.size w0 w15) := ⟨by rw [← hq_]; exact hb_⟩; clear HO_0 HK HB hq_; have HO_0 := n0_; have HK := n1_; have HB := n2_; clear n0_ n1_ n2_))
        have n0_ := Aside0.mk (Kd.R_drew HO_0.out)
        have n1_ := Aside0.mk (Kept.drew HK.out)
        have n2_ := Aside0.mk (below_drew1 HB.out)
        clear HO_0
        clear HK
        clear HB
        have HO_0 := n0_
        have HK := n1_
        have HB := n2_
        clear n0_ n1_ n2_
        have p265 : 0 ≤ ((ji8) : Int) := od_
        have q265 : (ji8) < (x0_2.length : Int) := od_
        obtain ⟨ad265, e265, hx265_0⟩ := Kd.at_int (Kd.R_reads' HO_0.out).2.2 (ji8) p265 q265
        obtain rfl : ad262 = ad265 := (by injection e265)
        replace p265 := eq_true p265
        replace q265 := eq_true q265
        have p266 : 0 ≤ (x7_2 : Int) := od_
        have q266 : x7_2 < (x0_2.length : Int) := od_
        obtain ⟨ad266, e266, hx266_0⟩ := Kd.at_int (Kd.R_reads' HO_0.out).2.2 x7_2 p266 q266
        obtain rfl : ad262 = ad266 := (by injection e266)
        replace p266 := eq_true p266
        replace q266 := eq_true q266
        have p13 : 0 ≤ (x7_2 : Int) := od_
        have q13 : (x7_2 : Int) < ((x0_2.length : Int) : Int) := od_
        obtain ⟨go13, co13, eo13, gb13, gl13, cl13, HG13⟩ := Kd.R_form HO_0.out (by omega)
        (first | cases eo13 | (injection eo13 with ea_ en_ ec_; (first | subst ea_ | (injection ea_ with ea_; subst ea_)); subst ec_; clear en_))
        have GB13 := Aside0.mk gb13
        have GG13 := Aside0.mk HG13
        clear gb13 gl13 HG13
        have HMgo13 := Aside0.mk (show (P0_ go13 ∨ w.heap.size ≤ go13) from (HO_0.out.1 _ rfl))
        (first | simp only [add_plain] at hx262_0 | skip)
        (first | simp only [add_plain] at hx263_0 | skip)
        (first | simp only [add_plain] at hx265_0 | skip)
        (first | simp only [add_plain] at hx266_0 | skip)
        obtain ⟨hx13_0, hf13_0⟩ := Kd.R_celln 0 HO_0.out (x7_2 : Int) p13 q13
        replace p13 := eq_true p13
        replace q13 := eq_true q13
        have HP18 := Kd.R_putn HO_0.out (x7_2 : Int) (rd x0_2 (ji8))
        rw [← Ny267.out] at HP18
        have HQ18 := Aside0.mk HP18
        clear HP18
        have p14 : 0 ≤ ((ji8) : Int) := od_
        have q14 : ((ji8) : Int) < ((x0_2.length : Int) : Int) := od_
        obtain ⟨hx14_0, hf14_0⟩ := Kd.R_celln 0 HQ18.out ((ji8) : Int) p14 q14
        replace p14 := eq_true p14
        replace q14 := eq_true q14
        have HP19 := Kd.R_putn HQ18.out ((ji8) : Int) (rd x0_2 x7_2)
        rw [← Ny268.out] at HP19
        have HQ19 := Aside0.mk HP19
        clear HP19
        refine start_ (n := 18) (S := fun w' => w'.cell? ⟨go13, ((ji8)).toNat, none⟩ = some (.int .i64 (rd x0_2 (ji8))) ∧ w'.cell? ⟨go13, (x7_2).toNat, none⟩ = some (.int .i64 (rd x0_2 x7_2))) (ds := [15, 17]) #[false, false, false, false, false, false, false, false, false, false, false, false, false, false, false, false, false, false] (by kernel_rfl) rfl rfl ⟨hx265_0, hx266_0⟩ (fun hHeld => ?_); refine with_tabW slices_insertionSortOrdered_int64.tab6 slices_insertionSortOrdered_int64.bits6 (fun HT_ HW_ => ?_)
        generalize w15.drew = w17 at HO_0 HK HB GG13 HQ18 HQ19 hf13_0 hf14_0 hx13_0 hx14_0 hx262_0 hx263_0 hx265_0 hx266_0 hHeld ⊢
        refine pk_ 0 18 33 1 ?_
        refine pk_ 1 18 34 3 ?_
        refine pk_ 2 18 35 7 ?_
        refine pk_ 3 18 36 15 ?_
        refine pk_ 4 18 37 31 ?_
        refine pk_ 5 18 38 63 ?_
        refine pk_ 6 18 39 127 ?_
        refine pk_ 7 18 40 255 ?_
        refine pk_ 8 18 41 511 ?_
        refine pk_ 10 18 43 1535 ?_
        refine pk_ 11 18 44 3583 ?_
        refine pk_ 12 18 45 7679 ?_
        refine tk_ 9 18 42 8191 hHeld ?_
        refine tk_ 13 18 46 16383 hHeld ?_
        refine pk_ 14 18 47 32767 ?_
        refine last_ (i := 15) (N := none) #[true, true, true, true, true, true, true, true, true, true, true, true, true, true, true, true, false, false] rfl rfl (one_of HT_.out (by kernel_rfl)) (by decide) (fun K hK => ?_)
        refine skip_ (w1 := ?_) (by rfl) rfl ?_ ?_
        rotate_left
        ·go_simp
         rfl
        refine hK.out _ _ ?_
        clear hK K
        refine pk_ 16 18 48 131071 ?_
        refine last_ (i := 17) (N := none) #[true, true, true, true, true, true, true, true, true, true, true, true, true, true, true, true, true, true] rfl rfl (one_of HT_.out (by kernel_rfl)) (by decide) (fun K hK => ?_)
        refine skip_ (w1 := ?_) (by rfl) rfl ?_ ?_
        rotate_left
        ·go_simp
         rfl
        refine hK.out _ _ ?_
        clear hK K
        refine done_ (done_of HT_.out (by kernel_rfl)) ?_
        try go_wp2
        first | (first | go_roundg k2 | (refine Handed.intro k2 ?measure ?_; rotate_left; go_step; (try simp only [add_plain]); (repeat apply Exists.intro); refine ⟨?rel, rfl⟩)) | ((try subst hji8); (first | go_roundg k2 | (refine Handed.intro k2 ?measure ?_; rotate_left; go_step; (try simp only [add_plain]); (repeat apply Exists.intro); refine ⟨?rel, rfl⟩)))
        case measure => have := HK1.out; have := HK2.out; omega
        case rel => exact ⟨(y268), (ji8), (by first | rfl | (simp; done) | (simp only [← hji8] <;> (first | rfl | simp)) | (simp [*]; done)), H', ⟨by have := HK1.out; have := HK2.out; omega⟩, ⟨by (with_reducible repeat (first | apply Kd.R_alloc | apply Kd.R_drewN | apply Kd.R_drew)); exact HQ19.out⟩, ⟨by repeat (first | (with_reducible first | exact HK.out | apply Kept.alloc | apply Kept.drewN | apply Kept.drew | refine Kept.setCell ?_ HMgo13.out _ | refine Kept.setCell ?_ HMgo13.out _) | exact HK.out)⟩, ⟨hbs_⟩⟩
       ·replace c12 := Bool.eq_false_iff.mpr c12
        subst c12
        have H1 : (slices_insertionSortOrdered_int64.l0 k2 x0_2 a1 a2 (wrap64 (x6_1 + 1))) = some r := by rw [if_neg (show ¬ (false = true) by decide)] at H; exact H
        clear H
        have H := H1
        clear H1
        have H' := Aside0.mk H
        clear H
        try go_wp2
        have n0_ := Aside0.mk (Kd.R_drew HO_0.out)
        have n1_ := Aside0.mk (Kept.drew HK.out)
        have n2_ := Aside0.mk (below_drew1 HB.out)
        clear HO_0
        clear HK
        clear HB
        have HO_0 := n0_
        have HK := n1_
        have HB := n2_
        clear n0_ n1_ n2_
        obtain ⟨Ao21, co21, eo21⟩ := Kd.R_slice HO_0.out
        (first | subst eo21 | (injection eo21 with f1_ f2_ f3_; have f4_ := f1_.symm; have f5_ := f3_.symm; clear f1_ f2_ f3_; subst f4_; subst f5_))
        have p262 : 0 ≤ (x7_2 : Int) := od_
        have q262 : x7_2 < (x0_2.length : Int) := od_
        obtain ⟨ad262, e262, hx262_0⟩ := Kd.at_int (Kd.R_reads' HO_0.out).2.2 x7_2 p262 q262
        cases e262
        replace p262 := eq_true p262
        replace q262 := eq_true q262
        have p263 : 0 ≤ ((ji8) : Int) := od_
        have q263 : (ji8) < (x0_2.length : Int) := od_
        obtain ⟨ad263, e263, hx263_0⟩ := Kd.at_int (Kd.R_reads' HO_0.out).2.2 (ji8) p263 q263
        obtain rfl : ad262 = ad263 := (by injection e263)
        replace p263 := eq_true p263
        replace q263 := eq_true q263
        refine start_ (n := 15) (S := fun w' => w'.cell? (ad262.add (x7_2).toNat) = some (.int .i64 (rd x0_2 x7_2)) ∧ w'.cell? (ad262.add ((ji8)).toNat) = some (.int .i64 (rd x0_2 (ji8)))) (ds := []) #[false, false, false, false, false, false, false, false, false, false, false, false, false, false, false] (by kernel_rfl) rfl rfl ⟨hx262_0, hx263_0⟩ (fun hHeld => ?_); refine with_tabW slices_insertionSortOrdered_int64.tab4 slices_insertionSortOrdered_int64.bits4 (fun HT_ HW_ => ?_)
        generalize wr.drew = w20 at HO_0 HK HB hx262_0 hx263_0 hHeld ⊢
        refine pk_ 0 15 16 1 ?_
        refine pk_ 1 15 17 3 ?_
        refine pk_ 2 15 18 7 ?_
        refine pk_ 3 15 19 15 ?_
        refine pk_ 4 15 20 31 ?_
        refine pk_ 5 15 21 63 ?_
        refine pk_ 6 15 22 127 ?_
        refine pk_ 8 15 24 383 ?_
        refine pk_ 9 15 25 895 ?_
        refine pk_ 10 15 26 1919 ?_
        refine pk_ 11 15 27 3967 ?_
        refine tk_ 7 15 23 4095 hHeld ?_
        refine tk_ 12 15 28 8191 hHeld ?_
        refine one_ (i := 13) (N := some 29) #[true, true, true, true, true, true, true, true, true, true, true, true, true, true, false] rfl rfl (one_of HT_.out (by kernel_rfl)) (by decide) (fun K hK => ?_)
        refine goes_ Try.func141 (by kernel_rfl) rfl #[.int .i64 (rd x0_2 x7_2), .int .i64 (rd x0_2 (ji8))] (by rfl) rfl rfl (by (try simp only [List.map_toArray, List.map_cons, List.map_nil]); first | done | (simp only [hji8]; rfl) | rfl | (simp only [List.length_drop, List.length_take]; rfl)) ?_
        with_reducible refine (cmp_Less_int64.calls (rd x0_2 x7_2) (rd x0_2 (ji8)) false _ A11.out).mono ?_
        rintro e w' ⟨rfl, ⟨nd, rfl⟩⟩
        refine ⟨_, rfl, ?_⟩
        refine hK.out _ _ ⟨hHeld.1, hHeld.2⟩ (fun hHeld => ?_)
        clear hK K
        refine norm_ (a' := ?_) ?_ ?_
        rotate_left
        ·show Act.put _ (some 29) _ = _
         simp only [Act.put, nf_]
         rfl
        refine pk_ 14 15 30 32767 ?_
        refine done_ (done_of HT_.out (by kernel_rfl)) ?_
        try go_wp2
        first | (first | go_roundg k2 | (refine Handed.intro k2 ?measure ?_; rotate_left; go_step; (try simp only [add_plain]); (repeat apply Exists.intro); refine ⟨?rel, rfl⟩)) | ((try subst hji8); (first | go_roundg k2 | (refine Handed.intro k2 ?measure ?_; rotate_left; go_step; (try simp only [add_plain]); (repeat apply Exists.intro); refine ⟨?rel, rfl⟩)))
        case measure => have := HK1.out; have := HK2.out; omega
        case rel => exact ⟨(x0_2), (wrap64 (x6_1 + 1)), es_, H', ⟨by have := HK1.out; have := HK2.out; omega⟩, ⟨Kd.R_below HO_0.out bgo_⟩, ⟨by repeat (first | (with_reducible first | exact HK.out | apply Kept.alloc | apply Kept.drewN | apply Kept.drew) | exact HK.out)⟩, ⟨hb_⟩⟩
      ·rw [if_neg c5] at H
       have c5b0 := decide_eq_false c5
       clear c5
       have H' := Aside0.mk H
       clear H
       try go_wp2
       have n0_ := Aside0.mk (Kd.R_drew HO_0.out)
       have n1_ := Aside0.mk (Kept.drew HK.out)
       have n2_ := Aside0.mk (below_drew1 HB.out)
       clear HO_0
       clear HK
       clear HB
       have HO_0 := n0_
       have HK := n1_
       have HB := n2_
       clear n0_ n1_ n2_
       refine start_ (n := 15) (S := fun w' => True) (ds := []) #[false, false, false, false, false, false, false, false, false, false, false, false, false, false, false] (by kernel_rfl) rfl rfl trivial (fun hHeld => ?_); refine with_tabW slices_insertionSortOrdered_int64.tab4 slices_insertionSortOrdered_int64.bits4 (fun HT_ HW_ => ?_)
       generalize wr.drew = w22 at HO_0 HK HB hHeld ⊢
       refine pk_ 0 15 16 1 ?_
       refine pk_ 1 15 17 3 ?_
       refine pk_ 2 15 18 7 ?_
       refine pk_ 3 15 19 15 ?_
       refine pure_ (i := 4) (N := some 20) (v := undef) (a' := ?_) #[true, true, true, true, true, false, false, false, false, false, false, false, false, false, false] rfl rfl (any_of HT_.out (by kernel_rfl)) (fun _ _ _ h => h) (Or.inr ⟨by rfl, rfl⟩) ?_ ?_
       rotate_left
       ·simp only [Act.put, nf_]
        rfl
       refine pure_ (i := 5) (N := some 21) (v := undef) (a' := ?_) #[true, true, true, true, true, true, false, false, false, false, false, false, false, false, false] rfl rfl (any_of HT_.out (by kernel_rfl)) (fun _ _ _ h => h) (Or.inr ⟨by rfl, rfl⟩) ?_ ?_
       rotate_left
       ·simp only [Act.put, nf_]
        rfl
       refine pure_ (i := 6) (N := some 22) (v := undef) (a' := ?_) #[true, true, true, true, true, true, true, false, false, false, false, false, false, false, false] rfl rfl (any_of HT_.out (by kernel_rfl)) (fun _ _ _ h => h) (Or.inr ⟨by rfl, rfl⟩) ?_ ?_
       rotate_left
       ·simp only [Act.put, nf_]
        rfl
       refine pure_ (i := 7) (N := some 23) (v := undef) (a' := ?_) #[true, true, true, true, true, true, true, true, false, false, false, false, false, false, false] rfl rfl (any_of HT_.out (by kernel_rfl)) (fun _ _ _ h => h) (Or.inr ⟨by rfl, rfl⟩) ?_ ?_
       rotate_left
       ·simp only [Act.put, nf_]
        rfl
       refine pure_ (i := 8) (N := some 24) (v := undef) (a' := ?_) #[true, true, true, true, true, true, true, true, true, false, false, false, false, false, false] rfl rfl (any_of HT_.out (by kernel_rfl)) (fun _ _ _ h => h) (Or.inr ⟨by rfl, rfl⟩) ?_ ?_
       rotate_left
       ·simp only [Act.put, nf_]
        rfl
       refine pure_ (i := 9) (N := some 25) (v := undef) (a' := ?_) #[true, true, true, true, true, true, true, true, true, true, false, false, false, false, false] rfl rfl (any_of HT_.out (by kernel_rfl)) (fun _ _ _ h => h) (Or.inr ⟨by rfl, rfl⟩) ?_ ?_
       rotate_left
       ·simp only [Act.put, nf_]
        rfl
       refine pure_ (i := 10) (N := some 26) (v := undef) (a' := ?_) #[true, true, true, true, true, true, true, true, true, true, true, false, false, false, false] rfl rfl (any_of HT_.out (by kernel_rfl)) (fun _ _ _ h => h) (Or.inr ⟨by rfl, rfl⟩) ?_ ?_
       rotate_left
       ·simp only [Act.put, nf_]
        rfl
       refine pure_ (i := 11) (N := some 27) (v := undef) (a' := ?_) #[true, true, true, true, true, true, true, true, true, true, true, true, false, false, false] rfl rfl (any_of HT_.out (by kernel_rfl)) (fun _ _ _ h => h) (Or.inr ⟨by rfl, rfl⟩) ?_ ?_
       rotate_left
       ·simp only [Act.put, nf_]
        rfl
       refine pure_ (i := 12) (N := some 28) (v := undef) (a' := ?_) #[true, true, true, true, true, true, true, true, true, true, true, true, true, false, false] rfl rfl (any_of HT_.out (by kernel_rfl)) (fun _ _ _ h => h) (Or.inr ⟨by rfl, rfl⟩) ?_ ?_
       rotate_left
       ·simp only [Act.put, nf_]
        rfl
       refine pure_ (i := 13) (N := some 29) (v := undef) (a' := ?_) #[true, true, true, true, true, true, true, true, true, true, true, true, true, true, false] rfl rfl (any_of HT_.out (by kernel_rfl)) (fun _ _ _ h => h) (Or.inr ⟨by rfl, rfl⟩) ?_ ?_
       rotate_left
       ·simp only [Act.put, nf_]
        rfl
       refine pk_ 14 15 30 32767 ?_
       refine done_ (done_of HT_.out (by kernel_rfl)) ?_
       try go_wp2
       first | go_roundg k2 | (refine Handed.intro k2 ?measure ?_; rotate_left; go_step; (try simp only [add_plain]); (repeat apply Exists.intro); refine ⟨?rel, rfl⟩)
       case measure => have := HK1.out; have := HK2.out; omega
       case rel => exact ⟨(x0_2), (wrap64 (x6_1 + 1)), es_, H', ⟨by have := HK1.out; have := HK2.out; omega⟩, ⟨Kd.R_below HO_0.out bgo_⟩, ⟨by repeat (first | (with_reducible first | exact HK.out | apply Kept.alloc | apply Kept.drewN | apply Kept.drew) | exact HK.out)⟩, ⟨hb_⟩⟩
   ·rw [if_neg c4] at H
    have c4b0 := decide_eq_false c4
    clear c4
    obtain rfl := Option.some.inj H
    go_wp2
    first | go_end0 | ((try simp only [Exit.inBlock, Exit.then]); refine bodyPost_ret (results_none rfl _ _ _) rfl ?_)
    exact ⟨er_, (Kd.R_below HO_0.out bgo_), hb_, by repeat (first | (with_reducible first | exact HK.out | apply Kept.alloc | apply Kept.drewN | apply Kept.drew) | exact HK.out)⟩

/-! ### slices_Sort_int64_int64: function 84 -/
set_option maxHeartbeats 8000000 in
set_option maxRecDepth 100000 in
theorem slices_Sort_int64_int64.len64 (x : Nat) (hx : x ≤ 4) (w : World) :
  Calls Try.prog 145 #[.int .u64 (x : Int)] w fun e w' => (∃ y : Int, e = .returned (.int .i64 y)) ∧ Drawn0 w w' := by
 have hc : x = 0 ∨ x = 1 ∨ x = 2 ∨ x = 3 ∨ x = 4 := by omega
 rcases hc with rfl | rfl | rfl | rfl | rfl
 all_goals
  go_enter Try.func145, Try.ntmps145
  go_wp2
  go_ret
  exact ⟨⟨_, rfl⟩, by repeat (first | exact Drawn0.refl _ | apply Drawn0.step)⟩
set_option maxHeartbeats 8000000 in
set_option maxRecDepth 100000 in
theorem slices_Sort_int64_int64.len (x : Nat) (hx : x ≤ 4) (w : World) :
  Calls Try.prog 123 #[.int .u64 (x : Int)] w fun e w' => (∃ y : Int, e = .returned (.int .i64 y)) ∧ Drawn0 w w' := by
 go_enter Try.func123, Try.ntmps123
 go_wp2_with (first | ((with_reducible refine gate_callee (f := 145) rfl ?_); refine goesL_ (some 7) rfl rfl Try.func145 (by kernel_rfl) rfl #[.int .u64 (x : Int)] rfl arg_ ?_; (with_reducible refine (slices_Sort_int64_int64.len64 x hx _).mono ?_); rintro e w' ⟨⟨y, rfl⟩, ⟨nd, rfl⟩⟩; refine ⟨_, rfl, ?_⟩))
 go_ret
 exact ⟨⟨_, rfl⟩, by repeat (first | exact Drawn0.refl _ | apply Drawn0.step)⟩
set_option maxHeartbeats 8000000 in
set_option maxRecDepth 100000 in
theorem slices_Sort_int64_int64.pdq (k : Nat) (P0_ : Nat → Prop) (u9000_ : Value) (l0 : List Int) (x : Nat) (hx : x ≤ 4) (a3 : Int) (r : List Int) (w0 w : World) (hB : Below w0.heap.size w0 w) (ho0 : Kd.R (Kd.int .i64) 2 w w0.heap.size P0_ u9000_ l0) (h : slices_insertionSortOrdered_int64.f k l0 0 (x : Int) = some r) :
  Calls Try.prog 122 #[u9000_, .int .i64 0, .int .i64 (x : Int), .int .i64 a3] w fun e w' => e = .returned (.tuple #[]) ∧ Kd.R (Kd.int .i64) 2 w' w0.heap.size (fun k_ => (P0_ k_ ∨ w.heap.size ≤ k_)) u9000_ r ∧ Below w0.heap.size w0 w' ∧ Kept w w' (fun k_ => P0_ k_) := by
 have HO_0 := Aside0.mk (show Kd.R (Kd.int .i64) 2 w w0.heap.size (fun k_ => (P0_ k_ ∨ w.heap.size ≤ k_)) u9000_ l0 from Kd.R_mono ho0 (fun k_ hk => (.inl hk)))
 have HK := Aside0.mk (Kept.refl w (fun k_ => P0_ k_))
 have HW0 := Aside0.mk hB.size
 have HB := Aside0.mk hB
 clear hB
 have A5 := Aside0.mk h
 clear h
 have e1 : IntKind.i64.wrap ((x : Int) - 0) = (x : Int) := (i64_w _).trans (by unfold wrap64; omega)
 have e2 : decide ((x : Int) ≤ 12) = true := decide_eq_true (by omega)
 obtain ⟨Ao6, co6, eo6⟩ := Kd.R_slice HO_0.out
 subst eo6
 go_enter Try.func122, Try.ntmps122
 go_wp2
 go_loopg [1, 2] 1 (fun kq v1 v2 w' => v1 = .int .i64 0 ∧ v2 = .int .i64 (x : Int) ∧ Aside0 (Kd.R (Kd.int .i64) 2 w' w0.heap.size (fun k_ => (P0_ k_ ∨ w.heap.size ≤ k_)) (.slice Ao6 l0.length co6) l0) ∧ Aside0 (Kept w w' (fun k_ => P0_ k_)) ∧ Aside0 (Below w0.heap.size w0 w'))
 case atStart => exact ⟨es_, es_, ⟨Kd.R_below HO_0.out bgo_⟩, ⟨by repeat (first | (with_reducible first | exact HK.out | apply Kept.alloc | apply Kept.drewN | apply Kept.drew) | exact HK.out)⟩, ⟨hb_⟩⟩
 case round =>
  clear HO_0 HK HB
  obtain ⟨rfl, rfl, HO_0, HK, HB⟩ := hrel
  go_wp2_with (first | ((with_reducible refine gate_callee (f := 135) rfl ?_); refine goesL_ (some 27) rfl rfl Try.func135 (by kernel_rfl) rfl #[.slice Ao6 l0.length co6, .int .i64 0, .int .i64 (x : Int)] rfl arg_ ?_; (with_reducible refine (slices_insertionSortOrdered_int64.calls k (fun k_ => some k_ = (.slice Ao6 l0.length co6 : Value).ownBlock) (.slice Ao6 l0.length co6) l0 0 (x : Int) r w0 _ ?side1 ?side2 A5.out).mono ?_); (case side1 => exact hb_); (case side2 => exact Kd.R_tight rfl HO_0.out); rintro e w7 ⟨rfl, hy0, hb, hkp⟩; refine ⟨_, rfl, ?_⟩; replace HK := Aside0.mk (Kept.then_ (S := (fun k_ => P0_ k_)) (by repeat (first | (with_reducible first | exact HK.out | apply Kept.alloc | apply Kept.drewN | apply Kept.drew) | exact HK.out)) hkp (fun k_ hs_ => (fun e_ => (HO_0.out.1 k_ e_.symm)) hs_)); replace HO_0 := Aside0.mk (Kd.R_reok rfl hy0 (fun k_ e_ => HO_0.out.1 k_ e_)); replace HB := Aside0.mk (hb); (try clear hb); (try clear hkp); (try clear hy0)))
  first | go_end0 | ((try simp only [Exit.inBlock, Exit.then]); refine bodyPost_ret (results_none rfl _ _ _) rfl ?_)
  exact ⟨er_, (Kd.R_below HO_0.out bgo_), hb_, by repeat (first | (with_reducible first | exact HK.out | apply Kept.alloc | apply Kept.drewN | apply Kept.drew) | exact HK.out)⟩
def slices_Sort_int64_int64.f (k : Nat) (l0 : List Int) : Option (List Int) := if l0.length ≤ 4 then slices_insertionSortOrdered_int64.f k l0 0 (l0.length : Int) else none
theorem slices_Sort_int64_int64.mono : ∀ a0 k, LeO (slices_Sort_int64_int64.f k a0) (slices_Sort_int64_int64.f (k + 1) a0) := by
 intro a0 k r h
 unfold slices_Sort_int64_int64.f at h ⊢
 by_cases c : a0.length ≤ 4
 ·rw [if_pos c] at h ⊢
  exact slices_insertionSortOrdered_int64.mono _ _ _ _ r h
 ·rw [if_neg c] at h
  cases h
set_option maxHeartbeats 8000000 in
set_option maxRecDepth 100000 in
theorem slices_Sort_int64_int64.calls (k : Nat) (P0_ : Nat → Prop) (u9000_ : Value) (l0 : List Int) (r : List Int) (w0 w : World) (hB : Below w0.heap.size w0 w) (ho0 : Kd.R (Kd.int .i64) 2 w w0.heap.size P0_ u9000_ l0) (h : slices_Sort_int64_int64.f k l0 = some r) :
  Calls Try.prog 84 #[u9000_] w fun e w' => e = .returned (.tuple #[]) ∧ Kd.R (Kd.int .i64) 2 w' w0.heap.size (fun k_ => (P0_ k_ ∨ w.heap.size ≤ k_)) u9000_ r ∧ Below w0.heap.size w0 w' ∧ Kept w w' (fun k_ => P0_ k_) := by
 have HO_0 := Aside0.mk (show Kd.R (Kd.int .i64) 2 w w0.heap.size (fun k_ => (P0_ k_ ∨ w.heap.size ≤ k_)) u9000_ l0 from Kd.R_mono ho0 (fun k_ hk => (.inl hk)))
 have HK := Aside0.mk (Kept.refl w (fun k_ => P0_ k_))
 have HW0 := Aside0.mk hB.size
 have HB := Aside0.mk hB
 clear hB
 unfold slices_Sort_int64_int64.f at h
 by_cases c : l0.length ≤ 4
 ·rw [if_pos c] at h
  have A5 := Aside0.mk h
  have L4 := Aside0.mk c
  have e1 : IntKind.u64.wrap (l0.length : Int) = (l0.length : Int) := by
   have : ∀ x : Fin 5, IntKind.u64.wrap ((x.val : Nat) : Int) = ((x.val : Nat) : Int) := by decide
   exact this ⟨l0.length, by omega⟩
  clear h c
  obtain ⟨Ao6, co6, eo6⟩ := Kd.R_slice HO_0.out
  subst eo6
  go_enter Try.func84, Try.ntmps84
  go_wp2_with (first | ((with_reducible refine gate_callee (f := 123) rfl ?_); refine goesL_ (some 9) rfl rfl Try.func123 (by kernel_rfl) rfl #[.int .u64 (l0.length : Int)] rfl arg_ ?_; (with_reducible refine (slices_Sort_int64_int64.len l0.length L4.out _).mono ?_); rintro e w' ⟨⟨y, rfl⟩, ⟨nd, rfl⟩⟩; refine ⟨_, rfl, ?_⟩) | ((with_reducible refine gate_callee (f := 122) rfl ?_); refine goesL_ (some 10) rfl rfl Try.func122 (by kernel_rfl) rfl #[.slice Ao6 l0.length co6, .int .i64 0, .int .i64 (l0.length : Int), .int .i64 y] rfl arg_ ?_; (with_reducible refine (slices_Sort_int64_int64.pdq k (fun k_ => some k_ = (.slice Ao6 l0.length co6 : Value).ownBlock) (.slice Ao6 l0.length co6) l0 l0.length L4.out y r w0 _ ?side1 ?side2 A5.out).mono ?_); (case side1 => exact hb_); (case side2 => exact Kd.R_tight rfl HO_0.out); rintro e w7 ⟨rfl, hy0, hb, hkp⟩; refine ⟨_, rfl, ?_⟩; replace HK := Aside0.mk (Kept.then_ (S := (fun k_ => P0_ k_)) (by repeat (first | (with_reducible first | exact HK.out | apply Kept.alloc | apply Kept.drewN | apply Kept.drew) | exact HK.out)) hkp (fun k_ hs_ => (fun e_ => (HO_0.out.1 k_ e_.symm)) hs_)); replace HO_0 := Aside0.mk (Kd.R_reok rfl hy0 (fun k_ e_ => HO_0.out.1 k_ e_)); replace HB := Aside0.mk (hb); (try clear hb); (try clear hkp); (try clear hy0)))
  first | go_end0 | ((try simp only [Exit.inBlock, Exit.then]); refine bodyPost_ret (results_none rfl _ _ _) rfl ?_)
  exact ⟨er_, (Kd.R_below HO_0.out bgo_), hb_, by repeat (first | (with_reducible first | exact HK.out | apply Kept.alloc | apply Kept.drewN | apply Kept.drew) | exact HK.out)⟩
 ·rw [if_neg c] at h
  cases h

/-! ### slices_Reverse_int64_int64: function 85 -/
def slices_Reverse_int64_int64.l0 : Nat → List Int → Int → Int → Option (List Int)
 | 0, _, _, _ => none
 | k + 1, x0, x2, x3 => if x2 < x3 then (if 0 ≤ x3 then (if x3 < (x0.length : Int) then (if 0 ≤ x2 then (if x2 < (x0.length : Int) then (slices_Reverse_int64_int64.l0 k ((x0.set (x2 : Int).toNat (rd x0 x3)).set (x3 : Int).toNat (rd x0 x2)) (wrap64 (x2 + 1)) (wrap64 (x3 - 1))) else (none)) else (none)) else (none)) else (none)) else (some x0)
def slices_Reverse_int64_int64.f (k : Nat) (l0 : List Int) : Option (List Int) := slices_Reverse_int64_int64.l0 k l0 0 (wrap64 ((l0.length : Int) - 1))
theorem slices_Reverse_int64_int64.mono_l : ∀ k, (∀ y0 y1 y2, LeO (slices_Reverse_int64_int64.l0 k y0 y1 y2) (slices_Reverse_int64_int64.l0 (k + 1) y0 y1 y2))
 | 0 => fun _ _ _ r h => by simp [slices_Reverse_int64_int64.l0] at h
 | k + 1 => by
  have ih0 := slices_Reverse_int64_int64.mono_l k
  ·intro y0 y1 y2
   unfold slices_Reverse_int64_int64.l0
   repeat' first
   | (with_reducible exact ih0 _ _ _)
   | (with_reducible exact LeO.refl _)
   | (with_reducible exact LeO.none _)
   | (with_reducible refine LeO.ite ?_ ?_)
   | (with_reducible refine LeO.bind ?_ (fun _ => ?_))
theorem slices_Reverse_int64_int64.mono : ∀ a0 k, LeO (slices_Reverse_int64_int64.f k a0) (slices_Reverse_int64_int64.f (k + 1) a0) := by
 intro a0 k
 have ih0 := slices_Reverse_int64_int64.mono_l k
 unfold slices_Reverse_int64_int64.f
 repeat' first
   | (with_reducible exact ih0 _ _ _)
   | (with_reducible exact LeO.refl _)
   | (with_reducible exact LeO.none _)
   | (with_reducible refine LeO.ite ?_ ?_)
   | (with_reducible refine LeO.bind ?_ (fun _ => ?_))
def slices_Reverse_int64_int64.T3 : Bool × List (List Nat × List Nat) := (true, [([], []), ([], []), ([], []), ([], []), ([], []), ([], []), ([4, 5], [4, 5]), ([6], [6]), ([], []), ([], []), ([8, 9], [8, 9]), ([10], [10]), ([0, 1, 0, 1, 4, 5, 6, 7, 11], [0, 1]), ([12, 7, 0, 1, 4, 5, 6, 7, 11], [7, 12]), ([2, 3, 0, 1, 2, 3, 4, 5, 6, 7, 8, 9, 10, 11, 12, 13], [2, 3]), ([14, 11, 13, 0, 1, 2, 3, 4, 5, 6, 7, 8, 9, 10, 11, 12, 13], [11, 14])])
def slices_Reverse_int64_int64.B3 : List Nat := [0, 0, 0, 0, 0, 0, 48, 112, 0, 0, 768, 1792, 4083, 8179, 16383, 32767]
theorem slices_Reverse_int64_int64.tab3 : rtab .any (opsOf Try.f85 3) = slices_Reverse_int64_int64.T3 := by kernel_rfl
theorem slices_Reverse_int64_int64.bits3 : waitsOk slices_Reverse_int64_int64.T3.2 slices_Reverse_int64_int64.B3 = true := by kernel_rfl
set_option maxHeartbeats 8000000 in
set_option maxRecDepth 100000 in
theorem slices_Reverse_int64_int64.calls (k : Nat) (P0_ : Nat → Prop) (u9000_ : Value) (l0 : List Int) (r : List Int) (w0 w : World) (hB : Below w0.heap.size w0 w) (ho0 : Kd.R (Kd.int .i64) 2 w w0.heap.size P0_ u9000_ l0) (h : slices_Reverse_int64_int64.f k l0 = some r) :
  Calls Try.prog 85 #[u9000_] w fun e w' => e = .returned (.tuple #[]) ∧ Kd.R (Kd.int .i64) 2 w' w0.heap.size (fun k_ => (P0_ k_ ∨ w.heap.size ≤ k_)) u9000_ r ∧ Below w0.heap.size w0 w' ∧ Kept w w' (fun k_ => P0_ k_) := by
 have HO0 := Aside0.mk (show Kd.R (Kd.int .i64) 2 w w0.heap.size (fun k_ => (P0_ k_ ∨ w.heap.size ≤ k_)) u9000_ l0 from Kd.R_mono ho0 (fun k_ hk => (.inl hk)))
 have HK := Aside0.mk (Kept.refl w (fun k_ => P0_ k_))
 have HW0 := Aside0.mk hB.size
 have HB := Aside0.mk hB
 clear hB
 have H : (slices_Reverse_int64_int64.l0 k l0 0 (wrap64 ((l0.length : Int) - 1))) = some r := h
 clear h
 have H' := Aside0.mk H
 clear H
 obtain ⟨Ao2, co2, eo2⟩ := Kd.R_slice HO0.out
 subst eo2
 go_enter Try.func85, Try.ntmps85
 go_wp2
 go_loopg [2, 3] k (fun kq v2 v3 w' => ∃ (x0_1 : List Int) (x2_1 : Int) (x3_1 : Int), v2 = .int .i64 x2_1 ∧ v3 = .int .i64 x3_1 ∧ Aside0 (slices_Reverse_int64_int64.l0 kq x0_1 x2_1 x3_1 = some r) ∧ Aside0 (kq ≤ k) ∧ Aside0 (Kd.R (Kd.int .i64) 2 w' w0.heap.size (fun k_ => (P0_ k_ ∨ w.heap.size ≤ k_)) (.slice Ao2 l0.length co2) x0_1) ∧ Aside0 (Kept w w' (fun k_ => P0_ k_)) ∧ Aside0 (Below w0.heap.size w0 w'))
 case atStart => exact ⟨(l0), (0), (wrap64 ((l0.length : Int) - 1)), es_, es_, H', ⟨Nat.le_refl _⟩, ⟨Kd.R_below HO0.out bgo_⟩, ⟨by repeat (first | (with_reducible first | exact HK.out | apply Kept.alloc | apply Kept.drewN | apply Kept.drew) | exact HK.out)⟩, ⟨hb_⟩⟩
 case round =>
  clear H'
  obtain ⟨x0_1, x2_1, x3_1, rfl, rfl, HA, HK1, HO_0, HK, HB⟩ := hrel
  have hl0_1 := (Kd.R_reads' HO_0.out).1
  rw [hl0_1] at HO_0
  (try simp only [hl0_1])
  cases gk with
  | zero => exact absurd HA.out (by simp [slices_Reverse_int64_int64.l0])
  | succ k1 =>
   have H := HA.out
   clear HA
   simp only [slices_Reverse_int64_int64.l0] at H
   by_cases c3 : x2_1 < x3_1
   ·rw [if_pos c3] at H
    have c3b0 := decide_eq_true c3
    clear c3
    obtain ⟨c4, H⟩ := itn_ H
    have c4b0 := decide_eq_true c4
    clear c4
    obtain ⟨c5, H⟩ := itn_ H
    have c5b0 := decide_eq_true c5
    (try (have c5z0 := c5b0; simp only [hl0_1] at c5z0))
    clear c5
    obtain ⟨c6, H⟩ := itn_ H
    have c6b0 := decide_eq_true c6
    clear c6
    obtain ⟨c7, H⟩ := itn_ H
    have c7b0 := decide_eq_true c7
    (try (have c7z0 := c7b0; simp only [hl0_1] at c7z0))
    clear c7
    obtain ⟨y271, Ny271, H⟩ : ∃ y271 : List Int, Aside0 (y271 = (x0_1.set (x2_1 : Int).toNat (rd x0_1 x3_1))) ∧ (slices_Reverse_int64_int64.l0 k1 (y271.set (x3_1 : Int).toNat (rd x0_1 x2_1)) (wrap64 (x2_1 + 1)) (wrap64 (x3_1 - 1))) = some r := ⟨_, ⟨rfl⟩, H⟩
    obtain ⟨y272, Ny272, H⟩ : ∃ y272 : List Int, Aside0 (y272 = (y271.set (x3_1 : Int).toNat (rd x0_1 x2_1))) ∧ (slices_Reverse_int64_int64.l0 k1 y272 (wrap64 (x2_1 + 1)) (wrap64 (x3_1 - 1))) = some r := ⟨_, ⟨rfl⟩, H⟩
    have H' := Aside0.mk H
    clear H
    try go_wp2
    have n0_ := Aside0.mk (Kd.R_drew HO_0.out)
    have n1_ := Aside0.mk (Kept.drew HK.out)
    have n2_ := Aside0.mk (below_drew1 HB.out)
    clear HO_0
    clear HK
    clear HB
    have HO_0 := n0_
    have HK := n1_
    have HB := n2_
    clear n0_ n1_ n2_
    have p269 : 0 ≤ (x3_1 : Int) := od_
    have q269 : x3_1 < (x0_1.length : Int) := od_
    obtain ⟨ad269, e269, hx269_0⟩ := Kd.at_int (Kd.R_reads' HO_0.out).2.2 x3_1 p269 q269
    cases e269
    replace p269 := eq_true p269
    replace q269 := eq_true q269
    have p270 : 0 ≤ (x2_1 : Int) := od_
    have q270 : x2_1 < (x0_1.length : Int) := od_
    obtain ⟨ad270, e270, hx270_0⟩ := Kd.at_int (Kd.R_reads' HO_0.out).2.2 x2_1 p270 q270
    obtain rfl : ad269 = ad270 := (by injection e270)
    replace p270 := eq_true p270
    replace q270 := eq_true q270
    have p8 : 0 ≤ (x2_1 : Int) := od_
    have q8 : (x2_1 : Int) < ((x0_1.length : Int) : Int) := od_
    obtain ⟨go8, co8, eo8, gb8, gl8, cl8, HG8⟩ := Kd.R_form HO_0.out (by omega)
    (first | cases eo8 | (injection eo8 with ea_ en_ ec_; (first | subst ea_ | (injection ea_ with ea_; subst ea_)); subst ec_; clear en_))
    have GB8 := Aside0.mk gb8
    have GG8 := Aside0.mk HG8
    clear gb8 gl8 HG8
    have HMgo8 := Aside0.mk (show (P0_ go8 ∨ w.heap.size ≤ go8) from (HO_0.out.1 _ rfl))
    (first | simp only [add_plain] at hx269_0 | skip)
    (first | simp only [add_plain] at hx270_0 | skip)
    obtain ⟨hx8_0, hf8_0⟩ := Kd.R_celln 0 HO_0.out (x2_1 : Int) p8 q8
    replace p8 := eq_true p8
    replace q8 := eq_true q8
    have HP11 := Kd.R_putn HO_0.out (x2_1 : Int) (rd x0_1 x3_1)
    rw [← Ny271.out] at HP11
    have HQ11 := Aside0.mk HP11
    clear HP11
    have p9 : 0 ≤ (x3_1 : Int) := od_
    have q9 : (x3_1 : Int) < ((x0_1.length : Int) : Int) := od_
    obtain ⟨hx9_0, hf9_0⟩ := Kd.R_celln 0 HQ11.out (x3_1 : Int) p9 q9
    replace p9 := eq_true p9
    replace q9 := eq_true q9
    have HP12 := Kd.R_putn HQ11.out (x3_1 : Int) (rd x0_1 x2_1)
    rw [← Ny272.out] at HP12
    have HQ12 := Aside0.mk HP12
    clear HP12
    refine start_ (n := 16) (S := fun w' => w'.cell? ⟨go8, (x3_1).toNat, none⟩ = some (.int .i64 (rd x0_1 x3_1)) ∧ w'.cell? ⟨go8, (x2_1).toNat, none⟩ = some (.int .i64 (rd x0_1 x2_1))) (ds := [13, 15]) #[false, false, false, false, false, false, false, false, false, false, false, false, false, false, false, false] (by kernel_rfl) rfl rfl ⟨hx269_0, hx270_0⟩ (fun hHeld => ?_); refine with_tabW slices_Reverse_int64_int64.tab3 slices_Reverse_int64_int64.bits3 (fun HT_ HW_ => ?_)
    generalize wr.drew = w10 at HO_0 HK HB GG8 HQ11 HQ12 hf8_0 hf9_0 hx269_0 hx270_0 hx8_0 hx9_0 hHeld ⊢
    refine pk_ 0 16 14 1 ?_
    refine pk_ 1 16 15 3 ?_
    refine pk_ 2 16 16 7 ?_
    refine pk_ 3 16 17 15 ?_
    refine pk_ 4 16 18 31 ?_
    refine pk_ 5 16 19 63 ?_
    refine pk_ 6 16 20 127 ?_
    refine pk_ 8 16 22 383 ?_
    refine pk_ 9 16 23 895 ?_
    refine pk_ 10 16 24 1919 ?_
    refine tk_ 7 16 21 2047 hHeld ?_
    refine tk_ 11 16 25 4095 hHeld ?_
    refine pk_ 12 16 26 8191 ?_
    refine last_ (i := 13) (N := none) #[true, true, true, true, true, true, true, true, true, true, true, true, true, true, false, false] rfl rfl (one_of HT_.out (by kernel_rfl)) (by decide) (fun K hK => ?_)
    refine skip_ (w1 := ?_) (by rfl) rfl ?_ ?_
    rotate_left
    ·go_simp
     rfl
    refine hK.out _ _ ?_
    clear hK K
    refine pk_ 14 16 27 32767 ?_
    refine last_ (i := 15) (N := none) #[true, true, true, true, true, true, true, true, true, true, true, true, true, true, true, true] rfl rfl (one_of HT_.out (by kernel_rfl)) (by decide) (fun K hK => ?_)
    refine skip_ (w1 := ?_) (by rfl) rfl ?_ ?_
    rotate_left
    ·go_simp
     rfl
    refine hK.out _ _ ?_
    clear hK K
    refine done_ (done_of HT_.out (by kernel_rfl)) ?_
    try go_wp2
    (try simp only [← hl0_1])
    first | go_roundg k1 | (refine Handed.intro k1 ?measure ?_; rotate_left; go_step; (try simp only [add_plain]); (repeat apply Exists.intro); refine ⟨?rel, rfl⟩)
    case measure => have := HK1.out; omega
    case rel => exact ⟨(y272), (wrap64 (x2_1 + 1)), (wrap64 (x3_1 - 1)), es_, es_, H', ⟨by have := HK1.out; omega⟩, ⟨by (try simp only [hl0_1]); (with_reducible repeat (first | apply Kd.R_alloc | apply Kd.R_drewN | apply Kd.R_drew)); exact HQ12.out⟩, ⟨by repeat (first | (with_reducible first | exact HK.out | apply Kept.alloc | apply Kept.drewN | apply Kept.drew | refine Kept.setCell ?_ HMgo8.out _ | refine Kept.setCell ?_ HMgo8.out _) | exact HK.out)⟩, ⟨hbs_⟩⟩
   ·rw [if_neg c3] at H
    have c3b0 := decide_eq_false c3
    clear c3
    obtain rfl := Option.some.inj H
    go_wp2
    first | go_end0 | ((try simp only [Exit.inBlock, Exit.then]); refine bodyPost_ret (results_none rfl _ _ _) rfl ?_)
    exact ⟨er_, (by first | exact (Kd.R_below HO_0.out bgo_) | (simp only [hl0_1]; exact (Kd.R_below HO_0.out bgo_))), hb_, by repeat (first | (with_reducible first | exact HK.out | apply Kept.alloc | apply Kept.drewN | apply Kept.drew) | exact HK.out)⟩

/-! ### impl_TypeOfWalk: function 36 -/
mutual
def impl_TypeOfWalk.l0 : Nat → List Int → List Int → List Bool → Int → Int → Option (List Int × Int)
 | 0, _, _, _, _, _ => none
 | k + 1, x6, x8, x9, x27, x28 => if x28 < x27 then (impl_TypeOfWalk.l1 k x6 x8 x9 0 x28 x27 x28) else ((slices_Sort_int64_int64.f k x8).bind fun t284 => ((slices_Reverse_int64_int64.f k t284).bind fun t285 => (some (t285, 0))))
def impl_TypeOfWalk.l1 : Nat → List Int → List Int → List Bool → Int → Int → Int → Int → Option (List Int × Int)
 | 0, _, _, _, _, _, _, _ => none
 | k + 1, x6, x8, x9, x11, x12, x27, x28 => if 0 ≤ x12 then (if x12 < (x9.length : Int) then (if rdOf false x9 x12 = true then (if x11 > 0 then (if x8.length < 17592186044416 then (impl_TypeOfWalk.l0 k x6 (x8 ++ [x11]) x9 x27 (wrap64 (x28 + 1))) else (none)) else (impl_TypeOfWalk.l0 k x6 x8 x9 x27 (wrap64 (x28 + 1)))) else (if x12 < (x6.length : Int) then (impl_TypeOfWalk.l1 k x6 x8 (x9.set (x12 : Int).toNat true) (wrap64 (x11 + 1)) (rd x6 x12) x27 x28) else (none))) else (none)) else (none)
end
def impl_TypeOfWalk.f (k : Nat) (a0_0 : Int) (l0_1 : List (List Int)) (a0_2 : Int) (l0_3 : List (List Int)) (l1 : List Int) : Option (List Int × Int) := (impl_PermutationOfWalk.f k a0_0 l0_1 a0_2 l0_3 l1).bind fun bt274 => (if bt274.2 = 0 then (if 0 ≤ (bt274.1.length : Int) then (if ((bt274.1.length : Int) : Int).toNat ≤ 281474976710656 then (impl_TypeOfWalk.l0 k bt274.1 (([] : List Int)) (List.replicate ((bt274.1.length : Int) : Int).toNat false) (bt274.1.length : Int) 0) else (none)) else (none)) else (some (([] : List Int), bt274.2)))
theorem impl_TypeOfWalk.mono_l : ∀ k, (∀ y0 y1 y2 y3 y4, LeO (impl_TypeOfWalk.l0 k y0 y1 y2 y3 y4) (impl_TypeOfWalk.l0 (k + 1) y0 y1 y2 y3 y4)) ∧ (∀ y0 y1 y2 y3 y4 y5 y6, LeO (impl_TypeOfWalk.l1 k y0 y1 y2 y3 y4 y5 y6) (impl_TypeOfWalk.l1 (k + 1) y0 y1 y2 y3 y4 y5 y6))
 | 0 => ⟨fun _ _ _ _ _ r h => by simp [impl_TypeOfWalk.l0] at h, fun _ _ _ _ _ _ _ r h => by simp [impl_TypeOfWalk.l1] at h⟩
 | k + 1 => by
  obtain ⟨ih0, ih1⟩ := impl_TypeOfWalk.mono_l k
  refine ⟨?_, ?_⟩
  ·intro y0 y1 y2 y3 y4
   unfold impl_TypeOfWalk.l0
   repeat' first
   | (with_reducible exact ih0 _ _ _ _ _)
   | (with_reducible exact ih1 _ _ _ _ _ _ _)
   | (with_reducible exact impl_PermutationOfWalk.mono _ _ _ _ _ _)
   | (with_reducible exact slices_Reverse_int64_int64.mono _ _)
   | (with_reducible exact slices_Sort_int64_int64.mono _ _)
   | (with_reducible exact LeO.refl _)
   | (with_reducible exact LeO.none _)
   | (with_reducible refine LeO.ite ?_ ?_)
   | (with_reducible refine LeO.bind ?_ (fun _ => ?_))
  ·intro y0 y1 y2 y3 y4 y5 y6
   unfold impl_TypeOfWalk.l1
   repeat' first
   | (with_reducible exact ih0 _ _ _ _ _)
   | (with_reducible exact ih1 _ _ _ _ _ _ _)
   | (with_reducible exact impl_PermutationOfWalk.mono _ _ _ _ _ _)
   | (with_reducible exact slices_Reverse_int64_int64.mono _ _)
   | (with_reducible exact slices_Sort_int64_int64.mono _ _)
   | (with_reducible exact LeO.refl _)
   | (with_reducible exact LeO.none _)
   | (with_reducible refine LeO.ite ?_ ?_)
   | (with_reducible refine LeO.bind ?_ (fun _ => ?_))
set_option maxHeartbeats 8000000 in
set_option maxRecDepth 100000 in
theorem impl_TypeOfWalk.calls (k : Nat) (a0_0 : Int) (A0_1 : Option Addr) (c0_1 : Nat) (l0_1 : List (List Int)) (a0_2 : Int) (A0_3 : Option Addr) (c0_3 : Nat) (l0_3 : List (List Int)) (A1 : Option Addr) (c1 : Nat) (l1 : List Int) (r1 : List Int) (r2 : Int) (w : World) (hr0_1 : Kd.C (Kd.slice 2 (Kd.int .i64)) w A0_1 l0_1.length l0_1) (hc0_1 : l0_1.length ≤ c0_1) (hr0_3 : Kd.C (Kd.slice 2 (Kd.int .i64)) w A0_3 l0_3.length l0_3) (hc0_3 : l0_3.length ≤ c0_3) (hr1 : Kd.C (Kd.int .i64) w A1 l1.length l1) (hc1 : l1.length ≤ c1) (h : impl_TypeOfWalk.f k a0_0 l0_1 a0_2 l0_3 l1 = some (r1, r2)) :
  Calls Try.prog 36 #[.agg #[.int .i64 a0_0, .slice A0_1 l0_1.length c0_1, .int .i64 a0_2, .slice A0_3 l0_3.length c0_3], .slice A1 l1.length c1] w fun e w' => ∃ v0_ : Value, e = .returned (.tuple #[v0_, .int .i64 r2]) ∧ Kd.R (Kd.int .i64) 2 w' w.heap.size (fun _ => True) v0_ r1 ∧ Below w.heap.size w w' := by
 have hu52 := Try.underlying52
 have HR0_1 := Aside0.mk hr0_1
 have HC0_1 := Aside0.mk hc0_1
 clear hr0_1 hc0_1
 have HR0_3 := Aside0.mk hr0_3
 have HC0_3 := Aside0.mk hc0_3
 clear hr0_3 hc0_3
 have HR1 := Aside0.mk hr1
 have HC1 := Aside0.mk hc1
 clear hr1 hc1
 have HB := Aside0.mk (Below.refl w.heap.size w)
 have H : ((impl_PermutationOfWalk.f k a0_0 l0_1 a0_2 l0_3 l1).bind fun bt274 => (if bt274.2 = 0 then (if 0 ≤ (bt274.1.length : Int) then (if ((bt274.1.length : Int) : Int).toNat ≤ 281474976710656 then (impl_TypeOfWalk.l0 k bt274.1 (([] : List Int)) (List.replicate ((bt274.1.length : Int) : Int).toNat false) (bt274.1.length : Int) 0) else (none)) else (none)) else (some (([] : List Int), bt274.2)))) = some (r1, r2) := h
 clear h
 obtain ⟨⟨t274, t277⟩, A3, H⟩ := bnd_ H
 dsimp only at H
 by_cases c4 : t277 = 0
 ·rw [if_pos c4] at H
  have c4b0 : (t277 == 0) = true := beq_iff_eq.mpr c4
  have c4b1 : (t277 != 0) = false := bne_eq_false_iff_eq.mpr c4
  clear c4
  obtain ⟨y278, Ny278, H⟩ : ∃ y278 : List Int, Aside0 (y278 = (([] : List Int))) ∧ (if 0 ≤ (t274.length : Int) then (if ((t274.length : Int) : Int).toNat ≤ 281474976710656 then (impl_TypeOfWalk.l0 k t274 y278 (List.replicate ((t274.length : Int) : Int).toNat false) (t274.length : Int) 0) else (none)) else (none)) = some (r1, r2) := ⟨_, ⟨rfl⟩, H⟩
  obtain ⟨c5, H⟩ := itn_ H
  have c5b0 := eq_true c5
  have c5b1 := decide_eq_true c5
  clear c5
  obtain ⟨c6, H⟩ := itn_ H
  have c6b0 := eq_true c6
  have c6b1 := decide_eq_true c6
  clear c6
  obtain ⟨y281, Ny281, H⟩ : ∃ y281 : List Bool, Aside0 (y281 = (List.replicate ((t274.length : Int) : Int).toNat false)) ∧ (impl_TypeOfWalk.l0 k t274 y278 y281 (t274.length : Int) 0) = some (r1, r2) := ⟨_, ⟨rfl⟩, H⟩
  have H' := Aside0.mk H
  clear H
  go_enter Try.func36, Try.ntmps36
  try go_wp2_with (first | ((with_reducible refine gate_dst (N := 2) rfl ?_); refine box_event ?hg (N := 2) ?hd (cs := #[.int .i64 a0_0, .slice A0_1 l0_1.length c0_1, .int .i64 a0_2, .slice A0_3 l0_3.length c0_3]) (t := 52) ?hr ?_; (case hd => rfl); (case hg => rfl); (case hr => first | (go_simp; done) | (go_simp; rfl)); intro gb273 hg w7 hbox hb; have BK273 := Aside0.mk (hbox); have GW273 := Aside0.mk ((by rw [hg]; exact (below_size hb_) : w.heap.size ≤ gb273)); have GE273 := Aside0.mk ((by rw [hg]; exact (below_size hb_) : w.heap.size ≤ gb273)); replace HB := Aside0.mk (below_step hb_ hb); clear hb hbox hg; have hcz8_0 : w7.cell? ⟨gb273, 0, none⟩ = some (.int .i64 a0_0) := (blk_cell BK273.out 0).trans rfl; have hcz8_1 : w7.cell? ⟨gb273, 1, none⟩ = some (.slice A0_1 l0_1.length c0_1) := (blk_cell BK273.out 1).trans rfl; have hcz8_2 : w7.cell? ⟨gb273, 2, none⟩ = some (.int .i64 a0_2) := (blk_cell BK273.out 2).trans rfl; have hcz8_3 : w7.cell? ⟨gb273, 3, none⟩ = some (.slice A0_3 l0_3.length c0_3) := (blk_cell BK273.out 3).trans rfl; have hfz8_0 := blk_frozen BK273.out 0; have hfz8_1 := blk_frozen BK273.out 1; have hfz8_2 := blk_frozen BK273.out 2; have hfz8_3 := blk_frozen BK273.out 3) | ((with_reducible refine gate_callee (f := 83) rfl ?_); refine goesL_ (some 16) rfl rfl Try.func83 (by kernel_rfl) rfl #[.agg #[.int .i64 a0_0, .slice A0_1 l0_1.length c0_1, .int .i64 a0_2, .slice A0_3 l0_3.length c0_3], .slice A1 l1.length c1] rfl arg_ ?_; (with_reducible refine (impl_PermutationOfWalk.calls k a0_0 _ _ l0_1 a0_2 _ _ l0_3 _ _ l1 t274 t277 _ ?side1 ?side2 ?side3 ?side4 ?side5 ?side6 A3.out).mono ?_); (case side1 => exact Kd.C_below (Kd.C_below HR0_1.out HB.out) bgo_); (case side2 => exact HC0_1.out); (case side3 => exact Kd.C_below (Kd.C_below HR0_3.out HB.out) bgo_); (case side4 => exact HC0_3.out); (case side5 => exact Kd.C_below (Kd.C_below HR1.out HB.out) bgo_); (case side6 => exact HC1.out); rintro e w9 ⟨v275, rfl, ho0, hb⟩; refine ⟨_, rfl, ?_⟩; have HO276 := Aside0.mk (Kd.R_lower ho0 (below_size hbs_)); replace BK273 := Aside0.mk (blk_below (g := gb273) (o := .cells #[.int .i64 a0_0, .slice A0_1 l0_1.length c0_1, .int .i64 a0_2, .slice A0_3 l0_3.length c0_3] 52 (0, 0)) (blk_below BK273.out bgo_) hb); replace HB := Aside0.mk (below_step hbs_ hb); (try clear hb); (try clear hb2); (try clear hk); (try clear hi); (try clear ho0)))
  have n0_ := Aside0.mk (Kd.R_drew HO276.out)
  have n1_ := Aside0.mk (blk_drew BK273.out)
  have n2_ := Aside0.mk (below_drew1 HB.out)
  clear HO276
  clear BK273
  clear HB
  have HO276 := n0_
  have BK273 := n1_
  have HB := n2_
  clear n0_ n1_ n2_
  obtain ⟨Ao11, co11, eo11⟩ := Kd.R_slice HO276.out
  (first | subst eo11 | (injection eo11 with f1_ f2_ f3_; have f4_ := f1_.symm; have f5_ := f3_.symm; clear f1_ f2_ f3_; subst f4_; subst f5_))
  refine start_ (n := 6) (S := fun w' => True) (ds := []) #[false, false, false, false, false, false] (by kernel_rfl) rfl rfl trivial (fun hHeld => ?_)
  generalize w9.drew = w10 at HO276 BK273 HB hHeld ⊢
  refine pure_ (i := 1) (N := some 23) (v := ?_) (a' := ?_) #[false, true, false, false, false, false] rfl rfl (by kernel_rfl) (fun _ _ _ h => h) (Or.inl ⟨by rfl, ?_⟩) ?_ ?_
  rotate_left
  ·intro w'
   go_simp
   with_reducible rfl
  rotate_left
  ·simp only [Act.put, nf_]
   rfl
  refine pure_ (i := 2) (N := some 24) (v := ?_) (a' := ?_) #[false, true, true, false, false, false] rfl rfl (by kernel_rfl) (fun _ _ _ h => h) (Or.inl ⟨by rfl, ?_⟩) ?_ ?_
  rotate_left
  ·intro w'
   go_simp
   with_reducible rfl
  rotate_left
  ·simp only [Act.put, nf_]
   rfl
  refine join_ (σ := Value × Value) 1 #[true, true, true, true, true, false] (fun s_ => [(22, s_.1), (25, s_.2), (8, s_.1)]) (fun s_ w' => (Kd.R (Kd.int .i64) 2 w' w.heap.size (fun k_ => some k_ ≠ (s_.1 : Value).ownBlock) (.slice Ao11 t274.length co11) t274) ∧ (Kd.R (Kd.int .i64) 2 w' w.heap.size (fun k_ => some k_ ≠ (.slice Ao11 t274.length co11 : Value).ownBlock) s_.1 y278) ∧ (Kd.R Kd.bool 4 w' w.heap.size (fun _ => True) s_.2 y281) ∧ (w'.heap[gb273]? = some (.cells #[.int .i64 a0_0, .slice A0_1 l0_1.length c0_1, .int .i64 a0_2, .slice A0_3 l0_3.length c0_3] 52 (0, 0))) ∧ (Below w.heap.size w w')) ?_ ?_
  rotate_left
  ·intro hCont
   refine two_ (i := 0) (j := 3) (Ni := some 22) (Nj := some 25) #[true, true, true, false, false, false] #[false, true, true, true, false, false] rfl rfl rfl rfl (by kernel_rfl) (by decide) (by decide) (fun K hK => ?_) (fun K hK => ?_)
   ·skip
    refine Kd.R_lit_step (Kd.int .i64) _ 2 ?hg (N := 22) ?hd (xs := ([] : List Int)) (inner := []) (ok := fun _ => True) (okp := fun _ => True) ?hr ?hp (fun _ hk => hk) trivial (Below.refl _ _) (Nat.le_refl _) (by simp) ?_; (case hd => rfl); (case hg => rfl); (case hr => first | (go_simp; done) | (go_simp; rfl)); (case hp => exact (Reps.none _ _))
    intro v279 w12 ho13 hb hg_ hnew_
    clear hg_ hnew_
    (first | rw [← Ny278.out] at ho13 | (simp only [Int.reduceToNat] at ho13; rw [← Ny278.out] at ho13))
    have n0_ := Aside0.mk (Kd.R_elder' (Kd.R_below HO276.out bgo_) (Kd.R_base ho13) hb)
    have n1_ := Aside0.mk (Kd.R_lower (Kd.R_new' ho13 (Kd.R_lt (Kd.R_below HO276.out bgo_))) (below_size hbs_))
    have n2_ := Aside0.mk (blk_below (g := gb273) (o := .cells #[.int .i64 a0_0, .slice A0_1 l0_1.length c0_1, .int .i64 a0_2, .slice A0_3 l0_3.length c0_3] 52 (0, 0)) (blk_below BK273.out bgo_) hb)
    have n3_ := Aside0.mk (below_step hbs_ hb)
    clear HO276
    clear BK273
    clear HB
    have HO276 := n0_
    have HO280 := n1_
    have BK273 := n2_
    have HB := n3_
    clear n0_ n1_ n2_ n3_
    clear hb ho13
    refine hK.out _ _ trivial (fun hHeld => ?_)
    clear hK K
    refine norm_ (a' := ?_) ?_ ?_
    rotate_left
    ·show Act.put _ (some 22) _ = _
     simp only [Act.put, nf_]
     rfl
    refine pure_ (i := 4) (N := some 8) (v := ?_) (a' := ?_) #[true, true, true, false, true, false] rfl rfl (by kernel_rfl) (fun _ _ _ h => h) (Or.inl ⟨by rfl, ?_⟩) ?_ ?_
    rotate_left
    ·intro w'
     go_simp
     with_reducible rfl
    rotate_left
    ·simp only [Act.put, nf_]
     rfl
    refine one_ (i := 3) (N := some 25) #[true, true, true, true, true, false] rfl rfl (by kernel_rfl) (by decide) (fun K hK => ?_)
    refine Kd.R_make_step Kd.bool _ 4 (by rfl) (N := 25) rfl 86 _ _ rfl (t274.length : Int) rfl rfl Try.underlying86 (.bool false) 1 info4 rfl (by decide) (by omega) false (ok := fun _ => True) (okp := fun _ => True) rfl (fun _ hk => hk) trivial (od_) (Nat.le_trans (Nat.mul_le_mul_right _ (od_ : (t274.length : Int).toNat ≤ 281474976710656)) (by omega)) (Below.refl _ _) (Nat.le_refl _) ?_
    intro v282 w14 ho15 hb hg_ hnew_
    clear hg_ hnew_
    (first | rw [← Ny281.out] at ho15 | (simp only [Int.reduceToNat] at ho15; rw [← Ny281.out] at ho15))
    have n0_ := Aside0.mk (Kd.R_below (Kd.R_below HO276.out bgo_) hb)
    have n1_ := Aside0.mk (Kd.R_below (Kd.R_below HO280.out bgo_) hb)
    have n2_ := Aside0.mk (Kd.R_lower ho15 (below_size hbs_))
    have n3_ := Aside0.mk (blk_below (g := gb273) (o := .cells #[.int .i64 a0_0, .slice A0_1 l0_1.length c0_1, .int .i64 a0_2, .slice A0_3 l0_3.length c0_3] 52 (0, 0)) (blk_below BK273.out bgo_) hb)
    have n4_ := Aside0.mk (below_step hbs_ hb)
    clear HO276
    clear HO280
    clear BK273
    clear HB
    have HO276 := n0_
    have HO280 := n1_
    have HO283 := n2_
    have BK273 := n3_
    have HB := n4_
    clear n0_ n1_ n2_ n3_ n4_
    clear hb ho15
    refine hK.out _ _ trivial (fun hHeld => ?_)
    clear hK K
    refine norm_ (a' := ?_) ?_ ?_
    rotate_left
    ·show Act.put _ (some 25) _ = _
     simp only [Act.put, nf_]
     rfl
    exact norm_ (by simp only [putAll, Act.put, List.setIfInBounds_toArray, List.set_cons_zero, List.set_cons_succ]) (hCont (v279, v282) _ ⟨(by (with_reducible repeat (first | apply Kd.R_alloc | apply Kd.R_drewN | apply Kd.R_drew)); exact Kd.R_mono HO276.out (fun _ hk => hk.2)), (by (with_reducible repeat (first | apply Kd.R_alloc | apply Kd.R_drewN | apply Kd.R_drew)); exact Kd.R_mono HO280.out (fun _ hk => hk.2)), (Kd.R_below HO283.out bgo_), (blk_below BK273.out bgo_), hbs_⟩)
   ·skip
    refine Kd.R_make_step Kd.bool _ 4 (by rfl) (N := 25) rfl 86 _ _ rfl (t274.length : Int) rfl rfl Try.underlying86 (.bool false) 1 info4 rfl (by decide) (by omega) false (ok := fun _ => True) (okp := fun _ => True) rfl (fun _ hk => hk) trivial (od_) (Nat.le_trans (Nat.mul_le_mul_right _ (od_ : (t274.length : Int).toNat ≤ 281474976710656)) (by omega)) (Below.refl _ _) (Nat.le_refl _) ?_
    intro v282 w12 ho13 hb hg_ hnew_
    clear hg_ hnew_
    (first | rw [← Ny281.out] at ho13 | (simp only [Int.reduceToNat] at ho13; rw [← Ny281.out] at ho13))
    have n0_ := Aside0.mk (Kd.R_below (Kd.R_below HO276.out bgo_) hb)
    have n1_ := Aside0.mk (Kd.R_lower ho13 (below_size hbs_))
    have n2_ := Aside0.mk (blk_below (g := gb273) (o := .cells #[.int .i64 a0_0, .slice A0_1 l0_1.length c0_1, .int .i64 a0_2, .slice A0_3 l0_3.length c0_3] 52 (0, 0)) (blk_below BK273.out bgo_) hb)
    have n3_ := Aside0.mk (below_step hbs_ hb)
    clear HO276
    clear BK273
    clear HB
    have HO276 := n0_
    have HO283 := n1_
    have BK273 := n2_
    have HB := n3_
    clear n0_ n1_ n2_ n3_
    clear hb ho13
    refine hK.out _ _ trivial (fun hHeld => ?_)
    clear hK K
    refine norm_ (a' := ?_) ?_ ?_
    rotate_left
    ·show Act.put _ (some 25) _ = _
     simp only [Act.put, nf_]
     rfl
    refine one_ (i := 0) (N := some 22) #[true, true, true, true, false, false] rfl rfl (by kernel_rfl) (by decide) (fun K hK => ?_)
    refine Kd.R_lit_step (Kd.int .i64) _ 2 ?hg (N := 22) ?hd (xs := ([] : List Int)) (inner := []) (ok := fun _ => True) (okp := fun _ => True) ?hr ?hp (fun _ hk => hk) trivial (Below.refl _ _) (Nat.le_refl _) (by simp) ?_; (case hd => rfl); (case hg => rfl); (case hr => first | (go_simp; done) | (go_simp; rfl)); (case hp => exact (Reps.none _ _))
    intro v279 w14 ho15 hb hg_ hnew_
    clear hg_ hnew_
    (first | rw [← Ny278.out] at ho15 | (simp only [Int.reduceToNat] at ho15; rw [← Ny278.out] at ho15))
    have n0_ := Aside0.mk (Kd.R_elder' (Kd.R_below HO276.out bgo_) (Kd.R_base ho15) hb)
    have n1_ := Aside0.mk (Kd.R_below (Kd.R_below HO283.out bgo_) hb)
    have n2_ := Aside0.mk (Kd.R_lower (Kd.R_new' ho15 (Kd.R_lt (Kd.R_below HO276.out bgo_))) (below_size hbs_))
    have n3_ := Aside0.mk (blk_below (g := gb273) (o := .cells #[.int .i64 a0_0, .slice A0_1 l0_1.length c0_1, .int .i64 a0_2, .slice A0_3 l0_3.length c0_3] 52 (0, 0)) (blk_below BK273.out bgo_) hb)
    have n4_ := Aside0.mk (below_step hbs_ hb)
    clear HO276
    clear HO283
    clear BK273
    clear HB
    have HO276 := n0_
    have HO283 := n1_
    have HO280 := n2_
    have BK273 := n3_
    have HB := n4_
    clear n0_ n1_ n2_ n3_ n4_
    clear hb ho15
    refine hK.out _ _ trivial (fun hHeld => ?_)
    clear hK K
    refine norm_ (a' := ?_) ?_ ?_
    rotate_left
    ·show Act.put _ (some 22) _ = _
     simp only [Act.put, nf_]
     rfl
    refine pure_ (i := 4) (N := some 8) (v := ?_) (a' := ?_) #[true, true, true, true, true, false] rfl rfl (by kernel_rfl) (fun _ _ _ h => h) (Or.inl ⟨by rfl, ?_⟩) ?_ ?_
    rotate_left
    ·intro w'
     go_simp
     with_reducible rfl
    rotate_left
    ·simp only [Act.put, nf_]
     rfl
    exact norm_ (by simp only [putAll, Act.put, List.setIfInBounds_toArray, List.set_cons_zero, List.set_cons_succ]) (hCont (v279, v282) _ ⟨(by (with_reducible repeat (first | apply Kd.R_alloc | apply Kd.R_drewN | apply Kd.R_drew)); exact Kd.R_mono HO276.out (fun _ hk => hk.2)), (by (with_reducible repeat (first | apply Kd.R_alloc | apply Kd.R_drewN | apply Kd.R_drew)); exact Kd.R_mono HO280.out (fun _ hk => hk.2)), (Kd.R_below HO283.out bgo_), (blk_below BK273.out bgo_), hbs_⟩)
  rintro ⟨v279, v282⟩ w16 ⟨h0_, h1_, h2_, h3_, h4_⟩
  have n0_ : Aside0 (Kd.R (Kd.int .i64) 2 w16 w.heap.size (fun k_ => some k_ ≠ (v279 : Value).ownBlock) (.slice Ao11 t274.length co11) t274) := ⟨h0_⟩
  have n1_ : Aside0 (Kd.R (Kd.int .i64) 2 w16 w.heap.size (fun k_ => some k_ ≠ (.slice Ao11 t274.length co11 : Value).ownBlock) v279 y278) := ⟨h1_⟩
  have n2_ : Aside0 (Kd.R Kd.bool 4 w16 w.heap.size (fun _ => True) v282 y281) := ⟨h2_⟩
  have n3_ : Aside0 (w16.heap[gb273]? = some (.cells #[.int .i64 a0_0, .slice A0_1 l0_1.length c0_1, .int .i64 a0_2, .slice A0_3 l0_3.length c0_3] 52 (0, 0))) := ⟨h3_⟩
  have n4_ : Aside0 (Below w.heap.size w w16) := ⟨h4_⟩
  clear HO276
  clear BK273
  clear HB
  clear h0_ h1_ h2_ h3_ h4_
  have HO276 := n0_
  have HO280 := n1_
  have HO283 := n2_
  have BK273 := n3_
  have HB := n4_
  clear n0_ n1_ n2_ n3_ n4_
  have hHeld := trivial
  refine norm_ (a' := ?_) ?_ ?_
  rotate_left
  ·simp only [putAll, Act.put, List.setIfInBounds_toArray, List.set_cons_zero, List.set_cons_succ]
   rfl
  refine pure_ (i := 5) (N := some 9) (v := ?_) (a' := ?_) #[true, true, true, true, true, true] rfl rfl (by kernel_rfl) (fun _ _ _ h => h) (Or.inl ⟨by rfl, ?_⟩) ?_ ?_
  rotate_left
  ·intro w'
   go_simp
   with_reducible rfl
  rotate_left
  ·simp only [Act.put, nf_]
   rfl
  refine done_ (by kernel_rfl) ?_
  try go_wp2
  go_loopg [8, 28] k (fun kq v8 v28 w' => ∃ (x8_1 : List Int) (x9_1 : List Bool) (x28_1 : Int), v28 = .int .i64 x28_1 ∧ Aside0 (impl_TypeOfWalk.l0 kq t274 x8_1 x9_1 (t274.length : Int) x28_1 = some (r1, r2)) ∧ Aside0 (kq ≤ k) ∧ Aside0 (Kd.R (Kd.int .i64) 2 w' w.heap.size (fun k_ => some k_ ≠ (v8 : Value).ownBlock) (.slice Ao11 t274.length co11) t274) ∧ Aside0 (Kd.R (Kd.int .i64) 2 w' w.heap.size (fun k_ => some k_ ≠ ((.slice Ao11 t274.length co11) : Value).ownBlock) v8 x8_1) ∧ Aside0 (Kd.R Kd.bool 4 w' w.heap.size (fun _ => True) v282 x9_1) ∧ Aside0 (w'.heap[gb273]? = some (.cells #[.int .i64 a0_0, (.slice A0_1 l0_1.length c0_1), .int .i64 a0_2, (.slice A0_3 l0_3.length c0_3)] 52 (0, 0))) ∧ Aside0 (Below w.heap.size w w'))
  case atStart => exact ⟨(y278), (y281), (0), es_, H', ⟨Nat.le_refl _⟩, ⟨Kd.R_below HO276.out bgo_⟩, ⟨Kd.R_below HO280.out bgo_⟩, ⟨Kd.R_below HO283.out bgo_⟩, ⟨blk_below BK273.out bgo_⟩, ⟨hbs_⟩⟩
  case round =>
   clear H'
   obtain ⟨x8_1, x9_1, x28_1, rfl, HA, HK1, HO_6, HO_8, HO_9, BK273, HB⟩ := hrel
   cases gk with
   | zero => exact absurd HA.out (by simp [impl_TypeOfWalk.l0])
   | succ k1 =>
    have H := HA.out
    clear HA
    simp only [impl_TypeOfWalk.l0] at H
    by_cases c17 : x28_1 < (t274.length : Int)
    ·rw [if_pos c17] at H
     have c17b0 := decide_eq_true c17
     clear c17
     have H' := Aside0.mk H
     clear H
     go_wp2
     go_loopg [11, 12] k1 (fun kq v11 v12 w' => ∃ (x9_2 : List Bool) (x11_2 : Int) (x12_2 : Int), v11 = .int .i64 x11_2 ∧ v12 = .int .i64 x12_2 ∧ Aside0 (impl_TypeOfWalk.l1 kq t274 x8_1 x9_2 x11_2 x12_2 (t274.length : Int) x28_1 = some (r1, r2)) ∧ Aside0 (kq ≤ k1) ∧ Aside0 (Kd.R (Kd.int .i64) 2 w' w.heap.size (fun k_ => some k_ ≠ (u8 : Value).ownBlock) (.slice Ao11 t274.length co11) t274) ∧ Aside0 (Kd.R (Kd.int .i64) 2 w' w.heap.size (fun k_ => some k_ ≠ ((.slice Ao11 t274.length co11) : Value).ownBlock) u8 x8_1) ∧ Aside0 (Kd.R Kd.bool 4 w' w.heap.size (fun _ => True) v282 x9_2) ∧ Aside0 (w'.heap[gb273]? = some (.cells #[.int .i64 a0_0, (.slice A0_1 l0_1.length c0_1), .int .i64 a0_2, (.slice A0_3 l0_3.length c0_3)] 52 (0, 0))) ∧ Aside0 (Below w.heap.size w w'))
     case atStart => exact ⟨(x9_1), (0), (x28_1), es_, es_, H', ⟨Nat.le_refl _⟩, ⟨Kd.R_below HO_6.out bgo_⟩, ⟨Kd.R_below HO_8.out bgo_⟩, ⟨Kd.R_below HO_9.out bgo_⟩, ⟨blk_below BK273.out bgo_⟩, ⟨hbs_⟩⟩
     case round =>
      clear H'
      obtain ⟨x9_2, x11_2, x12_2, rfl, rfl, HA, HK2, HO_6, HO_8, HO_9, BK273, HB⟩ := hrel
      cases gk with
      | zero => exact absurd HA.out (by simp [impl_TypeOfWalk.l1])
      | succ k2 =>
       have H := HA.out
       clear HA
       simp only [impl_TypeOfWalk.l1] at H
       obtain ⟨c18, H⟩ := itn_ H
       have c18b0 := decide_eq_true c18
       clear c18
       obtain ⟨c19, H⟩ := itn_ H
       have c19b0 := decide_eq_true c19
       clear c19
       obtain ⟨bq20, hbq20⟩ : ∃ b_ : Bool, b_ = (rdOf false x9_2 x12_2) := ⟨_, rfl⟩
       replace H : (if bq20 = true then (if x11_2 > 0 then (if x8_1.length < 17592186044416 then (impl_TypeOfWalk.l0 k2 t274 (x8_1 ++ [x11_2]) x9_2 (t274.length : Int) (wrap64 (x28_1 + 1))) else (none)) else (impl_TypeOfWalk.l0 k2 t274 x8_1 x9_2 (t274.length : Int) (wrap64 (x28_1 + 1)))) else (if x12_2 < (t274.length : Int) then (impl_TypeOfWalk.l1 k2 t274 x8_1 (x9_2.set (x12_2 : Int).toNat true) (wrap64 (x11_2 + 1)) (rd t274 x12_2) (t274.length : Int) x28_1) else (none))) = some (r1, r2) := by rw [← hbq20] at H; exact H
       have Nbq20 := Aside0.mk hbq20
       clear hbq20
       by_cases c21 : bq20 = true
       ·subst c21
        have H1 : (if x11_2 > 0 then (if x8_1.length < 17592186044416 then (impl_TypeOfWalk.l0 k2 t274 (x8_1 ++ [x11_2]) x9_2 (t274.length : Int) (wrap64 (x28_1 + 1))) else (none)) else (impl_TypeOfWalk.l0 k2 t274 x8_1 x9_2 (t274.length : Int) (wrap64 (x28_1 + 1)))) = some (r1, r2) := by rw [if_pos rfl] at H; exact H
        clear H
        have H := H1
        clear H1
        by_cases c22 : x11_2 > 0
        ·rw [if_pos c22] at H
         have c22b0 := decide_eq_true c22
         clear c22
         obtain ⟨c23, H⟩ := itn_ H
         have LMc23 := Aside0.mk c23
         clear c23
         obtain ⟨y287, Ny287, H⟩ : ∃ y287 : List Int, Aside0 (y287 = (x8_1 ++ [x11_2])) ∧ (impl_TypeOfWalk.l0 k2 t274 y287 x9_2 (t274.length : Int) (wrap64 (x28_1 + 1))) = some (r1, r2) := ⟨_, ⟨rfl⟩, H⟩
         have H' := Aside0.mk H
         clear H
         obtain ⟨Ao24, co24, eo24⟩ := Kd.R_slice HO_9.out
         subst eo24
         have p286 : 0 ≤ (x12_2 : Int) := od_
         have q286 : x12_2 < (x9_2.length : Int) := od_
         obtain ⟨ad286, e286, hx286_0⟩ := Kd.at_bool (Kd.R_reads' HO_9.out).2.2 x12_2 p286 q286
         (try rw [← Nbq20.out] at hx286_0)
         cases e286
         replace p286 := eq_true p286
         replace q286 := eq_true q286
         go_wp2_with (first | ((with_reducible refine gate_builtin (b := .append) (xs := #[.tmp 48, .tmp 50]) rfl ?_); at_builtin; refine Kd.R_append (Kd.int .i64) (w0 := w) w.heap.size rfl (.tmp 48) (.tmp 50) 26 2 (.int .i64 0) 8 rfl Try.underlying26 info2 rfl (by decide) (by omega) u8 x8_1 x11_2 [.int .i64 x11_2] (fun k_ => some k_ ≠ (.slice Ao11 t274.length co11 : Value).ownBlock) (fun _ => False) rfl rfl ?aP (fun _ hk => hk.elim) ?aF ?aO ?aB ?aS ?aL ?_; (case aP => exact rfl); (case aB => exact hbs_); (case aF => exact (fun k_ hk => Kd.fresh' (Kd.R_lt (Kd.R_below HO_6.out bgo_)) k_ hk)); (case aO => exact (Kd.R_below HO_8.out bgo_)); (case aS => exact (below_size hbs_)); (case aL => have := LMc23.out; omega); intro v288 w25 ho hb hg hat; rw [← Ny287.out] at ho; replace HO_6 := Aside0.mk (Kd.R_after (ok := (fun _ => True)) (by (with_reducible repeat (first | apply Kd.R_alloc | apply Kd.R_drewN | apply Kd.R_drew)); exact Kd.R_mono HO_6.out (fun _ hk => ⟨trivial, hk⟩)) hg hat); replace HO_9 := Aside0.mk (Kd.R_over' (Kd.R_below HO_9.out bgo_) (Kd.R_typed (Kd.R_below HO_8.out bgo_)) (by decide) hg); replace BK273 := Aside0.mk (blk_grown (g := gb273) (o := .cells #[.int .i64 a0_0, .slice A0_1 l0_1.length c0_1, .int .i64 a0_2, .slice A0_3 l0_3.length c0_3] 52 (0, 0)) (blk_below BK273.out bgo_) hg (Kd.R_ne HO_8.out BK273.out (by decide))); replace HB := Aside0.mk (hb); have HO289 := Aside0.mk (ho); clear HO_8; clear ho hb hg hat))
         first | go_roundg k2 | (refine Handed.intro k2 ?measure ?_; rotate_left; go_step; (try simp only [add_plain]); (repeat apply Exists.intro); refine ⟨?rel, rfl⟩)
         case measure => have := HK1.out; have := HK2.out; omega
         case rel => exact ⟨(y287), (x9_2), (wrap64 (x28_1 + 1)), es_, H', ⟨by have := HK1.out; have := HK2.out; omega⟩, ⟨by (with_reducible repeat (first | apply Kd.R_alloc | apply Kd.R_drewN | apply Kd.R_drew)); exact Kd.R_mono HO_6.out (fun _ hk => hk.2)⟩, ⟨Kd.R_below HO289.out bgo_⟩, ⟨Kd.R_below HO_9.out bgo_⟩, ⟨blk_below BK273.out bgo_⟩, ⟨hbs_⟩⟩
        ·rw [if_neg c22] at H
         have c22b0 := decide_eq_false c22
         clear c22
         have H' := Aside0.mk H
         clear H
         obtain ⟨Ao26, co26, eo26⟩ := Kd.R_slice HO_9.out
         subst eo26
         have p286 : 0 ≤ (x12_2 : Int) := od_
         have q286 : x12_2 < (x9_2.length : Int) := od_
         obtain ⟨ad286, e286, hx286_0⟩ := Kd.at_bool (Kd.R_reads' HO_9.out).2.2 x12_2 p286 q286
         (try rw [← Nbq20.out] at hx286_0)
         cases e286
         replace p286 := eq_true p286
         replace q286 := eq_true q286
         go_wp2
         first | go_roundg k2 | (refine Handed.intro k2 ?measure ?_; rotate_left; go_step; (try simp only [add_plain]); (repeat apply Exists.intro); refine ⟨?rel, rfl⟩)
         case measure => have := HK1.out; have := HK2.out; omega
         case rel => exact ⟨(x8_1), (x9_2), (wrap64 (x28_1 + 1)), es_, H', ⟨by have := HK1.out; have := HK2.out; omega⟩, ⟨Kd.R_below HO_6.out bgo_⟩, ⟨Kd.R_below HO_8.out bgo_⟩, ⟨Kd.R_below HO_9.out bgo_⟩, ⟨blk_below BK273.out bgo_⟩, ⟨hbs_⟩⟩
       ·replace c21 := Bool.eq_false_iff.mpr c21
        subst c21
        have H1 : (if x12_2 < (t274.length : Int) then (impl_TypeOfWalk.l1 k2 t274 x8_1 (x9_2.set (x12_2 : Int).toNat true) (wrap64 (x11_2 + 1)) (rd t274 x12_2) (t274.length : Int) x28_1) else (none)) = some (r1, r2) := by rw [if_neg (show ¬ (false = true) by decide)] at H; exact H
        clear H
        have H := H1
        clear H1
        obtain ⟨y290, Ny290, H⟩ : ∃ y290 : List Bool, Aside0 (y290 = (x9_2.set (x12_2 : Int).toNat true)) ∧ (if x12_2 < (t274.length : Int) then (impl_TypeOfWalk.l1 k2 t274 x8_1 y290 (wrap64 (x11_2 + 1)) (rd t274 x12_2) (t274.length : Int) x28_1) else (none)) = some (r1, r2) := ⟨_, ⟨rfl⟩, H⟩
        obtain ⟨c28, H⟩ := itn_ H
        have c28b0 := decide_eq_true c28
        clear c28
        have H' := Aside0.mk H
        clear H
        obtain ⟨Ao29, co29, eo29⟩ := Kd.R_slice HO_9.out
        subst eo29
        have p286 : 0 ≤ (x12_2 : Int) := od_
        have q286 : x12_2 < (x9_2.length : Int) := od_
        obtain ⟨ad286, e286, hx286_0⟩ := Kd.at_bool (Kd.R_reads' HO_9.out).2.2 x12_2 p286 q286
        (try rw [← Nbq20.out] at hx286_0)
        cases e286
        replace p286 := eq_true p286
        replace q286 := eq_true q286
        have p27 : 0 ≤ (x12_2 : Int) := od_
        have q27 : (x12_2 : Int) < ((x9_2.length : Int) : Int) := od_
        obtain ⟨go27, co27, eo27, gb27, gl27, cl27, HG27⟩ := Kd.R_form HO_9.out (by omega)
        (first | cases eo27 | (injection eo27 with ea_ en_ ec_; (first | subst ea_ | (injection ea_ with ea_; subst ea_)); subst ec_; clear en_))
        have GB27 := Aside0.mk gb27
        have GG27 := Aside0.mk HG27
        clear gb27 gl27 HG27
        (first | simp only [add_plain] at hx286_0 | skip)
        obtain ⟨hx27_0, hf27_0⟩ := Kd.R_celln false HO_9.out (x12_2 : Int) p27 q27
        replace p27 := eq_true p27
        replace q27 := eq_true q27
        have HP30 := Kd.R_putg HO_9.out (x12_2 : Int) true
        go_wp2_with (first | ((with_reducible refine gate_store (t := 4) (p := 43) rfl ?_); refine store_event (t := 4) (p := 43) (v := ?vo_w31) (w1 := (wr.setCell ⟨go27, (x12_2 : Int).toNat, none⟩ (.bool true))) ?hg ?ho ?hn ?hr ?_; (case ho => rfl); (case hg => rfl); (case hn => rfl); (case hr => first | (go_simp; done) | (go_simp; rfl)); intro w31 hw; have hg : wr.grownBy w31 (some go27) := (by rw [hw]; exact HP30.2); have hp_ : Kd.R Kd.bool 4 w31 w.heap.size (fun _ => True) (.slice (some ⟨go27, 0, none⟩) x9_2.length co29) y290 := (by rw [hw, Ny290.out]; exact HP30.1); clear HP30; replace HO_6 := Aside0.mk (Kd.R_over' (v := (.slice (some ⟨go27, 0, none⟩) x9_2.length co29)) (Kd.R_below HO_6.out bgo_) (Kd.R_typed HO_9.out) (by decide) hg); replace HO_8 := Aside0.mk (Kd.R_over' (v := (.slice (some ⟨go27, 0, none⟩) x9_2.length co29)) (Kd.R_below HO_8.out bgo_) (Kd.R_typed HO_9.out) (by decide) hg); replace BK273 := Aside0.mk (blk_grown (g := gb273) (o := .cells #[.int .i64 a0_0, .slice A0_1 l0_1.length c0_1, .int .i64 a0_2, .slice A0_3 l0_3.length c0_3] 52 (0, 0)) (blk_below BK273.out bgo_) hg (Kd.R_ne HO_9.out BK273.out (by decide))); replace HO_9 := Aside0.mk (hp_); replace HB := Aside0.mk ((by rw [hw]; exact below_set (HB.out) GB27.out : Below w.heap.size w w31)); clear hg hw hp_; have p291 : 0 ≤ (x12_2 : Int) := od_; have q291 : x12_2 < (t274.length : Int) := od_; obtain ⟨ad291, e291, hx291_0⟩ := Kd.at_int (Kd.R_reads' HO_6.out).2.2 x12_2 p291 q291; cases e291; replace p291 := eq_true p291; replace q291 := eq_true q291))
        first | go_roundg k2 | (refine Handed.intro k2 ?measure ?_; rotate_left; go_step; (try simp only [add_plain]); (repeat apply Exists.intro); refine ⟨?rel, rfl⟩)
        case measure => have := HK1.out; have := HK2.out; omega
        case rel => exact ⟨(y290), (wrap64 (x11_2 + 1)), (rd t274 x12_2), es_, es_, H', ⟨by have := HK1.out; have := HK2.out; omega⟩, ⟨Kd.R_below HO_6.out bgo_⟩, ⟨Kd.R_below HO_8.out bgo_⟩, ⟨Kd.R_below HO_9.out bgo_⟩, ⟨blk_below BK273.out bgo_⟩, ⟨hbs_⟩⟩
    ·rw [if_neg c17] at H
     have c17b0 := decide_eq_false c17
     clear c17
     obtain ⟨t284, A32, H⟩ := bnd_ H
     obtain ⟨t285, A33, H⟩ := bnd_ H
     simp only [Option.some.injEq, Prod.mk.injEq] at H
     obtain ⟨rfl, rfl⟩ := H
     obtain ⟨Ao34, co34, eo34⟩ := Kd.R_slice HO_8.out
     subst eo34
     go_wp2_with (first | ((with_reducible refine gate_callee (f := 84) rfl ?_); refine goesL_ (some 54) rfl rfl Try.func84 (by kernel_rfl) rfl #[.slice Ao34 x8_1.length co34] rfl arg_ ?_; (with_reducible refine (slices_Sort_int64_int64.calls k1 (fun k_ => some k_ = (.slice Ao34 x8_1.length co34 : Value).ownBlock) (.slice Ao34 x8_1.length co34) x8_1 t284 w _ ?side1 ?side2 A32.out).mono ?_); (case side1 => repeat (first | (with_reducible first | exact HB.out | apply below_alloc | apply pw_below_drewN | apply below_drew1 | refine below_set ?_ GE273.out) | exact HB.out)); (case side2 => exact Kd.R_tight rfl HO_8.out); rintro e w35 ⟨rfl, hy0, hb, hkp⟩; refine ⟨_, rfl, ?_⟩; replace HO_6 := Aside0.mk (Kd.R_mono (ok' := fun k_ => some k_ ≠ (.slice Ao34 x8_1.length co34 : Value).ownBlock) (Kd.R_keptB (HO_6.out) hkp (fun k_ hk_ hs_ => (hk_) hs_)) (fun k_ hk_ => hk_.1)); replace HO_9 := Aside0.mk (Kd.R_mono (ok' := fun k_ => True) (Kd.R_keptB ((Kd.R_apart' HO_9.out (Kd.R_typed HO_8.out) (by decide))) hkp (fun k_ hk_ hs_ => (hk_.2) hs_)) (fun k_ hk_ => trivial)); replace BK273 := Aside0.mk (blk_kept (blk_below BK273.out bgo_) hkp (fun hs_ => (fun e_ => (Kd.R_ne HO_8.out BK273.out (by decide)) e_) hs_)); replace HO_8 := Aside0.mk (Kd.R_reok rfl hy0 (fun k_ e_ => HO_8.out.1 k_ e_)); replace HB := Aside0.mk (hb); (try clear hb); (try clear hkp); (try clear hy0)) | ((with_reducible refine gate_callee (f := 85) rfl ?_); refine goesL_ (some 56) rfl rfl Try.func85 (by kernel_rfl) rfl #[.slice Ao34 x8_1.length co34] rfl arg_ ?_; (with_reducible refine (slices_Reverse_int64_int64.calls k1 (fun k_ => some k_ = (.slice Ao34 x8_1.length co34 : Value).ownBlock) (.slice Ao34 x8_1.length co34) t284 t285 w _ ?side1 ?side2 A33.out).mono ?_); (case side1 => repeat (first | (with_reducible first | exact HB.out | apply below_alloc | apply pw_below_drewN | apply below_drew1 | refine below_set ?_ GE273.out) | exact HB.out)); (case side2 => exact Kd.R_tight rfl HO_8.out); rintro e w36 ⟨rfl, hy0, hb, hkp⟩; refine ⟨_, rfl, ?_⟩; replace HO_6 := Aside0.mk (Kd.R_mono (ok' := fun k_ => some k_ ≠ (.slice Ao34 x8_1.length co34 : Value).ownBlock) (Kd.R_keptB (HO_6.out) hkp (fun k_ hk_ hs_ => (hk_) hs_)) (fun k_ hk_ => hk_.1)); replace HO_9 := Aside0.mk (Kd.R_mono (ok' := fun k_ => True) (Kd.R_keptB ((Kd.R_apart' HO_9.out (Kd.R_typed HO_8.out) (by decide))) hkp (fun k_ hk_ hs_ => (hk_.2) hs_)) (fun k_ hk_ => trivial)); replace BK273 := Aside0.mk (blk_kept (blk_below BK273.out bgo_) hkp (fun hs_ => (fun e_ => (Kd.R_ne HO_8.out BK273.out (by decide)) e_) hs_)); replace HO_8 := Aside0.mk (Kd.R_reok rfl hy0 (fun k_ e_ => HO_8.out.1 k_ e_)); replace HB := Aside0.mk (hb); (try clear hb); (try clear hkp); (try clear hy0)))
     go_ret2
     exact ⟨_, er_, by (with_reducible repeat (first | apply Kd.R_alloc | apply Kd.R_drewN | apply Kd.R_drew)); exact Kd.R_mono HO_8.out (fun _ hk => trivial), hbs_⟩
 ·rw [if_neg c4] at H
  have c4b0 : (t277 == 0) = false := beq_eq_false_iff_ne.mpr c4
  have c4b1 : (t277 != 0) = true := bne_iff_ne.mpr c4
  simp only [Option.some.injEq, Prod.mk.injEq] at H
  obtain ⟨rfl, rfl⟩ := H
  go_enter Try.func36, Try.ntmps36
  go_wp2_with (first | ((with_reducible refine gate_dst (N := 2) rfl ?_); refine box_event ?hg (N := 2) ?hd (cs := #[.int .i64 a0_0, .slice A0_1 l0_1.length c0_1, .int .i64 a0_2, .slice A0_3 l0_3.length c0_3]) (t := 52) ?hr ?_; (case hd => rfl); (case hg => rfl); (case hr => first | (go_simp; done) | (go_simp; rfl)); intro gb273 hg w37 hbox hb; have BK273 := Aside0.mk (hbox); have GW273 := Aside0.mk ((by rw [hg]; exact (below_size hb_) : w.heap.size ≤ gb273)); have GE273 := Aside0.mk ((by rw [hg]; exact (below_size hb_) : w.heap.size ≤ gb273)); replace HB := Aside0.mk (below_step hb_ hb); clear hb hbox hg; have hcz38_0 : w37.cell? ⟨gb273, 0, none⟩ = some (.int .i64 a0_0) := (blk_cell BK273.out 0).trans rfl; have hcz38_1 : w37.cell? ⟨gb273, 1, none⟩ = some (.slice A0_1 l0_1.length c0_1) := (blk_cell BK273.out 1).trans rfl; have hcz38_2 : w37.cell? ⟨gb273, 2, none⟩ = some (.int .i64 a0_2) := (blk_cell BK273.out 2).trans rfl; have hcz38_3 : w37.cell? ⟨gb273, 3, none⟩ = some (.slice A0_3 l0_3.length c0_3) := (blk_cell BK273.out 3).trans rfl; have hfz38_0 := blk_frozen BK273.out 0; have hfz38_1 := blk_frozen BK273.out 1; have hfz38_2 := blk_frozen BK273.out 2; have hfz38_3 := blk_frozen BK273.out 3) | ((with_reducible refine gate_callee (f := 83) rfl ?_); refine goesL_ (some 16) rfl rfl Try.func83 (by kernel_rfl) rfl #[.agg #[.int .i64 a0_0, .slice A0_1 l0_1.length c0_1, .int .i64 a0_2, .slice A0_3 l0_3.length c0_3], .slice A1 l1.length c1] rfl arg_ ?_; (with_reducible refine (impl_PermutationOfWalk.calls k a0_0 _ _ l0_1 a0_2 _ _ l0_3 _ _ l1 t274 t277 _ ?side1 ?side2 ?side3 ?side4 ?side5 ?side6 A3.out).mono ?_); (case side1 => exact Kd.C_below (Kd.C_below HR0_1.out HB.out) bgo_); (case side2 => exact HC0_1.out); (case side3 => exact Kd.C_below (Kd.C_below HR0_3.out HB.out) bgo_); (case side4 => exact HC0_3.out); (case side5 => exact Kd.C_below (Kd.C_below HR1.out HB.out) bgo_); (case side6 => exact HC1.out); rintro e w39 ⟨v275, rfl, ho0, hb⟩; refine ⟨_, rfl, ?_⟩; have HO276 := Aside0.mk (Kd.R_lower ho0 (below_size hbs_)); replace BK273 := Aside0.mk (blk_below (g := gb273) (o := .cells #[.int .i64 a0_0, .slice A0_1 l0_1.length c0_1, .int .i64 a0_2, .slice A0_3 l0_3.length c0_3] 52 (0, 0)) (blk_below BK273.out bgo_) hb); replace HB := Aside0.mk (below_step hbs_ hb); (try clear hb); (try clear hb2); (try clear hk); (try clear hi); (try clear ho0)))
  go_ret2
  exact ⟨_, er_, by first | exact Kd.R_nil _ _ _ _ _ | exact Kd.N_nil _ _ _ _ _ | exact Kd.V_nil _ _ _ _ _ | exact Kd.Q_nil _ _ _ _ _ | exact Kd.S_nil _ _ _ _ _, hbs_⟩

/-! ### laws_eqInt64SS: function 26 -/
def laws_eqInt64SS.l0 : Nat → List (List Int) → List (List Int) → Int → Option (Bool)
 | 0, _, _, _ => none
 | k + 1, x0, x1, x5 => if x5 < (x0.length : Int) then (if 0 ≤ x5 then (if x5 < (x1.length : Int) then ((laws_eqInt64S.f k (rd_L1 x0 x5) (rd_L1 x1 x5)).bind fun t294 => (if t294 = true then (laws_eqInt64SS.l0 k x0 x1 (wrap64 (x5 + 1))) else (some false))) else (none)) else (none)) else (some true)
def laws_eqInt64SS.f (k : Nat) (l0 : List (List Int)) (l1 : List (List Int)) : Option (Bool) := if (l0.length : Int) = (l1.length : Int) then (laws_eqInt64SS.l0 k l0 l1 0) else (some false)
set_option maxHeartbeats 8000000 in
set_option maxRecDepth 100000 in
theorem laws_eqInt64SS.calls (k : Nat) (A0 : Option Addr) (c0 : Nat) (l0 : List (List Int)) (A1 : Option Addr) (c1 : Nat) (l1 : List (List Int)) (r : Bool) (w : World) (hr0 : Kd.C (Kd.slice 2 (Kd.int .i64)) w A0 l0.length l0) (hc0 : l0.length ≤ c0) (hr1 : Kd.C (Kd.slice 2 (Kd.int .i64)) w A1 l1.length l1) (hc1 : l1.length ≤ c1) (h : laws_eqInt64SS.f k l0 l1 = some r) :
  Calls Try.prog 26 #[.slice A0 l0.length c0, .slice A1 l1.length c1] w fun e w' => e = .returned (.bool r) ∧ Drawn0 w w' := by
 have HR0 := Aside0.mk hr0
 have HC0 := Aside0.mk hc0
 clear hr0 hc0
 have HR1 := Aside0.mk hr1
 have HC1 := Aside0.mk hc1
 clear hr1 hc1
 have H : (if (l0.length : Int) = (l1.length : Int) then (laws_eqInt64SS.l0 k l0 l1 0) else (some false)) = some r := h
 clear h
 by_cases c3 : (l0.length : Int) = (l1.length : Int)
 ·rw [if_pos c3] at H
  have c3b0 : ((l0.length : Int) == (l1.length : Int)) = true := beq_iff_eq.mpr c3
  have c3b1 : ((l0.length : Int) != (l1.length : Int)) = false := bne_eq_false_iff_eq.mpr c3
  have c3b2 : (l0.length == l1.length) = true := by first | simpa using c3 | (simp at c3 ⊢; omega)
  clear c3
  have H' := Aside0.mk H
  clear H
  go_enter Try.func26, Try.ntmps26
  go_wp2
  repeat (go_quiet (fail); try go_wp2)
  go_loopg [5] k (fun kq v5 w' => ∃ (x5_1 : Int), v5 = .int .i64 x5_1 ∧ Aside0 (laws_eqInt64SS.l0 kq l0 l1 x5_1 = some r) ∧ Aside0 (kq ≤ k) ∧ Drawn0 w w')
  case atStart => exact ⟨(0), es_, H', ⟨Nat.le_refl _⟩, by repeat (first | exact Drawn0.refl _ | apply Drawn0.step)⟩
  case round =>
   clear H'
   obtain ⟨x5_1, rfl, HA, HK1, ⟨m1, rfl⟩⟩ := hrel
   cases gk with
   | zero => exact absurd HA.out (by simp [laws_eqInt64SS.l0])
   | succ k1 =>
    have H := HA.out
    clear HA
    simp only [laws_eqInt64SS.l0] at H
    by_cases c4 : x5_1 < (l0.length : Int)
    ·rw [if_pos c4] at H
     have c4b0 := decide_eq_true c4
     clear c4
     obtain ⟨c5, H⟩ := itn_ H
     have c5b0 := decide_eq_true c5
     clear c5
     obtain ⟨c6, H⟩ := itn_ H
     have c6b0 := decide_eq_true c6
     clear c6
     obtain ⟨t294, A7, H⟩ := bnd_ H
     by_cases c8 : t294 = true
     ·subst c8
      have H1 : (laws_eqInt64SS.l0 k1 l0 l1 (wrap64 (x5_1 + 1))) = some r := by rw [if_pos rfl] at H; exact H
      clear H
      have H := H1
      clear H1
      have H' := Aside0.mk H
      clear H
      have p292 : 0 ≤ (x5_1 : Int) := od_
      have q292 : x5_1 < (l0.length : Int) := od_
      obtain ⟨ad292, A292_0, c292_0, e292, hx292_0, hl292_0, hi292_0⟩ := at_L1 HR0.out x5_1 p292 q292
      cases e292
      have HR292_0 := Aside0.mk hi292_0
      have HC292_0 := Aside0.mk hl292_0
      clear hi292_0 hl292_0
      replace p292 := eq_true p292
      replace q292 := eq_true q292
      have p293 : 0 ≤ (x5_1 : Int) := od_
      have q293 : x5_1 < (l1.length : Int) := od_
      obtain ⟨ad293, A293_0, c293_0, e293, hx293_0, hl293_0, hi293_0⟩ := at_L1 HR1.out x5_1 p293 q293
      cases e293
      have HR293_0 := Aside0.mk hi293_0
      have HC293_0 := Aside0.mk hl293_0
      clear hi293_0 hl293_0
      replace p293 := eq_true p293
      replace q293 := eq_true q293
      go_wp2_with (first | (go_at_call 14; (with_reducible refine (laws_eqInt64S.calls k1 _ _ (rd_L1 l0 x5_1) _ _ (rd_L1 l1 x5_1) true _ ?side1 ?side2 ?side3 ?side4 A7.out).mono ?_); (case side1 => exact Kd.C_below HR292_0.out bgo_); (case side2 => exact HC292_0.out); (case side3 => exact Kd.C_below HR293_0.out bgo_); (case side4 => exact HC293_0.out); rintro e w' ⟨rfl, ⟨nd, rfl⟩⟩; (try first | exact ⟨rfl, _, World.drewN_drewN _ _ _⟩ | exact ⟨rfl, _, Eq.trans (World.drewN_drewN _ _ _) (congrArg (World.drewN _) (Nat.add_assoc _ _ _))⟩)))
      repeat (go_quiet (first | (go_at_call 14; (with_reducible refine (laws_eqInt64S.calls k1 _ _ (rd_L1 l0 x5_1) _ _ (rd_L1 l1 x5_1) true _ ?side1 ?side2 ?side3 ?side4 A7.out).mono ?_); (case side1 => exact Kd.C_below HR292_0.out bgo_); (case side2 => exact HC292_0.out); (case side3 => exact Kd.C_below HR293_0.out bgo_); (case side4 => exact HC293_0.out); rintro e w' ⟨rfl, ⟨nd, rfl⟩⟩; (try first | exact ⟨rfl, _, World.drewN_drewN _ _ _⟩ | exact ⟨rfl, _, Eq.trans (World.drewN_drewN _ _ _) (congrArg (World.drewN _) (Nat.add_assoc _ _ _))⟩))); try go_wp2_with (first | (go_at_call 14; (with_reducible refine (laws_eqInt64S.calls k1 _ _ (rd_L1 l0 x5_1) _ _ (rd_L1 l1 x5_1) true _ ?side1 ?side2 ?side3 ?side4 A7.out).mono ?_); (case side1 => exact Kd.C_below HR292_0.out bgo_); (case side2 => exact HC292_0.out); (case side3 => exact Kd.C_below HR293_0.out bgo_); (case side4 => exact HC293_0.out); rintro e w' ⟨rfl, ⟨nd, rfl⟩⟩; (try first | exact ⟨rfl, _, World.drewN_drewN _ _ _⟩ | exact ⟨rfl, _, Eq.trans (World.drewN_drewN _ _ _) (congrArg (World.drewN _) (Nat.add_assoc _ _ _))⟩))))
      go_roundg k1
      case measure => have := HK1.out; omega
      case rel => exact ⟨(wrap64 (x5_1 + 1)), es_, H', ⟨by have := HK1.out; omega⟩, by repeat (first | exact Drawn0.refl _ | apply Drawn0.step)⟩
     ·replace c8 := Bool.eq_false_iff.mpr c8
      subst c8
      have H1 : (some false) = some r := by rw [if_neg (show ¬ (false = true) by decide)] at H; exact H
      clear H
      have H := H1
      clear H1
      obtain rfl := Option.some.inj H
      have p292 : 0 ≤ (x5_1 : Int) := od_
      have q292 : x5_1 < (l0.length : Int) := od_
      obtain ⟨ad292, A292_0, c292_0, e292, hx292_0, hl292_0, hi292_0⟩ := at_L1 HR0.out x5_1 p292 q292
      cases e292
      have HR292_0 := Aside0.mk hi292_0
      have HC292_0 := Aside0.mk hl292_0
      clear hi292_0 hl292_0
      replace p292 := eq_true p292
      replace q292 := eq_true q292
      have p293 : 0 ≤ (x5_1 : Int) := od_
      have q293 : x5_1 < (l1.length : Int) := od_
      obtain ⟨ad293, A293_0, c293_0, e293, hx293_0, hl293_0, hi293_0⟩ := at_L1 HR1.out x5_1 p293 q293
      cases e293
      have HR293_0 := Aside0.mk hi293_0
      have HC293_0 := Aside0.mk hl293_0
      clear hi293_0 hl293_0
      replace p293 := eq_true p293
      replace q293 := eq_true q293
      go_wp2_with (first | (go_at_call 14; (with_reducible refine (laws_eqInt64S.calls k1 _ _ (rd_L1 l0 x5_1) _ _ (rd_L1 l1 x5_1) false _ ?side1 ?side2 ?side3 ?side4 A7.out).mono ?_); (case side1 => exact Kd.C_below HR292_0.out bgo_); (case side2 => exact HC292_0.out); (case side3 => exact Kd.C_below HR293_0.out bgo_); (case side4 => exact HC293_0.out); rintro e w' ⟨rfl, ⟨nd, rfl⟩⟩; (try first | exact ⟨rfl, _, World.drewN_drewN _ _ _⟩ | exact ⟨rfl, _, Eq.trans (World.drewN_drewN _ _ _) (congrArg (World.drewN _) (Nat.add_assoc _ _ _))⟩)))
      repeat (go_quiet (first | (go_at_call 14; (with_reducible refine (laws_eqInt64S.calls k1 _ _ (rd_L1 l0 x5_1) _ _ (rd_L1 l1 x5_1) false _ ?side1 ?side2 ?side3 ?side4 A7.out).mono ?_); (case side1 => exact Kd.C_below HR292_0.out bgo_); (case side2 => exact HC292_0.out); (case side3 => exact Kd.C_below HR293_0.out bgo_); (case side4 => exact HC293_0.out); rintro e w' ⟨rfl, ⟨nd, rfl⟩⟩; (try first | exact ⟨rfl, _, World.drewN_drewN _ _ _⟩ | exact ⟨rfl, _, Eq.trans (World.drewN_drewN _ _ _) (congrArg (World.drewN _) (Nat.add_assoc _ _ _))⟩))); try go_wp2_with (first | (go_at_call 14; (with_reducible refine (laws_eqInt64S.calls k1 _ _ (rd_L1 l0 x5_1) _ _ (rd_L1 l1 x5_1) false _ ?side1 ?side2 ?side3 ?side4 A7.out).mono ?_); (case side1 => exact Kd.C_below HR292_0.out bgo_); (case side2 => exact HC292_0.out); (case side3 => exact Kd.C_below HR293_0.out bgo_); (case side4 => exact HC293_0.out); rintro e w' ⟨rfl, ⟨nd, rfl⟩⟩; (try first | exact ⟨rfl, _, World.drewN_drewN _ _ _⟩ | exact ⟨rfl, _, Eq.trans (World.drewN_drewN _ _ _) (congrArg (World.drewN _) (Nat.add_assoc _ _ _))⟩))))
      go_ret
      exact ⟨es_, by repeat (first | exact Drawn0.refl _ | apply Drawn0.step)⟩
    ·rw [if_neg c4] at H
     have c4b0 := decide_eq_false c4
     clear c4
     obtain rfl := Option.some.inj H
     go_wp2
     repeat (go_quiet (fail); try go_wp2)
     go_ret
     exact ⟨es_, by repeat (first | exact Drawn0.refl _ | apply Drawn0.step)⟩
 ·rw [if_neg c3] at H
  have c3b0 : ((l0.length : Int) == (l1.length : Int)) = false := beq_eq_false_iff_ne.mpr c3
  have c3b1 : ((l0.length : Int) != (l1.length : Int)) = true := bne_iff_ne.mpr c3
  have c3b2 : (l0.length == l1.length) = false := by first | simpa using c3 | (simp at c3 ⊢; omega)
  obtain rfl := Option.some.inj H
  go_enter Try.func26, Try.ntmps26
  go_wp2
  repeat (go_quiet (fail); try go_wp2)
  go_ret
  exact ⟨es_, by repeat (first | exact Drawn0.refl _ | apply Drawn0.step)⟩

/-! ### laws_eqGraph: function 15 -/
def laws_eqGraph.f (k : Nat) (a0_0 : Int) (l0_1 : List (List Int)) (a1_0 : Int) (l1_1 : List (List Int)) : Option (Bool) := if a0_0 = a1_0 then ((laws_eqInt64SS.f k l0_1 l1_1).bind fun t297 => (if t297 = true then (some true) else (some false))) else (some false)
set_option maxHeartbeats 8000000 in
set_option maxRecDepth 100000 in
theorem laws_eqGraph.calls (k : Nat) (a0_0 : Int) (A0_1 : Option Addr) (c0_1 : Nat) (l0_1 : List (List Int)) (a1_0 : Int) (A1_1 : Option Addr) (c1_1 : Nat) (l1_1 : List (List Int)) (r : Bool) (w : World) (hr0_1 : Kd.C (Kd.slice 2 (Kd.int .i64)) w A0_1 l0_1.length l0_1) (hc0_1 : l0_1.length ≤ c0_1) (hr1_1 : Kd.C (Kd.slice 2 (Kd.int .i64)) w A1_1 l1_1.length l1_1) (hc1_1 : l1_1.length ≤ c1_1) (h : laws_eqGraph.f k a0_0 l0_1 a1_0 l1_1 = some r) :
  Calls Try.prog 15 #[.agg #[.int .i64 a0_0, .slice A0_1 l0_1.length c0_1], .agg #[.int .i64 a1_0, .slice A1_1 l1_1.length c1_1]] w fun e w' => e = .returned (.bool r) ∧ Below w.heap.size w w' := by
 have hu29 := Try.underlying29
 have HR0_1 := Aside0.mk hr0_1
 have HC0_1 := Aside0.mk hc0_1
 clear hr0_1 hc0_1
 have HR1_1 := Aside0.mk hr1_1
 have HC1_1 := Aside0.mk hc1_1
 clear hr1_1 hc1_1
 have HB := Aside0.mk (Below.refl w.heap.size w)
 have H : (if a0_0 = a1_0 then ((laws_eqInt64SS.f k l0_1 l1_1).bind fun t297 => (if t297 = true then (some true) else (some false))) else (some false)) = some r := h
 clear h
 by_cases c3 : a0_0 = a1_0
 ·rw [if_pos c3] at H
  have c3b0 : (a0_0 == a1_0) = true := beq_iff_eq.mpr c3
  have c3b1 : (a0_0 != a1_0) = false := bne_eq_false_iff_eq.mpr c3
  clear c3
  obtain ⟨t297, A4, H⟩ := bnd_ H
  by_cases c5 : t297 = true
  ·subst c5
   have H1 : (some true) = some r := by rw [if_pos rfl] at H; exact H
   clear H
   have H := H1
   clear H1
   obtain rfl := Option.some.inj H
   go_enter Try.func15, Try.ntmps15
   go_wp2_with (first | ((with_reducible refine gate_dst (N := 2) rfl ?_); refine box_event ?hg (N := 2) ?hd (cs := #[.int .i64 a0_0, .slice A0_1 l0_1.length c0_1]) (t := 29) ?hr ?_; (case hd => rfl); (case hg => rfl); (case hr => first | (go_simp; done) | (go_simp; rfl)); intro gb295 hg w6 hbox hb; have BK295 := Aside0.mk (hbox); have GW295 := Aside0.mk ((by rw [hg]; exact (below_size hb_) : w.heap.size ≤ gb295)); have GE295 := Aside0.mk ((by rw [hg]; exact (below_size hb_) : w.heap.size ≤ gb295)); replace HB := Aside0.mk (below_step hb_ hb); clear hb hbox hg) | ((with_reducible refine gate_dst (N := 3) rfl ?_); refine box_event ?hg (N := 3) ?hd (cs := #[.int .i64 a1_0, .slice A1_1 l1_1.length c1_1]) (t := 29) ?hr ?_; (case hd => rfl); (case hg => rfl); (case hr => first | (go_simp; done) | (go_simp; rfl)); intro gb296 hg w7 hbox hb; have BK296 := Aside0.mk (hbox); have GW296 := Aside0.mk ((by rw [hg]; exact (below_size hbs_) : w.heap.size ≤ gb296)); have GE296 := Aside0.mk ((by rw [hg]; exact (below_size hbs_) : w.heap.size ≤ gb296)); replace HB := Aside0.mk (below_step hbs_ hb); have NB295_296 := Aside0.mk ((by rw [hg]; exact Nat.ne_of_lt (blk_lt (g := gb295) (o := .cells #[.int .i64 a0_0, .slice A0_1 l0_1.length c0_1] 29 (0, 0)) (blk_below BK295.out bgo_)) : gb295 ≠ gb296)); have NB296_295 := Aside0.mk ((by rw [hg]; exact Nat.ne_of_gt (blk_lt (g := gb295) (o := .cells #[.int .i64 a0_0, .slice A0_1 l0_1.length c0_1] 29 (0, 0)) (blk_below BK295.out bgo_)) : gb296 ≠ gb295)); replace BK295 := Aside0.mk (blk_below (g := gb295) (o := .cells #[.int .i64 a0_0, .slice A0_1 l0_1.length c0_1] 29 (0, 0)) (blk_below BK295.out bgo_) hb); clear hb hbox hg; have hnb8 := NB295_296.out; have hnc8 := NB296_295.out; have hcz9_0 : w7.cell? ⟨gb295, 0, none⟩ = some (.int .i64 a0_0) := (blk_cell BK295.out 0).trans rfl; have hcz9_1 : w7.cell? ⟨gb295, 1, none⟩ = some (.slice A0_1 l0_1.length c0_1) := (blk_cell BK295.out 1).trans rfl; have hfz9_0 := blk_frozen BK295.out 0; have hfz9_1 := blk_frozen BK295.out 1; have hcz10_0 : w7.cell? ⟨gb296, 0, none⟩ = some (.int .i64 a1_0) := (blk_cell BK296.out 0).trans rfl; have hcz10_1 : w7.cell? ⟨gb296, 1, none⟩ = some (.slice A1_1 l1_1.length c1_1) := (blk_cell BK296.out 1).trans rfl; have hfz10_0 := blk_frozen BK296.out 0; have hfz10_1 := blk_frozen BK296.out 1) | ((with_reducible refine gate_callee (f := 26) rfl ?_); refine goesL_ (some 14) rfl rfl Try.func26 (by kernel_rfl) rfl #[.slice A0_1 l0_1.length c0_1, .slice A1_1 l1_1.length c1_1] rfl arg_ ?_; (with_reducible refine (laws_eqInt64SS.calls k _ _ l0_1 _ _ l1_1 true _ ?side1 ?side2 ?side3 ?side4 A4.out).mono ?_); (case side1 => exact Kd.C_below (Kd.C_below HR0_1.out HB.out) bgo_); (case side2 => exact HC0_1.out); (case side3 => exact Kd.C_below (Kd.C_below HR1_1.out HB.out) bgo_); (case side4 => exact HC1_1.out); rintro e w' ⟨rfl, ⟨nd, rfl⟩⟩; refine ⟨_, rfl, ?_⟩))
   go_ret
   exact ⟨er_, hbs_⟩
  ·replace c5 := Bool.eq_false_iff.mpr c5
   subst c5
   have H1 : (some false) = some r := by rw [if_neg (show ¬ (false = true) by decide)] at H; exact H
   clear H
   have H := H1
   clear H1
   obtain rfl := Option.some.inj H
   go_enter Try.func15, Try.ntmps15
   go_wp2_with (first | ((with_reducible refine gate_dst (N := 2) rfl ?_); refine box_event ?hg (N := 2) ?hd (cs := #[.int .i64 a0_0, .slice A0_1 l0_1.length c0_1]) (t := 29) ?hr ?_; (case hd => rfl); (case hg => rfl); (case hr => first | (go_simp; done) | (go_simp; rfl)); intro gb295 hg w11 hbox hb; have BK295 := Aside0.mk (hbox); have GW295 := Aside0.mk ((by rw [hg]; exact (below_size hb_) : w.heap.size ≤ gb295)); have GE295 := Aside0.mk ((by rw [hg]; exact (below_size hb_) : w.heap.size ≤ gb295)); replace HB := Aside0.mk (below_step hb_ hb); clear hb hbox hg) | ((with_reducible refine gate_dst (N := 3) rfl ?_); refine box_event ?hg (N := 3) ?hd (cs := #[.int .i64 a1_0, .slice A1_1 l1_1.length c1_1]) (t := 29) ?hr ?_; (case hd => rfl); (case hg => rfl); (case hr => first | (go_simp; done) | (go_simp; rfl)); intro gb296 hg w12 hbox hb; have BK296 := Aside0.mk (hbox); have GW296 := Aside0.mk ((by rw [hg]; exact (below_size hbs_) : w.heap.size ≤ gb296)); have GE296 := Aside0.mk ((by rw [hg]; exact (below_size hbs_) : w.heap.size ≤ gb296)); replace HB := Aside0.mk (below_step hbs_ hb); have NB295_296 := Aside0.mk ((by rw [hg]; exact Nat.ne_of_lt (blk_lt (g := gb295) (o := .cells #[.int .i64 a0_0, .slice A0_1 l0_1.length c0_1] 29 (0, 0)) (blk_below BK295.out bgo_)) : gb295 ≠ gb296)); have NB296_295 := Aside0.mk ((by rw [hg]; exact Nat.ne_of_gt (blk_lt (g := gb295) (o := .cells #[.int .i64 a0_0, .slice A0_1 l0_1.length c0_1] 29 (0, 0)) (blk_below BK295.out bgo_)) : gb296 ≠ gb295)); replace BK295 := Aside0.mk (blk_below (g := gb295) (o := .cells #[.int .i64 a0_0, .slice A0_1 l0_1.length c0_1] 29 (0, 0)) (blk_below BK295.out bgo_) hb); clear hb hbox hg; have hnb13 := NB295_296.out; have hnc13 := NB296_295.out; have hcz14_0 : w12.cell? ⟨gb295, 0, none⟩ = some (.int .i64 a0_0) := (blk_cell BK295.out 0).trans rfl; have hcz14_1 : w12.cell? ⟨gb295, 1, none⟩ = some (.slice A0_1 l0_1.length c0_1) := (blk_cell BK295.out 1).trans rfl; have hfz14_0 := blk_frozen BK295.out 0; have hfz14_1 := blk_frozen BK295.out 1; have hcz15_0 : w12.cell? ⟨gb296, 0, none⟩ = some (.int .i64 a1_0) := (blk_cell BK296.out 0).trans rfl; have hcz15_1 : w12.cell? ⟨gb296, 1, none⟩ = some (.slice A1_1 l1_1.length c1_1) := (blk_cell BK296.out 1).trans rfl; have hfz15_0 := blk_frozen BK296.out 0; have hfz15_1 := blk_frozen BK296.out 1) | ((with_reducible refine gate_callee (f := 26) rfl ?_); refine goesL_ (some 14) rfl rfl Try.func26 (by kernel_rfl) rfl #[.slice A0_1 l0_1.length c0_1, .slice A1_1 l1_1.length c1_1] rfl arg_ ?_; (with_reducible refine (laws_eqInt64SS.calls k _ _ l0_1 _ _ l1_1 false _ ?side1 ?side2 ?side3 ?side4 A4.out).mono ?_); (case side1 => exact Kd.C_below (Kd.C_below HR0_1.out HB.out) bgo_); (case side2 => exact HC0_1.out); (case side3 => exact Kd.C_below (Kd.C_below HR1_1.out HB.out) bgo_); (case side4 => exact HC1_1.out); rintro e w' ⟨rfl, ⟨nd, rfl⟩⟩; refine ⟨_, rfl, ?_⟩))
   go_ret
   exact ⟨er_, hbs_⟩
 ·rw [if_neg c3] at H
  have c3b0 : (a0_0 == a1_0) = false := beq_eq_false_iff_ne.mpr c3
  have c3b1 : (a0_0 != a1_0) = true := bne_iff_ne.mpr c3
  obtain rfl := Option.some.inj H
  go_enter Try.func15, Try.ntmps15
  go_wp2_with (first | ((with_reducible refine gate_dst (N := 2) rfl ?_); refine box_event ?hg (N := 2) ?hd (cs := #[.int .i64 a0_0, .slice A0_1 l0_1.length c0_1]) (t := 29) ?hr ?_; (case hd => rfl); (case hg => rfl); (case hr => first | (go_simp; done) | (go_simp; rfl)); intro gb295 hg w16 hbox hb; have BK295 := Aside0.mk (hbox); have GW295 := Aside0.mk ((by rw [hg]; exact (below_size hb_) : w.heap.size ≤ gb295)); have GE295 := Aside0.mk ((by rw [hg]; exact (below_size hb_) : w.heap.size ≤ gb295)); replace HB := Aside0.mk (below_step hb_ hb); clear hb hbox hg) | ((with_reducible refine gate_dst (N := 3) rfl ?_); refine box_event ?hg (N := 3) ?hd (cs := #[.int .i64 a1_0, .slice A1_1 l1_1.length c1_1]) (t := 29) ?hr ?_; (case hd => rfl); (case hg => rfl); (case hr => first | (go_simp; done) | (go_simp; rfl)); intro gb296 hg w17 hbox hb; have BK296 := Aside0.mk (hbox); have GW296 := Aside0.mk ((by rw [hg]; exact (below_size hbs_) : w.heap.size ≤ gb296)); have GE296 := Aside0.mk ((by rw [hg]; exact (below_size hbs_) : w.heap.size ≤ gb296)); replace HB := Aside0.mk (below_step hbs_ hb); have NB295_296 := Aside0.mk ((by rw [hg]; exact Nat.ne_of_lt (blk_lt (g := gb295) (o := .cells #[.int .i64 a0_0, .slice A0_1 l0_1.length c0_1] 29 (0, 0)) (blk_below BK295.out bgo_)) : gb295 ≠ gb296)); have NB296_295 := Aside0.mk ((by rw [hg]; exact Nat.ne_of_gt (blk_lt (g := gb295) (o := .cells #[.int .i64 a0_0, .slice A0_1 l0_1.length c0_1] 29 (0, 0)) (blk_below BK295.out bgo_)) : gb296 ≠ gb295)); replace BK295 := Aside0.mk (blk_below (g := gb295) (o := .cells #[.int .i64 a0_0, .slice A0_1 l0_1.length c0_1] 29 (0, 0)) (blk_below BK295.out bgo_) hb); clear hb hbox hg; have hnb18 := NB295_296.out; have hnc18 := NB296_295.out; have hcz19_0 : w17.cell? ⟨gb295, 0, none⟩ = some (.int .i64 a0_0) := (blk_cell BK295.out 0).trans rfl; have hcz19_1 : w17.cell? ⟨gb295, 1, none⟩ = some (.slice A0_1 l0_1.length c0_1) := (blk_cell BK295.out 1).trans rfl; have hfz19_0 := blk_frozen BK295.out 0; have hfz19_1 := blk_frozen BK295.out 1; have hcz20_0 : w17.cell? ⟨gb296, 0, none⟩ = some (.int .i64 a1_0) := (blk_cell BK296.out 0).trans rfl; have hcz20_1 : w17.cell? ⟨gb296, 1, none⟩ = some (.slice A1_1 l1_1.length c1_1) := (blk_cell BK296.out 1).trans rfl; have hfz20_0 := blk_frozen BK296.out 0; have hfz20_1 := blk_frozen BK296.out 1))
  go_ret
  exact ⟨er_, hbs_⟩

end Go.Proofs.Ytipigagbgpoecaa.G
