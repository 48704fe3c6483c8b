/- The printed functions that this law reaches, and their contracts: part 2. -/
-- printed by this repo's wip/printer out of the kit's print with its own changes
import Derived.Test.YtedhnaljedonfaaC1
namespace Go.Proofs.Ytedhnaljedonfaa.G
open Go.RowKit Go.Proofs.YtedhnaljedonfaaW.PrintWords Go.Proofs.YtedhnaljedonfaaW.PrintLast Go.Proofs.YtedhnaljedonfaaW.PrintMore
attribute [local go_sem] max2_int min2_int max_two min_two max_three min_three max_four min_four   -- for this text's walks alone
set_option linter.unusedVariables false
set_option linter.unusedSimpArgs false

/-! ### impl_IsCover: function 35 -/
def impl_IsCover.f (k : Nat) (a0_0 : Int) (l0_1 : List (List Int)) (a0_2 : Int) (l0_3 : List (List Int)) : Option (Bool) := (impl_IsGraph.f k a0_0 l0_1).bind fun t523 => (if t523 = true then ((impl_within.f a0_2 1 4).bind fun t524 => (if t524 = true then ((impl_Graph_size.f a0_0 l0_1).bind fun t525 => (if (l0_3.length : Int) = t525 then ((slices_ContainsFunc_int64_int64_73_at_IsCover_1.f k l0_3 a0_0 l0_1 a0_2 l0_3).bind fun t526 => (some (!t526))) else (some false))) else (some false))) else (some false))
theorem impl_IsCover.mono : ∀ a0 a1 a2 a3 k, LeO (impl_IsCover.f k a0 a1 a2 a3) (impl_IsCover.f (k + 1) a0 a1 a2 a3) := by
 intro a0 a1 a2 a3 k
 unfold impl_IsCover.f
 repeat' first
   | (with_reducible exact impl_IsGraph.mono _ _ _)
   | (with_reducible exact slices_ContainsFunc_int64_int64_73_at_IsCover_1.mono _ _ _ _ _ _)
   | (with_reducible exact LeO.refl _)
   | (with_reducible exact LeO.none _)
   | (with_reducible refine LeO.ite ?_ ?_)
   | (with_reducible refine LeO.bind ?_ (fun _ => ?_))
   | exact impl_IsGraph.mono _ _ _
   | exact slices_ContainsFunc_int64_int64_73_at_IsCover_1.mono _ _ _ _ _ _
   | exact LeO.none _
   | refine LeO.ite ?_ ?_
   | refine LeO.bind ?_ (fun _ => ?_)
def impl_IsCover.T1 : Bool × List (List Nat × List Nat) := (true, [([], []), ([0], [0]), ([1], [1]), ([2], [2]), ([3, 2], [3]), ([4], [4]), ([5, 4], [4, 5]), ([6, 4, 4], [4, 6]), ([7, 4], [4, 7]), ([4, 8], [4, 8]), ([9, 7], [9]), ([10], [10]), ([11, 10], [10, 11]), ([12, 10], [10, 12]), ([10], [10]), ([14, 10], [10, 14]), ([15, 10, 10], [10, 15]), ([13, 16, 10], [10, 13, 16]), ([10, 17], [10, 17])])
def impl_IsCover.B1 : List Nat := [0, 1, 3, 7, 15, 31, 63, 127, 255, 511, 1023, 2047, 4095, 8191, 2047, 18431, 51199, 131071, 262143]
theorem impl_IsCover.tab1 : rtab .any (opsOf Try.f35 1) = impl_IsCover.T1 := by kernel_rfl
theorem impl_IsCover.bits1 : waitsOk impl_IsCover.T1.2 impl_IsCover.B1 = true := by kernel_rfl
set_option maxHeartbeats 8000000 in
set_option maxRecDepth 100000 in
theorem impl_IsCover.calls (k : Nat) (a0_0 : Int) (A0_1 : Option Addr) (c0_1 : Nat) (l0_1 : List (List Int)) (a0_2 : Int) (A0_3 : Option Addr) (c0_3 : Nat) (l0_3 : List (List Int)) (r : Bool) (w : World) (hr0_1 : Kd.C (Kd.slice 2 (Kd.int .i64)) w A0_1 l0_1.length l0_1) (hc0_1 : l0_1.length ≤ c0_1) (hr0_3 : Kd.C (Kd.slice 2 (Kd.int .i64)) w A0_3 l0_3.length l0_3) (hc0_3 : l0_3.length ≤ c0_3) (h : impl_IsCover.f k a0_0 l0_1 a0_2 l0_3 = some r) :
  Calls Try.prog 35 #[.agg #[.int .i64 a0_0, .slice A0_1 l0_1.length c0_1, .int .i64 a0_2, .slice A0_3 l0_3.length c0_3]] w fun e w' => e = .returned (.bool r) ∧ Below w.heap.size w w' := by
 have hu46 := Try.underlying46
 have hu29 := Try.underlying29
 have HR0_1 := Aside0.mk hr0_1
 have HC0_1 := Aside0.mk hc0_1
 clear hr0_1 hc0_1
 have HR0_3 := Aside0.mk hr0_3
 have HC0_3 := Aside0.mk hc0_3
 clear hr0_3 hc0_3
 have HB := Aside0.mk (Below.refl w.heap.size w)
 have H : ((impl_IsGraph.f k a0_0 l0_1).bind fun t523 => (if t523 = true then ((impl_within.f a0_2 1 4).bind fun t524 => (if t524 = true then ((impl_Graph_size.f a0_0 l0_1).bind fun t525 => (if (l0_3.length : Int) = t525 then ((slices_ContainsFunc_int64_int64_73_at_IsCover_1.f k l0_3 a0_0 l0_1 a0_2 l0_3).bind fun t526 => (some (!t526))) else (some false))) else (some false))) else (some false))) = some r := h
 clear h
 replace H := Option.bind_eq_some_iff.mp H
 obtain ⟨t523, A20, H⟩ := H
 replace H : (if t523 = true then ((impl_within.f a0_2 1 4).bind fun t524 => (if t524 = true then ((impl_Graph_size.f a0_0 l0_1).bind fun t525 => (if (l0_3.length : Int) = t525 then ((slices_ContainsFunc_int64_int64_73_at_IsCover_1.f k l0_3 a0_0 l0_1 a0_2 l0_3).bind fun t526 => (some (!t526))) else (some false))) else (some false))) else (some false)) = some r := H
 have A2 := Aside0.mk A20
 clear A20
 by_cases c3 : t523 = true
 ·subst c3
  have H1 : ((impl_within.f a0_2 1 4).bind fun t524 => (if t524 = true then ((impl_Graph_size.f a0_0 l0_1).bind fun t525 => (if (l0_3.length : Int) = t525 then ((slices_ContainsFunc_int64_int64_73_at_IsCover_1.f k l0_3 a0_0 l0_1 a0_2 l0_3).bind fun t526 => (some (!t526))) else (some false))) else (some false))) = some r := by rw [if_pos rfl] at H; exact H
  clear H
  have H := H1
  clear H1
  replace H := Option.bind_eq_some_iff.mp H
  obtain ⟨t524, A40, H⟩ := H
  replace H : (if t524 = true then ((impl_Graph_size.f a0_0 l0_1).bind fun t525 => (if (l0_3.length : Int) = t525 then ((slices_ContainsFunc_int64_int64_73_at_IsCover_1.f k l0_3 a0_0 l0_1 a0_2 l0_3).bind fun t526 => (some (!t526))) else (some false))) else (some false)) = some r := H
  have A4 := Aside0.mk A40
  clear A40
  by_cases c5 : t524 = true
  ·subst c5
   have H1 : ((impl_Graph_size.f a0_0 l0_1).bind fun t525 => (if (l0_3.length : Int) = t525 then ((slices_ContainsFunc_int64_int64_73_at_IsCover_1.f k l0_3 a0_0 l0_1 a0_2 l0_3).bind fun t526 => (some (!t526))) else (some false))) = some r := by rw [if_pos rfl] at H; exact H
   clear H
   have H := H1
   clear H1
   replace H := Option.bind_eq_some_iff.mp H
   obtain ⟨t525, A60, H⟩ := H
   replace H : (if (l0_3.length : Int) = t525 then ((slices_ContainsFunc_int64_int64_73_at_IsCover_1.f k l0_3 a0_0 l0_1 a0_2 l0_3).bind fun t526 => (some (!t526))) else (some false)) = some r := H
   have A6 := Aside0.mk A60
   clear A60
   by_cases c7 : (l0_3.length : Int) = t525
   ·rw [if_pos c7] at H
    have c7b0 : ((l0_3.length : Int) == t525) = true := beq_iff_eq.mpr c7
    have c7b1 : ((l0_3.length : Int) != t525) = false := bne_eq_false_iff_eq.mpr c7
    clear c7
    replace H := Option.bind_eq_some_iff.mp H
    obtain ⟨t526, A80, H⟩ := H
    replace H : (some (!t526)) = some r := H
    have A8 := Aside0.mk A80
    clear A80
    obtain rfl := Option.some.inj H
    go_enter Try.func35, Try.ntmps35
    try go_wp2_with (first | ((with_reducible refine gate_dst (N := 1) rfl ?_); (try (refine gate_guard (by rfl) ?_; dsimp only)); refine box_event ?hg (N := 1) ?hd (cs := #[.int .i64 a0_0, .slice A0_1 l0_1.length c0_1, .int .i64 a0_2, .slice A0_3 l0_3.length c0_3]) (t := 46) ?hr ?_; (case hd => rfl); (case hg => rfl); (case hr => first | (go_simp; done) | (go_simp; rfl)); intro gb522 hg w9 hbox hb; have n0_ := Aside0.mk (below_step (by repeat (first | (with_reducible first | exact HB.out | apply below_alloc | apply pw_below_drewN | apply below_drew1) | exact HB.out)) hb); have n1_ := Aside0.mk (hbox); have n2_ := Aside0.mk ((by rw [hg]; exact (below_size (by repeat (first | (with_reducible first | exact HB.out | apply below_alloc | apply pw_below_drewN | apply below_drew1) | exact HB.out))) : w.heap.size ≤ gb522)); have n3_ := Aside0.mk ((by rw [hg]; exact (below_size (by repeat (first | (with_reducible first | exact HB.out | apply below_alloc | apply pw_below_drewN | apply below_drew1) | exact HB.out))) : w.heap.size ≤ gb522)); clear HB; have HB := n0_; have BK522 := n1_; have GW522 := n2_; have GE522 := n3_; clear n0_ n1_ n2_ n3_; clear hb hbox hg))
    have n0_ := Aside0.mk (blk_drew BK522.out)
    have n1_ := Aside0.mk (below_drew1 HB.out)
    clear BK522
    clear HB
    have BK522 := n0_
    have HB := n1_
    clear n0_ n1_
    refine start_ (n := 19) (S := fun w' => w'.cell? ⟨gb522, 0, none⟩ = some (.int .i64 a0_0) ∧ w'.cell? ⟨gb522, 1, none⟩ = some (.slice A0_1 l0_1.length c0_1) ∧ w'.cell? ⟨gb522, 2, none⟩ = some (.int .i64 a0_2) ∧ w'.cell? ⟨gb522, 3, none⟩ = some (.slice A0_3 l0_3.length c0_3)) (ds := []) #[false, false, false, false, false, false, false, false, false, false, false, false, false, false, false, false, false, false, false] (by kernel_rfl) rfl rfl ⟨(blk_cell BK522.out 0).trans rfl, (blk_cell BK522.out 1).trans rfl, (blk_cell BK522.out 2).trans rfl, (blk_cell BK522.out 3).trans rfl⟩ (fun hHeld => ?_); refine with_tabW impl_IsCover.tab1 impl_IsCover.bits1 (fun HT_ HW_ => ?_)
    generalize w9.drew = w10 at BK522 HB hHeld ⊢
    refine pure_ (i := 0) (N := some 3) (v := ?_) (a' := ?_) #[true, false, false, false, false, false, false, false, false, false, false, false, false, false, false, false, false, false, false] rfl rfl (any_of HT_.out (by kernel_rfl)) (fun _ _ _ h => h) (Or.inl ⟨by rfl, ?_⟩) ?_ ?_
    rotate_left
    ·intro w'
     go_simp
     with_reducible rfl
    rotate_left
    ·simp only [Act.put, List.setIfInBounds_toArray, List.set_cons_zero, List.set_cons_succ, i64_w, i32_w]
     rfl
    refine take_ (i := 1) (N := some 4) (v := ?_) (a' := ?_) #[true, true, false, false, false, false, false, false, false, false, false, false, false, false, false, false, false, false, false] rfl rfl (take_ofW HT_.out HW_.out (by kernel_rfl)) (fun _ _ _ h => h) (Or.inl ⟨by rfl, ?_⟩) hHeld ?_ ?_
    rotate_left
    ·rintro w' ⟨s0, s1, s2, s3⟩
     go_simp
     with_reducible rfl
    rotate_left
    ·simp only [Act.put, List.setIfInBounds_toArray, List.set_cons_zero, List.set_cons_succ, i64_w, i32_w]
     rfl
    refine one_ (i := 2) (N := some 5) #[true, true, true, false, false, false, false, false, false, false, false, false, false, false, false, false, false, false, false] rfl rfl (one_of HT_.out (by kernel_rfl)) (by decide) (fun K hK => ?_)
    refine goes_ Try.func58 (by kernel_rfl) rfl #[.agg #[.int .i64 a0_0, .slice A0_1 l0_1.length c0_1]] (by rfl) rfl rfl (by (try simp only [List.map_toArray, List.map_cons, List.map_nil]); first | done | rfl | (simp only [List.length_drop, List.length_take]; rfl)) ?_
    with_reducible refine (impl_IsGraph.calls k a0_0 _ _ l0_1 true _ ?side1 ?side2 A2.out).mono ?_
    (case side1 => repeat (first | exact (Kd.C_below HR0_1.out HB.out) | (with_reducible refine Kd.C_alloc ?_ _) | (with_reducible refine Kd.C_drewN ?_ _) | (with_reducible refine Kd.C_drew ?_)))
    (case side2 => exact HC0_1.out)
    rintro e w11 ⟨rfl, hb⟩
    refine ⟨_, rfl, ?_⟩
    have n0_ := Aside0.mk (blk_below (g := gb522) (o := .cells #[.int .i64 a0_0, .slice A0_1 l0_1.length c0_1, .int .i64 a0_2, .slice A0_3 l0_3.length c0_3] 46 (0, 0)) (by (with_reducible repeat (first | refine blk_drewN ?_ _ | refine blk_drew ?_ | refine blk_alloc ?_ _)); exact BK522.out) hb)
    have n1_ := Aside0.mk (below_step (by repeat (first | (with_reducible first | exact HB.out | apply below_alloc | apply pw_below_drewN | apply below_drew1 | refine below_set ?_ GE522.out) | exact HB.out)) hb)
    clear BK522
    clear HB
    have BK522 := n0_
    have HB := n1_
    clear n0_ n1_
    (try clear hb)
    (try clear hb2)
    (try clear hk)
    (try clear hi)
    refine hK.out _ _ ⟨(blk_cell BK522.out 0).trans rfl, (blk_cell BK522.out 1).trans rfl, (blk_cell BK522.out 2).trans rfl, (blk_cell BK522.out 3).trans rfl⟩ (fun hHeld => ?_)
    clear hK K
    refine norm_ (a' := ?_) ?_ ?_
    rotate_left
    ·show Act.put _ (some 5) _ = _
     simp only [Act.put, List.setIfInBounds_toArray, List.set_cons_zero, List.set_cons_succ, i64_w, i32_w]
     rfl
    refine pure_ (i := 3) (N := some 6) (v := ?_) (a' := ?_) #[true, true, true, true, false, false, false, false, false, false, false, false, false, false, false, false, false, false, false] rfl rfl (any_of HT_.out (by kernel_rfl)) (fun _ _ _ h => h) (Or.inl ⟨by rfl, ?_⟩) ?_ ?_
    rotate_left
    ·intro w'
     go_simp
     with_reducible rfl
    rotate_left
    ·simp only [Act.put, List.setIfInBounds_toArray, List.set_cons_zero, List.set_cons_succ, i64_w, i32_w]
     rfl
    refine pure_ (i := 4) (N := some 7) (v := ?_) (a' := ?_) #[true, true, true, true, true, false, false, false, false, false, false, false, false, false, false, false, false, false, false] rfl rfl (any_of HT_.out (by kernel_rfl)) (fun _ _ _ h => h) (Or.inl ⟨by rfl, ?_⟩) ?_ ?_
    rotate_left
    ·intro w'
     go_simp
     with_reducible rfl
    rotate_left
    ·simp only [Act.put, List.setIfInBounds_toArray, List.set_cons_zero, List.set_cons_succ, i64_w, i32_w]
     rfl
    refine pure_ (i := 5) (N := some 8) (v := ?_) (a' := ?_) #[true, true, true, true, true, true, false, false, false, false, false, false, false, false, false, false, false, false, false] rfl rfl (any_of HT_.out (by kernel_rfl)) (fun _ _ _ h => h) (Or.inl ⟨by rfl, ?_⟩) ?_ ?_
    rotate_left
    ·intro w'
     go_simp
     with_reducible rfl
    rotate_left
    ·simp only [Act.put, List.setIfInBounds_toArray, List.set_cons_zero, List.set_cons_succ, i64_w, i32_w]
     rfl
    refine take_ (i := 6) (N := some 9) (v := ?_) (a' := ?_) #[true, true, true, true, true, true, true, false, false, false, false, false, false, false, false, false, false, false, false] rfl rfl (take_ofW HT_.out HW_.out (by kernel_rfl)) (fun _ _ _ h => h) (Or.inl ⟨by rfl, ?_⟩) hHeld ?_ ?_
    rotate_left
    ·rintro w' ⟨s0, s1, s2, s3⟩
     go_simp
     with_reducible rfl
    rotate_left
    ·simp only [Act.put, List.setIfInBounds_toArray, List.set_cons_zero, List.set_cons_succ, i64_w, i32_w]
     rfl
    refine one_ (i := 7) (N := some 10) #[true, true, true, true, true, true, true, true, false, false, false, false, false, false, false, false, false, false, false] rfl rfl (one_of HT_.out (by kernel_rfl)) (by decide) (fun K hK => ?_)
    refine goes_ Try.func71 (by kernel_rfl) rfl #[.int .i64 a0_2, .int .i64 1, .int .i64 4] (by rfl) rfl rfl (by (try simp only [List.map_toArray, List.map_cons, List.map_nil]); first | done | rfl | (simp only [List.length_drop, List.length_take]; rfl)) ?_
    with_reducible refine (impl_within.calls a0_2 1 4 true _ A4.out).mono ?_
    rintro e w' ⟨rfl, ⟨nd, rfl⟩⟩
    refine ⟨_, rfl, ?_⟩
    refine hK.out _ _ ⟨(blk_cell BK522.out 0).trans rfl, (blk_cell BK522.out 1).trans rfl, (blk_cell BK522.out 2).trans rfl, (blk_cell BK522.out 3).trans rfl⟩ (fun hHeld => ?_)
    clear hK K
    refine norm_ (a' := ?_) ?_ ?_
    rotate_left
    ·show Act.put _ (some 10) _ = _
     simp only [Act.put, List.setIfInBounds_toArray, List.set_cons_zero, List.set_cons_succ, i64_w, i32_w]
     rfl
    refine pure_ (i := 8) (N := some 11) (v := ?_) (a' := ?_) #[true, true, true, true, true, true, true, true, true, false, false, false, false, false, false, false, false, false, false] rfl rfl (any_of HT_.out (by kernel_rfl)) (fun _ _ _ h => h) (Or.inl ⟨by rfl, ?_⟩) ?_ ?_
    rotate_left
    ·intro w'
     go_simp
     with_reducible rfl
    rotate_left
    ·simp only [Act.put, List.setIfInBounds_toArray, List.set_cons_zero, List.set_cons_succ, i64_w, i32_w]
     rfl
    refine pure_ (i := 9) (N := some 12) (v := ?_) (a' := ?_) #[true, true, true, true, true, true, true, true, true, true, false, false, false, false, false, false, false, false, false] rfl rfl (any_of HT_.out (by kernel_rfl)) (fun _ _ _ h => h) (Or.inl ⟨by rfl, ?_⟩) ?_ ?_
    rotate_left
    ·intro w'
     go_simp
     with_reducible rfl
    rotate_left
    ·simp only [Act.put, List.setIfInBounds_toArray, List.set_cons_zero, List.set_cons_succ, i64_w, i32_w]
     rfl
    refine pure_ (i := 10) (N := some 13) (v := ?_) (a' := ?_) #[true, true, true, true, true, true, true, true, true, true, true, false, false, false, false, false, false, false, false] rfl rfl (any_of HT_.out (by kernel_rfl)) (fun _ _ _ h => h) (Or.inl ⟨by rfl, ?_⟩) ?_ ?_
    rotate_left
    ·intro w'
     go_simp
     with_reducible rfl
    rotate_left
    ·simp only [Act.put, List.setIfInBounds_toArray, List.set_cons_zero, List.set_cons_succ, i64_w, i32_w]
     rfl
    refine pure_ (i := 11) (N := some 14) (v := ?_) (a' := ?_) #[true, true, true, true, true, true, true, true, true, true, true, true, false, false, false, false, false, false, false] rfl rfl (any_of HT_.out (by kernel_rfl)) (fun _ _ _ h => h) (Or.inl ⟨by rfl, ?_⟩) ?_ ?_
    rotate_left
    ·intro w'
     go_simp
     with_reducible rfl
    rotate_left
    ·simp only [Act.put, List.setIfInBounds_toArray, List.set_cons_zero, List.set_cons_succ, i64_w, i32_w]
     rfl
    refine pure_ (i := 14) (N := some 17) (v := ?_) (a' := ?_) #[true, true, true, true, true, true, true, true, true, true, true, true, false, false, true, false, false, false, false] rfl rfl (any_of HT_.out (by kernel_rfl)) (fun _ _ _ h => h) (Or.inl ⟨by rfl, ?_⟩) ?_ ?_
    rotate_left
    ·intro w'
     go_simp
     with_reducible rfl
    rotate_left
    ·simp only [Act.put, List.setIfInBounds_toArray, List.set_cons_zero, List.set_cons_succ, i64_w, i32_w]
     rfl
    refine take_ (i := 12) (N := some 15) (v := ?_) (a' := ?_) #[true, true, true, true, true, true, true, true, true, true, true, true, true, false, true, false, false, false, false] rfl rfl (take_ofW HT_.out HW_.out (by kernel_rfl)) (fun _ _ _ h => h) (Or.inl ⟨by rfl, ?_⟩) hHeld ?_ ?_
    rotate_left
    ·rintro w' ⟨s0, s1, s2, s3⟩
     go_simp
     with_reducible rfl
    rotate_left
    ·simp only [Act.put, List.setIfInBounds_toArray, List.set_cons_zero, List.set_cons_succ, i64_w, i32_w]
     rfl
    refine pure_ (i := 13) (N := some 16) (v := ?_) (a' := ?_) #[true, true, true, true, true, true, true, true, true, true, true, true, true, true, true, false, false, false, false] rfl rfl (any_of HT_.out (by kernel_rfl)) (fun _ _ _ h => h) (Or.inl ⟨by rfl, ?_⟩) ?_ ?_
    rotate_left
    ·intro w'
     go_simp
     with_reducible rfl
    rotate_left
    ·simp only [Act.put, List.setIfInBounds_toArray, List.set_cons_zero, List.set_cons_succ, i64_w, i32_w]
     rfl
    refine take_ (i := 15) (N := some 18) (v := ?_) (a' := ?_) #[true, true, true, true, true, true, true, true, true, true, true, true, true, true, true, true, false, false, false] rfl rfl (take_ofW HT_.out HW_.out (by kernel_rfl)) (fun _ _ _ h => h) (Or.inl ⟨by rfl, ?_⟩) hHeld ?_ ?_
    rotate_left
    ·rintro w' ⟨s0, s1, s2, s3⟩
     go_simp
     with_reducible rfl
    rotate_left
    ·simp only [Act.put, List.setIfInBounds_toArray, List.set_cons_zero, List.set_cons_succ, i64_w, i32_w]
     rfl
    refine one_ (i := 16) (N := some 19) #[true, true, true, true, true, true, true, true, true, true, true, true, true, true, true, true, true, false, false] rfl rfl (one_of HT_.out (by kernel_rfl)) (by decide) (fun K hK => ?_)
    refine goes_ Try.func72 (by kernel_rfl) rfl #[.agg #[.int .i64 a0_0, .slice A0_1 l0_1.length c0_1]] (by rfl) rfl rfl (by (try simp only [List.map_toArray, List.map_cons, List.map_nil]); first | done | rfl | (simp only [List.length_drop, List.length_take]; rfl)) ?_
    with_reducible refine (impl_Graph_size.calls a0_0 _ _ l0_1 t525 _ ?side1 ?side2 A6.out).mono ?_
    (case side1 => repeat (first | exact (Kd.C_below HR0_1.out (by repeat (first | (with_reducible first | exact HB.out | apply below_alloc | apply pw_below_drewN | apply below_drew1 | refine below_set ?_ GE522.out) | exact HB.out))) | (with_reducible refine Kd.C_alloc ?_ _) | (with_reducible refine Kd.C_drewN ?_ _) | (with_reducible refine Kd.C_drew ?_)))
    (case side2 => exact HC0_1.out)
    rintro e w12 ⟨rfl, hb⟩
    refine ⟨_, rfl, ?_⟩
    have n0_ := Aside0.mk (blk_below (g := gb522) (o := .cells #[.int .i64 a0_0, .slice A0_1 l0_1.length c0_1, .int .i64 a0_2, .slice A0_3 l0_3.length c0_3] 46 (0, 0)) (by (with_reducible repeat (first | refine blk_drewN ?_ _ | refine blk_drew ?_ | refine blk_alloc ?_ _)); exact BK522.out) hb)
    have n1_ := Aside0.mk (below_step (by repeat (first | (with_reducible first | exact HB.out | apply below_alloc | apply pw_below_drewN | apply below_drew1 | refine below_set ?_ GE522.out) | exact HB.out)) hb)
    clear BK522
    clear HB
    have BK522 := n0_
    have HB := n1_
    clear n0_ n1_
    (try clear hb)
    (try clear hb2)
    (try clear hk)
    (try clear hi)
    refine hK.out _ _ ⟨(blk_cell BK522.out 0).trans rfl, (blk_cell BK522.out 1).trans rfl, (blk_cell BK522.out 2).trans rfl, (blk_cell BK522.out 3).trans rfl⟩ (fun hHeld => ?_)
    clear hK K
    refine norm_ (a' := ?_) ?_ ?_
    rotate_left
    ·show Act.put _ (some 19) _ = _
     simp only [Act.put, List.setIfInBounds_toArray, List.set_cons_zero, List.set_cons_succ, i64_w, i32_w]
     rfl
    refine pure_ (i := 17) (N := some 20) (v := ?_) (a' := ?_) #[true, true, true, true, true, true, true, true, true, true, true, true, true, true, true, true, true, true, false] rfl rfl (any_of HT_.out (by kernel_rfl)) (fun _ _ _ h => h) (Or.inl ⟨by rfl, ?_⟩) ?_ ?_
    rotate_left
    ·intro w'
     go_simp
     with_reducible rfl
    rotate_left
    ·simp only [Act.put, List.setIfInBounds_toArray, List.set_cons_zero, List.set_cons_succ, i64_w, i32_w]
     rfl
    refine pure_ (i := 18) (N := some 21) (v := ?_) (a' := ?_) #[true, true, true, true, true, true, true, true, true, true, true, true, true, true, true, true, true, true, true] rfl rfl (any_of HT_.out (by kernel_rfl)) (fun _ _ _ h => h) (Or.inl ⟨by rfl, ?_⟩) ?_ ?_
    rotate_left
    ·intro w'
     go_simp
     with_reducible rfl
    rotate_left
    ·simp only [Act.put, List.setIfInBounds_toArray, List.set_cons_zero, List.set_cons_succ, i64_w, i32_w]
     rfl
    refine done_ (done_of HT_.out (by kernel_rfl)) ?_
    have hcz13_0 : w12.cell? ⟨gb522, 0, none⟩ = some (.int .i64 a0_0) := (blk_cell BK522.out 0).trans rfl
    have hcz13_1 : w12.cell? ⟨gb522, 1, none⟩ = some (.slice A0_1 l0_1.length c0_1) := (blk_cell BK522.out 1).trans rfl
    have hcz13_2 : w12.cell? ⟨gb522, 2, none⟩ = some (.int .i64 a0_2) := (blk_cell BK522.out 2).trans rfl
    have hcz13_3 : w12.cell? ⟨gb522, 3, none⟩ = some (.slice A0_3 l0_3.length c0_3) := (blk_cell BK522.out 3).trans rfl
    have hfz13_0 := blk_frozen BK522.out 0
    have hfz13_1 := blk_frozen BK522.out 1
    have hfz13_2 := blk_frozen BK522.out 2
    have hfz13_3 := blk_frozen BK522.out 3
    try go_wp2_with (first | ((with_reducible refine gate_callee (f := 73) rfl ?_); refine goesL_ (some 25) rfl rfl Try.func73 (by kernel_rfl) rfl #[.slice A0_3 l0_3.length c0_3, .func (.func 74) #[] #[.pointer (some ⟨gb522, 0, none⟩)]] rfl (by (try simp only [List.map_toArray, List.map_cons, List.map_nil]); first | done | rfl | (simp only [List.length_drop, List.length_take]; rfl)) ?_; (with_reducible refine (slices_ContainsFunc_int64_int64_73_at_IsCover_1.calls k _ _ l0_3 gb522 a0_0 A0_1 c0_1 l0_1 a0_2 A0_3 c0_3 l0_3 t526 _ ?side1 ?side2 ?side3 ?side4 ?side5 ?side6 ?side7 A8.out).mono ?_); (case side1 => repeat (first | exact (Kd.C_below HR0_3.out HB.out) | (with_reducible refine Kd.C_alloc ?_ _) | (with_reducible refine Kd.C_drewN ?_ _) | (with_reducible refine Kd.C_drew ?_))); (case side2 => exact HC0_3.out); (case side3 => exact (by (with_reducible repeat (first | refine blk_drewN ?_ _ | refine blk_drew ?_ | refine blk_alloc ?_ _)); exact BK522.out)); (case side4 => repeat (first | exact (Kd.C_below HR0_1.out HB.out) | (with_reducible refine Kd.C_alloc ?_ _) | (with_reducible refine Kd.C_drewN ?_ _) | (with_reducible refine Kd.C_drew ?_))); (case side5 => exact HC0_1.out); (case side6 => repeat (first | exact (Kd.C_below HR0_3.out HB.out) | (with_reducible refine Kd.C_alloc ?_ _) | (with_reducible refine Kd.C_drewN ?_ _) | (with_reducible refine Kd.C_drew ?_))); (case side7 => exact HC0_3.out); rintro e w14 ⟨rfl, hb⟩; refine ⟨_, rfl, ?_⟩; have n0_ := Aside0.mk (blk_below (g := gb522) (o := .cells #[.int .i64 a0_0, .slice A0_1 l0_1.length c0_1, .int .i64 a0_2, .slice A0_3 l0_3.length c0_3] 46 (0, 0)) (by (with_reducible repeat (first | refine blk_drewN ?_ _ | refine blk_drew ?_ | refine blk_alloc ?_ _)); exact BK522.out) hb); have n1_ := Aside0.mk (below_step (by repeat (first | (with_reducible first | exact HB.out | apply below_alloc | apply pw_below_drewN | apply below_drew1 | refine below_set ?_ GE522.out) | exact HB.out)) hb); clear BK522; clear HB; have BK522 := n0_; have HB := n1_; clear n0_ n1_; (try clear hb); (try clear hb2); (try clear hk); (try clear hi)))
    go_ret
    exact ⟨by first | rfl | (simp [errW_none, errW_some] <;> rfl) | (simp [*, errW_none, errW_some] <;> rfl), by repeat (first | (with_reducible first | exact HB.out | apply below_alloc | apply pw_below_drewN | apply below_drew1 | refine below_set ?_ GE522.out) | exact HB.out)⟩
   ·rw [if_neg c7] at H
    have c7b0 : ((l0_3.length : Int) == t525) = false := beq_eq_false_iff_ne.mpr c7
    have c7b1 : ((l0_3.length : Int) != t525) = true := bne_iff_ne.mpr c7
    obtain rfl := Option.some.inj H
    go_enter Try.func35, Try.ntmps35
    try go_wp2_with (first | ((with_reducible refine gate_dst (N := 1) rfl ?_); (try (refine gate_guard (by rfl) ?_; dsimp only)); refine box_event ?hg (N := 1) ?hd (cs := #[.int .i64 a0_0, .slice A0_1 l0_1.length c0_1, .int .i64 a0_2, .slice A0_3 l0_3.length c0_3]) (t := 46) ?hr ?_; (case hd => rfl); (case hg => rfl); (case hr => first | (go_simp; done) | (go_simp; rfl)); intro gb522 hg w15 hbox hb; have n0_ := Aside0.mk (below_step (by repeat (first | (with_reducible first | exact HB.out | apply below_alloc | apply pw_below_drewN | apply below_drew1) | exact HB.out)) hb); have n1_ := Aside0.mk (hbox); have n2_ := Aside0.mk ((by rw [hg]; exact (below_size (by repeat (first | (with_reducible first | exact HB.out | apply below_alloc | apply pw_below_drewN | apply below_drew1) | exact HB.out))) : w.heap.size ≤ gb522)); have n3_ := Aside0.mk ((by rw [hg]; exact (below_size (by repeat (first | (with_reducible first | exact HB.out | apply below_alloc | apply pw_below_drewN | apply below_drew1) | exact HB.out))) : w.heap.size ≤ gb522)); clear HB; have HB := n0_; have BK522 := n1_; have GW522 := n2_; have GE522 := n3_; clear n0_ n1_ n2_ n3_; clear hb hbox hg))
    have n0_ := Aside0.mk (blk_drew BK522.out)
    have n1_ := Aside0.mk (below_drew1 HB.out)
    clear BK522
    clear HB
    have BK522 := n0_
    have HB := n1_
    clear n0_ n1_
    refine start_ (n := 19) (S := fun w' => w'.cell? ⟨gb522, 0, none⟩ = some (.int .i64 a0_0) ∧ w'.cell? ⟨gb522, 1, none⟩ = some (.slice A0_1 l0_1.length c0_1) ∧ w'.cell? ⟨gb522, 2, none⟩ = some (.int .i64 a0_2) ∧ w'.cell? ⟨gb522, 3, none⟩ = some (.slice A0_3 l0_3.length c0_3)) (ds := []) #[false, false, false, false, false, false, false, false, false, false, false, false, false, false, false, false, false, false, false] (by kernel_rfl) rfl rfl ⟨(blk_cell BK522.out 0).trans rfl, (blk_cell BK522.out 1).trans rfl, (blk_cell BK522.out 2).trans rfl, (blk_cell BK522.out 3).trans rfl⟩ (fun hHeld => ?_); refine with_tabW impl_IsCover.tab1 impl_IsCover.bits1 (fun HT_ HW_ => ?_)
    generalize w15.drew = w16 at BK522 HB hHeld ⊢
    refine pure_ (i := 0) (N := some 3) (v := ?_) (a' := ?_) #[true, false, false, false, false, false, false, false, false, false, false, false, false, false, false, false, false, false, false] rfl rfl (any_of HT_.out (by kernel_rfl)) (fun _ _ _ h => h) (Or.inl ⟨by rfl, ?_⟩) ?_ ?_
    rotate_left
    ·intro w'
     go_simp
     with_reducible rfl
    rotate_left
    ·simp only [Act.put, List.setIfInBounds_toArray, List.set_cons_zero, List.set_cons_succ, i64_w, i32_w]
     rfl
    refine take_ (i := 1) (N := some 4) (v := ?_) (a' := ?_) #[true, true, false, false, false, false, false, false, false, false, false, false, false, false, false, false, false, false, false] rfl rfl (take_ofW HT_.out HW_.out (by kernel_rfl)) (fun _ _ _ h => h) (Or.inl ⟨by rfl, ?_⟩) hHeld ?_ ?_
    rotate_left
    ·rintro w' ⟨s0, s1, s2, s3⟩
     go_simp
     with_reducible rfl
    rotate_left
    ·simp only [Act.put, List.setIfInBounds_toArray, List.set_cons_zero, List.set_cons_succ, i64_w, i32_w]
     rfl
    refine one_ (i := 2) (N := some 5) #[true, true, true, false, false, false, false, false, false, false, false, false, false, false, false, false, false, false, false] rfl rfl (one_of HT_.out (by kernel_rfl)) (by decide) (fun K hK => ?_)
    refine goes_ Try.func58 (by kernel_rfl) rfl #[.agg #[.int .i64 a0_0, .slice A0_1 l0_1.length c0_1]] (by rfl) rfl rfl (by (try simp only [List.map_toArray, List.map_cons, List.map_nil]); first | done | rfl | (simp only [List.length_drop, List.length_take]; rfl)) ?_
    with_reducible refine (impl_IsGraph.calls k a0_0 _ _ l0_1 true _ ?side1 ?side2 A2.out).mono ?_
    (case side1 => repeat (first | exact (Kd.C_below HR0_1.out HB.out) | (with_reducible refine Kd.C_alloc ?_ _) | (with_reducible refine Kd.C_drewN ?_ _) | (with_reducible refine Kd.C_drew ?_)))
    (case side2 => exact HC0_1.out)
    rintro e w17 ⟨rfl, hb⟩
    refine ⟨_, rfl, ?_⟩
    have n0_ := Aside0.mk (blk_below (g := gb522) (o := .cells #[.int .i64 a0_0, .slice A0_1 l0_1.length c0_1, .int .i64 a0_2, .slice A0_3 l0_3.length c0_3] 46 (0, 0)) (by (with_reducible repeat (first | refine blk_drewN ?_ _ | refine blk_drew ?_ | refine blk_alloc ?_ _)); exact BK522.out) hb)
    have n1_ := Aside0.mk (below_step (by repeat (first | (with_reducible first | exact HB.out | apply below_alloc | apply pw_below_drewN | apply below_drew1 | refine below_set ?_ GE522.out) | exact HB.out)) hb)
    clear BK522
    clear HB
    have BK522 := n0_
    have HB := n1_
    clear n0_ n1_
    (try clear hb)
    (try clear hb2)
    (try clear hk)
    (try clear hi)
    refine hK.out _ _ ⟨(blk_cell BK522.out 0).trans rfl, (blk_cell BK522.out 1).trans rfl, (blk_cell BK522.out 2).trans rfl, (blk_cell BK522.out 3).trans rfl⟩ (fun hHeld => ?_)
    clear hK K
    refine norm_ (a' := ?_) ?_ ?_
    rotate_left
    ·show Act.put _ (some 5) _ = _
     simp only [Act.put, List.setIfInBounds_toArray, List.set_cons_zero, List.set_cons_succ, i64_w, i32_w]
     rfl
    refine pure_ (i := 3) (N := some 6) (v := ?_) (a' := ?_) #[true, true, true, true, false, false, false, false, false, false, false, false, false, false, false, false, false, false, false] rfl rfl (any_of HT_.out (by kernel_rfl)) (fun _ _ _ h => h) (Or.inl ⟨by rfl, ?_⟩) ?_ ?_
    rotate_left
    ·intro w'
     go_simp
     with_reducible rfl
    rotate_left
    ·simp only [Act.put, List.setIfInBounds_toArray, List.set_cons_zero, List.set_cons_succ, i64_w, i32_w]
     rfl
    refine pure_ (i := 4) (N := some 7) (v := ?_) (a' := ?_) #[true, true, true, true, true, false, false, false, false, false, false, false, false, false, false, false, false, false, false] rfl rfl (any_of HT_.out (by kernel_rfl)) (fun _ _ _ h => h) (Or.inl ⟨by rfl, ?_⟩) ?_ ?_
    rotate_left
    ·intro w'
     go_simp
     with_reducible rfl
    rotate_left
    ·simp only [Act.put, List.setIfInBounds_toArray, List.set_cons_zero, List.set_cons_succ, i64_w, i32_w]
     rfl
    refine pure_ (i := 5) (N := some 8) (v := ?_) (a' := ?_) #[true, true, true, true, true, true, false, false, false, false, false, false, false, false, false, false, false, false, false] rfl rfl (any_of HT_.out (by kernel_rfl)) (fun _ _ _ h => h) (Or.inl ⟨by rfl, ?_⟩) ?_ ?_
    rotate_left
    ·intro w'
     go_simp
     with_reducible rfl
    rotate_left
    ·simp only [Act.put, List.setIfInBounds_toArray, List.set_cons_zero, List.set_cons_succ, i64_w, i32_w]
     rfl
    refine take_ (i := 6) (N := some 9) (v := ?_) (a' := ?_) #[true, true, true, true, true, true, true, false, false, false, false, false, false, false, false, false, false, false, false] rfl rfl (take_ofW HT_.out HW_.out (by kernel_rfl)) (fun _ _ _ h => h) (Or.inl ⟨by rfl, ?_⟩) hHeld ?_ ?_
    rotate_left
    ·rintro w' ⟨s0, s1, s2, s3⟩
     go_simp
     with_reducible rfl
    rotate_left
    ·simp only [Act.put, List.setIfInBounds_toArray, List.set_cons_zero, List.set_cons_succ, i64_w, i32_w]
     rfl
    refine one_ (i := 7) (N := some 10) #[true, true, true, true, true, true, true, true, false, false, false, false, false, false, false, false, false, false, false] rfl rfl (one_of HT_.out (by kernel_rfl)) (by decide) (fun K hK => ?_)
    refine goes_ Try.func71 (by kernel_rfl) rfl #[.int .i64 a0_2, .int .i64 1, .int .i64 4] (by rfl) rfl rfl (by (try simp only [List.map_toArray, List.map_cons, List.map_nil]); first | done | rfl | (simp only [List.length_drop, List.length_take]; rfl)) ?_
    with_reducible refine (impl_within.calls a0_2 1 4 true _ A4.out).mono ?_
    rintro e w' ⟨rfl, ⟨nd, rfl⟩⟩
    refine ⟨_, rfl, ?_⟩
    refine hK.out _ _ ⟨(blk_cell BK522.out 0).trans rfl, (blk_cell BK522.out 1).trans rfl, (blk_cell BK522.out 2).trans rfl, (blk_cell BK522.out 3).trans rfl⟩ (fun hHeld => ?_)
    clear hK K
    refine norm_ (a' := ?_) ?_ ?_
    rotate_left
    ·show Act.put _ (some 10) _ = _
     simp only [Act.put, List.setIfInBounds_toArray, List.set_cons_zero, List.set_cons_succ, i64_w, i32_w]
     rfl
    refine pure_ (i := 8) (N := some 11) (v := ?_) (a' := ?_) #[true, true, true, true, true, true, true, true, true, false, false, false, false, false, false, false, false, false, false] rfl rfl (any_of HT_.out (by kernel_rfl)) (fun _ _ _ h => h) (Or.inl ⟨by rfl, ?_⟩) ?_ ?_
    rotate_left
    ·intro w'
     go_simp
     with_reducible rfl
    rotate_left
    ·simp only [Act.put, List.setIfInBounds_toArray, List.set_cons_zero, List.set_cons_succ, i64_w, i32_w]
     rfl
    refine pure_ (i := 9) (N := some 12) (v := ?_) (a' := ?_) #[true, true, true, true, true, true, true, true, true, true, false, false, false, false, false, false, false, false, false] rfl rfl (any_of HT_.out (by kernel_rfl)) (fun _ _ _ h => h) (Or.inl ⟨by rfl, ?_⟩) ?_ ?_
    rotate_left
    ·intro w'
     go_simp
     with_reducible rfl
    rotate_left
    ·simp only [Act.put, List.setIfInBounds_toArray, List.set_cons_zero, List.set_cons_succ, i64_w, i32_w]
     rfl
    refine pure_ (i := 10) (N := some 13) (v := ?_) (a' := ?_) #[true, true, true, true, true, true, true, true, true, true, true, false, false, false, false, false, false, false, false] rfl rfl (any_of HT_.out (by kernel_rfl)) (fun _ _ _ h => h) (Or.inl ⟨by rfl, ?_⟩) ?_ ?_
    rotate_left
    ·intro w'
     go_simp
     with_reducible rfl
    rotate_left
    ·simp only [Act.put, List.setIfInBounds_toArray, List.set_cons_zero, List.set_cons_succ, i64_w, i32_w]
     rfl
    refine pure_ (i := 11) (N := some 14) (v := ?_) (a' := ?_) #[true, true, true, true, true, true, true, true, true, true, true, true, false, false, false, false, false, false, false] rfl rfl (any_of HT_.out (by kernel_rfl)) (fun _ _ _ h => h) (Or.inl ⟨by rfl, ?_⟩) ?_ ?_
    rotate_left
    ·intro w'
     go_simp
     with_reducible rfl
    rotate_left
    ·simp only [Act.put, List.setIfInBounds_toArray, List.set_cons_zero, List.set_cons_succ, i64_w, i32_w]
     rfl
    refine pure_ (i := 14) (N := some 17) (v := ?_) (a' := ?_) #[true, true, true, true, true, true, true, true, true, true, true, true, false, false, true, false, false, false, false] rfl rfl (any_of HT_.out (by kernel_rfl)) (fun _ _ _ h => h) (Or.inl ⟨by rfl, ?_⟩) ?_ ?_
    rotate_left
    ·intro w'
     go_simp
     with_reducible rfl
    rotate_left
    ·simp only [Act.put, List.setIfInBounds_toArray, List.set_cons_zero, List.set_cons_succ, i64_w, i32_w]
     rfl
    refine take_ (i := 12) (N := some 15) (v := ?_) (a' := ?_) #[true, true, true, true, true, true, true, true, true, true, true, true, true, false, true, false, false, false, false] rfl rfl (take_ofW HT_.out HW_.out (by kernel_rfl)) (fun _ _ _ h => h) (Or.inl ⟨by rfl, ?_⟩) hHeld ?_ ?_
    rotate_left
    ·rintro w' ⟨s0, s1, s2, s3⟩
     go_simp
     with_reducible rfl
    rotate_left
    ·simp only [Act.put, List.setIfInBounds_toArray, List.set_cons_zero, List.set_cons_succ, i64_w, i32_w]
     rfl
    refine pure_ (i := 13) (N := some 16) (v := ?_) (a' := ?_) #[true, true, true, true, true, true, true, true, true, true, true, true, true, true, true, false, false, false, false] rfl rfl (any_of HT_.out (by kernel_rfl)) (fun _ _ _ h => h) (Or.inl ⟨by rfl, ?_⟩) ?_ ?_
    rotate_left
    ·intro w'
     go_simp
     with_reducible rfl
    rotate_left
    ·simp only [Act.put, List.setIfInBounds_toArray, List.set_cons_zero, List.set_cons_succ, i64_w, i32_w]
     rfl
    refine take_ (i := 15) (N := some 18) (v := ?_) (a' := ?_) #[true, true, true, true, true, true, true, true, true, true, true, true, true, true, true, true, false, false, false] rfl rfl (take_ofW HT_.out HW_.out (by kernel_rfl)) (fun _ _ _ h => h) (Or.inl ⟨by rfl, ?_⟩) hHeld ?_ ?_
    rotate_left
    ·rintro w' ⟨s0, s1, s2, s3⟩
     go_simp
     with_reducible rfl
    rotate_left
    ·simp only [Act.put, List.setIfInBounds_toArray, List.set_cons_zero, List.set_cons_succ, i64_w, i32_w]
     rfl
    refine one_ (i := 16) (N := some 19) #[true, true, true, true, true, true, true, true, true, true, true, true, true, true, true, true, true, false, false] rfl rfl (one_of HT_.out (by kernel_rfl)) (by decide) (fun K hK => ?_)
    refine goes_ Try.func72 (by kernel_rfl) rfl #[.agg #[.int .i64 a0_0, .slice A0_1 l0_1.length c0_1]] (by rfl) rfl rfl (by (try simp only [List.map_toArray, List.map_cons, List.map_nil]); first | done | rfl | (simp only [List.length_drop, List.length_take]; rfl)) ?_
    with_reducible refine (impl_Graph_size.calls a0_0 _ _ l0_1 t525 _ ?side1 ?side2 A6.out).mono ?_
    (case side1 => repeat (first | exact (Kd.C_below HR0_1.out (by repeat (first | (with_reducible first | exact HB.out | apply below_alloc | apply pw_below_drewN | apply below_drew1 | refine below_set ?_ GE522.out) | exact HB.out))) | (with_reducible refine Kd.C_alloc ?_ _) | (with_reducible refine Kd.C_drewN ?_ _) | (with_reducible refine Kd.C_drew ?_)))
    (case side2 => exact HC0_1.out)
    rintro e w18 ⟨rfl, hb⟩
    refine ⟨_, rfl, ?_⟩
    have n0_ := Aside0.mk (blk_below (g := gb522) (o := .cells #[.int .i64 a0_0, .slice A0_1 l0_1.length c0_1, .int .i64 a0_2, .slice A0_3 l0_3.length c0_3] 46 (0, 0)) (by (with_reducible repeat (first | refine blk_drewN ?_ _ | refine blk_drew ?_ | refine blk_alloc ?_ _)); exact BK522.out) hb)
    have n1_ := Aside0.mk (below_step (by repeat (first | (with_reducible first | exact HB.out | apply below_alloc | apply pw_below_drewN | apply below_drew1 | refine below_set ?_ GE522.out) | exact HB.out)) hb)
    clear BK522
    clear HB
    have BK522 := n0_
    have HB := n1_
    clear n0_ n1_
    (try clear hb)
    (try clear hb2)
    (try clear hk)
    (try clear hi)
    refine hK.out _ _ ⟨(blk_cell BK522.out 0).trans rfl, (blk_cell BK522.out 1).trans rfl, (blk_cell BK522.out 2).trans rfl, (blk_cell BK522.out 3).trans rfl⟩ (fun hHeld => ?_)
    clear hK K
    refine norm_ (a' := ?_) ?_ ?_
    rotate_left
    ·show Act.put _ (some 19) _ = _
     simp only [Act.put, List.setIfInBounds_toArray, List.set_cons_zero, List.set_cons_succ, i64_w, i32_w]
     rfl
    refine pure_ (i := 17) (N := some 20) (v := ?_) (a' := ?_) #[true, true, true, true, true, true, true, true, true, true, true, true, true, true, true, true, true, true, false] rfl rfl (any_of HT_.out (by kernel_rfl)) (fun _ _ _ h => h) (Or.inl ⟨by rfl, ?_⟩) ?_ ?_
    rotate_left
    ·intro w'
     go_simp
     with_reducible rfl
    rotate_left
    ·simp only [Act.put, List.setIfInBounds_toArray, List.set_cons_zero, List.set_cons_succ, i64_w, i32_w]
     rfl
    refine pure_ (i := 18) (N := some 21) (v := ?_) (a' := ?_) #[true, true, true, true, true, true, true, true, true, true, true, true, true, true, true, true, true, true, true] rfl rfl (any_of HT_.out (by kernel_rfl)) (fun _ _ _ h => h) (Or.inl ⟨by rfl, ?_⟩) ?_ ?_
    rotate_left
    ·intro w'
     go_simp
     with_reducible rfl
    rotate_left
    ·simp only [Act.put, List.setIfInBounds_toArray, List.set_cons_zero, List.set_cons_succ, i64_w, i32_w]
     rfl
    refine done_ (done_of HT_.out (by kernel_rfl)) ?_
    try go_wp2
    go_ret
    exact ⟨by first | rfl | (simp [errW_none, errW_some] <;> rfl) | (simp [*, errW_none, errW_some] <;> rfl), by repeat (first | (with_reducible first | exact HB.out | apply below_alloc | apply pw_below_drewN | apply below_drew1 | refine below_set ?_ GE522.out) | exact HB.out)⟩
  ·replace c5 := Bool.eq_false_iff.mpr c5
   subst c5
   have H1 : (some false) = some r := by rw [if_neg (show ¬ (false = true) by decide)] at H; exact H
   clear H
   have H := H1
   clear H1
   obtain rfl := Option.some.inj H
   go_enter Try.func35, Try.ntmps35
   try go_wp2_with (first | ((with_reducible refine gate_dst (N := 1) rfl ?_); (try (refine gate_guard (by rfl) ?_; dsimp only)); refine box_event ?hg (N := 1) ?hd (cs := #[.int .i64 a0_0, .slice A0_1 l0_1.length c0_1, .int .i64 a0_2, .slice A0_3 l0_3.length c0_3]) (t := 46) ?hr ?_; (case hd => rfl); (case hg => rfl); (case hr => first | (go_simp; done) | (go_simp; rfl)); intro gb522 hg w19 hbox hb; have n0_ := Aside0.mk (below_step (by repeat (first | (with_reducible first | exact HB.out | apply below_alloc | apply pw_below_drewN | apply below_drew1) | exact HB.out)) hb); have n1_ := Aside0.mk (hbox); have n2_ := Aside0.mk ((by rw [hg]; exact (below_size (by repeat (first | (with_reducible first | exact HB.out | apply below_alloc | apply pw_below_drewN | apply below_drew1) | exact HB.out))) : w.heap.size ≤ gb522)); have n3_ := Aside0.mk ((by rw [hg]; exact (below_size (by repeat (first | (with_reducible first | exact HB.out | apply below_alloc | apply pw_below_drewN | apply below_drew1) | exact HB.out))) : w.heap.size ≤ gb522)); clear HB; have HB := n0_; have BK522 := n1_; have GW522 := n2_; have GE522 := n3_; clear n0_ n1_ n2_ n3_; clear hb hbox hg))
   have n0_ := Aside0.mk (blk_drew BK522.out)
   have n1_ := Aside0.mk (below_drew1 HB.out)
   clear BK522
   clear HB
   have BK522 := n0_
   have HB := n1_
   clear n0_ n1_
   refine start_ (n := 19) (S := fun w' => w'.cell? ⟨gb522, 0, none⟩ = some (.int .i64 a0_0) ∧ w'.cell? ⟨gb522, 1, none⟩ = some (.slice A0_1 l0_1.length c0_1) ∧ w'.cell? ⟨gb522, 2, none⟩ = some (.int .i64 a0_2) ∧ w'.cell? ⟨gb522, 3, none⟩ = some (.slice A0_3 l0_3.length c0_3)) (ds := []) #[false, false, false, false, false, false, false, false, false, false, false, false, false, false, false, false, false, false, false] (by kernel_rfl) rfl rfl ⟨(blk_cell BK522.out 0).trans rfl, (blk_cell BK522.out 1).trans rfl, (blk_cell BK522.out 2).trans rfl, (blk_cell BK522.out 3).trans rfl⟩ (fun hHeld => ?_); refine with_tabW impl_IsCover.tab1 impl_IsCover.bits1 (fun HT_ HW_ => ?_)
   generalize w19.drew = w20 at BK522 HB hHeld ⊢
   refine pure_ (i := 0) (N := some 3) (v := ?_) (a' := ?_) #[true, false, false, false, false, false, false, false, false, false, false, false, false, false, false, false, false, false, false] rfl rfl (any_of HT_.out (by kernel_rfl)) (fun _ _ _ h => h) (Or.inl ⟨by rfl, ?_⟩) ?_ ?_
   rotate_left
   ·intro w'
    go_simp
    with_reducible rfl
   rotate_left
   ·simp only [Act.put, List.setIfInBounds_toArray, List.set_cons_zero, List.set_cons_succ, i64_w, i32_w]
    rfl
   refine take_ (i := 1) (N := some 4) (v := ?_) (a' := ?_) #[true, true, false, false, false, false, false, false, false, false, false, false, false, false, false, false, false, false, false] rfl rfl (take_ofW HT_.out HW_.out (by kernel_rfl)) (fun _ _ _ h => h) (Or.inl ⟨by rfl, ?_⟩) hHeld ?_ ?_
   rotate_left
   ·rintro w' ⟨s0, s1, s2, s3⟩
    go_simp
    with_reducible rfl
   rotate_left
   ·simp only [Act.put, List.setIfInBounds_toArray, List.set_cons_zero, List.set_cons_succ, i64_w, i32_w]
    rfl
   refine one_ (i := 2) (N := some 5) #[true, true, true, false, false, false, false, false, false, false, false, false, false, false, false, false, false, false, false] rfl rfl (one_of HT_.out (by kernel_rfl)) (by decide) (fun K hK => ?_)
   refine goes_ Try.func58 (by kernel_rfl) rfl #[.agg #[.int .i64 a0_0, .slice A0_1 l0_1.length c0_1]] (by rfl) rfl rfl (by (try simp only [List.map_toArray, List.map_cons, List.map_nil]); first | done | rfl | (simp only [List.length_drop, List.length_take]; rfl)) ?_
   with_reducible refine (impl_IsGraph.calls k a0_0 _ _ l0_1 true _ ?side1 ?side2 A2.out).mono ?_
   (case side1 => repeat (first | exact (Kd.C_below HR0_1.out HB.out) | (with_reducible refine Kd.C_alloc ?_ _) | (with_reducible refine Kd.C_drewN ?_ _) | (with_reducible refine Kd.C_drew ?_)))
   (case side2 => exact HC0_1.out)
   rintro e w21 ⟨rfl, hb⟩
   refine ⟨_, rfl, ?_⟩
   have n0_ := Aside0.mk (blk_below (g := gb522) (o := .cells #[.int .i64 a0_0, .slice A0_1 l0_1.length c0_1, .int .i64 a0_2, .slice A0_3 l0_3.length c0_3] 46 (0, 0)) (by (with_reducible repeat (first | refine blk_drewN ?_ _ | refine blk_drew ?_ | refine blk_alloc ?_ _)); exact BK522.out) hb)
   have n1_ := Aside0.mk (below_step (by repeat (first | (with_reducible first | exact HB.out | apply below_alloc | apply pw_below_drewN | apply below_drew1 | refine below_set ?_ GE522.out) | exact HB.out)) hb)
   clear BK522
   clear HB
   have BK522 := n0_
   have HB := n1_
   clear n0_ n1_
   (try clear hb)
   (try clear hb2)
   (try clear hk)
   (try clear hi)
   refine hK.out _ _ ⟨(blk_cell BK522.out 0).trans rfl, (blk_cell BK522.out 1).trans rfl, (blk_cell BK522.out 2).trans rfl, (blk_cell BK522.out 3).trans rfl⟩ (fun hHeld => ?_)
   clear hK K
   refine norm_ (a' := ?_) ?_ ?_
   rotate_left
   ·show Act.put _ (some 5) _ = _
    simp only [Act.put, List.setIfInBounds_toArray, List.set_cons_zero, List.set_cons_succ, i64_w, i32_w]
    rfl
   refine pure_ (i := 3) (N := some 6) (v := ?_) (a' := ?_) #[true, true, true, true, false, false, false, false, false, false, false, false, false, false, false, false, false, false, false] rfl rfl (any_of HT_.out (by kernel_rfl)) (fun _ _ _ h => h) (Or.inl ⟨by rfl, ?_⟩) ?_ ?_
   rotate_left
   ·intro w'
    go_simp
    with_reducible rfl
   rotate_left
   ·simp only [Act.put, List.setIfInBounds_toArray, List.set_cons_zero, List.set_cons_succ, i64_w, i32_w]
    rfl
   refine pure_ (i := 4) (N := some 7) (v := ?_) (a' := ?_) #[true, true, true, true, true, false, false, false, false, false, false, false, false, false, false, false, false, false, false] rfl rfl (any_of HT_.out (by kernel_rfl)) (fun _ _ _ h => h) (Or.inl ⟨by rfl, ?_⟩) ?_ ?_
   rotate_left
   ·intro w'
    go_simp
    with_reducible rfl
   rotate_left
   ·simp only [Act.put, List.setIfInBounds_toArray, List.set_cons_zero, List.set_cons_succ, i64_w, i32_w]
    rfl
   refine pure_ (i := 5) (N := some 8) (v := ?_) (a' := ?_) #[true, true, true, true, true, true, false, false, false, false, false, false, false, false, false, false, false, false, false] rfl rfl (any_of HT_.out (by kernel_rfl)) (fun _ _ _ h => h) (Or.inl ⟨by rfl, ?_⟩) ?_ ?_
   rotate_left
   ·intro w'
    go_simp
    with_reducible rfl
   rotate_left
   ·simp only [Act.put, List.setIfInBounds_toArray, List.set_cons_zero, List.set_cons_succ, i64_w, i32_w]
    rfl
   refine take_ (i := 6) (N := some 9) (v := ?_) (a' := ?_) #[true, true, true, true, true, true, true, false, false, false, false, false, false, false, false, false, false, false, false] rfl rfl (take_ofW HT_.out HW_.out (by kernel_rfl)) (fun _ _ _ h => h) (Or.inl ⟨by rfl, ?_⟩) hHeld ?_ ?_
   rotate_left
   ·rintro w' ⟨s0, s1, s2, s3⟩
    go_simp
    with_reducible rfl
   rotate_left
   ·simp only [Act.put, List.setIfInBounds_toArray, List.set_cons_zero, List.set_cons_succ, i64_w, i32_w]
    rfl
   refine one_ (i := 7) (N := some 10) #[true, true, true, true, true, true, true, true, false, false, false, false, false, false, false, false, false, false, false] rfl rfl (one_of HT_.out (by kernel_rfl)) (by decide) (fun K hK => ?_)
   refine goes_ Try.func71 (by kernel_rfl) rfl #[.int .i64 a0_2, .int .i64 1, .int .i64 4] (by rfl) rfl rfl (by (try simp only [List.map_toArray, List.map_cons, List.map_nil]); first | done | rfl | (simp only [List.length_drop, List.length_take]; rfl)) ?_
   with_reducible refine (impl_within.calls a0_2 1 4 false _ A4.out).mono ?_
   rintro e w' ⟨rfl, ⟨nd, rfl⟩⟩
   refine ⟨_, rfl, ?_⟩
   refine hK.out _ _ ⟨(blk_cell BK522.out 0).trans rfl, (blk_cell BK522.out 1).trans rfl, (blk_cell BK522.out 2).trans rfl, (blk_cell BK522.out 3).trans rfl⟩ (fun hHeld => ?_)
   clear hK K
   refine norm_ (a' := ?_) ?_ ?_
   rotate_left
   ·show Act.put _ (some 10) _ = _
    simp only [Act.put, List.setIfInBounds_toArray, List.set_cons_zero, List.set_cons_succ, i64_w, i32_w]
    rfl
   refine pure_ (i := 8) (N := some 11) (v := ?_) (a' := ?_) #[true, true, true, true, true, true, true, true, true, false, false, false, false, false, false, false, false, false, false] rfl rfl (any_of HT_.out (by kernel_rfl)) (fun _ _ _ h => h) (Or.inl ⟨by rfl, ?_⟩) ?_ ?_
   rotate_left
   ·intro w'
    go_simp
    with_reducible rfl
   rotate_left
   ·simp only [Act.put, List.setIfInBounds_toArray, List.set_cons_zero, List.set_cons_succ, i64_w, i32_w]
    rfl
   refine pure_ (i := 9) (N := some 12) (v := ?_) (a' := ?_) #[true, true, true, true, true, true, true, true, true, true, false, false, false, false, false, false, false, false, false] rfl rfl (any_of HT_.out (by kernel_rfl)) (fun _ _ _ h => h) (Or.inl ⟨by rfl, ?_⟩) ?_ ?_
   rotate_left
   ·intro w'
    go_simp
    with_reducible rfl
   rotate_left
   ·simp only [Act.put, List.setIfInBounds_toArray, List.set_cons_zero, List.set_cons_succ, i64_w, i32_w]
    rfl
   refine pure_ (i := 10) (N := some 13) (v := ?_) (a' := ?_) #[true, true, true, true, true, true, true, true, true, true, true, false, false, false, false, false, false, false, false] rfl rfl (any_of HT_.out (by kernel_rfl)) (fun _ _ _ h => h) (Or.inl ⟨by rfl, ?_⟩) ?_ ?_
   rotate_left
   ·intro w'
    go_simp
    with_reducible rfl
   rotate_left
   ·simp only [Act.put, List.setIfInBounds_toArray, List.set_cons_zero, List.set_cons_succ, i64_w, i32_w]
    rfl
   refine pure_ (i := 11) (N := some 14) (v := undef) (a' := ?_) #[true, true, true, true, true, true, true, true, true, true, true, true, false, false, false, false, false, false, false] rfl rfl (any_of HT_.out (by kernel_rfl)) (fun _ _ _ h => h) (Or.inr ⟨by rfl, rfl⟩) ?_ ?_
   rotate_left
   ·simp only [Act.put, List.setIfInBounds_toArray, List.set_cons_zero, List.set_cons_succ, i64_w, i32_w]
    rfl
   refine pure_ (i := 12) (N := some 15) (v := undef) (a' := ?_) #[true, true, true, true, true, true, true, true, true, true, true, true, true, false, false, false, false, false, false] rfl rfl (any_of HT_.out (by kernel_rfl)) (fun _ _ _ h => h) (Or.inr ⟨by rfl, rfl⟩) ?_ ?_
   rotate_left
   ·simp only [Act.put, List.setIfInBounds_toArray, List.set_cons_zero, List.set_cons_succ, i64_w, i32_w]
    rfl
   refine pure_ (i := 13) (N := some 16) (v := undef) (a' := ?_) #[true, true, true, true, true, true, true, true, true, true, true, true, true, true, false, false, false, false, false] rfl rfl (any_of HT_.out (by kernel_rfl)) (fun _ _ _ h => h) (Or.inr ⟨by rfl, rfl⟩) ?_ ?_
   rotate_left
   ·simp only [Act.put, List.setIfInBounds_toArray, List.set_cons_zero, List.set_cons_succ, i64_w, i32_w]
    rfl
   refine pure_ (i := 14) (N := some 17) (v := undef) (a' := ?_) #[true, true, true, true, true, true, true, true, true, true, true, true, true, true, true, false, false, false, false] rfl rfl (any_of HT_.out (by kernel_rfl)) (fun _ _ _ h => h) (Or.inr ⟨by rfl, rfl⟩) ?_ ?_
   rotate_left
   ·simp only [Act.put, List.setIfInBounds_toArray, List.set_cons_zero, List.set_cons_succ, i64_w, i32_w]
    rfl
   refine pure_ (i := 15) (N := some 18) (v := undef) (a' := ?_) #[true, true, true, true, true, true, true, true, true, true, true, true, true, true, true, true, false, false, false] rfl rfl (any_of HT_.out (by kernel_rfl)) (fun _ _ _ h => h) (Or.inr ⟨by rfl, rfl⟩) ?_ ?_
   rotate_left
   ·simp only [Act.put, List.setIfInBounds_toArray, List.set_cons_zero, List.set_cons_succ, i64_w, i32_w]
    rfl
   refine pure_ (i := 16) (N := some 19) (v := undef) (a' := ?_) #[true, true, true, true, true, true, true, true, true, true, true, true, true, true, true, true, true, false, false] rfl rfl (any_of HT_.out (by kernel_rfl)) (fun _ _ _ h => h) (Or.inr ⟨by rfl, rfl⟩) ?_ ?_
   rotate_left
   ·simp only [Act.put, List.setIfInBounds_toArray, List.set_cons_zero, List.set_cons_succ, i64_w, i32_w]
    rfl
   refine pure_ (i := 17) (N := some 20) (v := undef) (a' := ?_) #[true, true, true, true, true, true, true, true, true, true, true, true, true, true, true, true, true, true, false] rfl rfl (any_of HT_.out (by kernel_rfl)) (fun _ _ _ h => h) (Or.inr ⟨by rfl, rfl⟩) ?_ ?_
   rotate_left
   ·simp only [Act.put, List.setIfInBounds_toArray, List.set_cons_zero, List.set_cons_succ, i64_w, i32_w]
    rfl
   refine pure_ (i := 18) (N := some 21) (v := ?_) (a' := ?_) #[true, true, true, true, true, true, true, true, true, true, true, true, true, true, true, true, true, true, true] rfl rfl (any_of HT_.out (by kernel_rfl)) (fun _ _ _ h => h) (Or.inl ⟨by rfl, ?_⟩) ?_ ?_
   rotate_left
   ·intro w'
    go_simp
    with_reducible rfl
   rotate_left
   ·simp only [Act.put, List.setIfInBounds_toArray, List.set_cons_zero, List.set_cons_succ, i64_w, i32_w]
    rfl
   refine done_ (done_of HT_.out (by kernel_rfl)) ?_
   try go_wp2
   go_ret
   exact ⟨by first | rfl | (simp [errW_none, errW_some] <;> rfl) | (simp [*, errW_none, errW_some] <;> rfl), by repeat (first | (with_reducible first | exact HB.out | apply below_alloc | apply pw_below_drewN | apply below_drew1 | refine below_set ?_ GE522.out) | exact HB.out)⟩
 ·replace c3 := Bool.eq_false_iff.mpr c3
  subst c3
  have H1 : (some false) = some r := by rw [if_neg (show ¬ (false = true) by decide)] at H; exact H
  clear H
  have H := H1
  clear H1
  obtain rfl := Option.some.inj H
  go_enter Try.func35, Try.ntmps35
  try go_wp2_with (first | ((with_reducible refine gate_dst (N := 1) rfl ?_); (try (refine gate_guard (by rfl) ?_; dsimp only)); refine box_event ?hg (N := 1) ?hd (cs := #[.int .i64 a0_0, .slice A0_1 l0_1.length c0_1, .int .i64 a0_2, .slice A0_3 l0_3.length c0_3]) (t := 46) ?hr ?_; (case hd => rfl); (case hg => rfl); (case hr => first | (go_simp; done) | (go_simp; rfl)); intro gb522 hg w22 hbox hb; have n0_ := Aside0.mk (below_step (by repeat (first | (with_reducible first | exact HB.out | apply below_alloc | apply pw_below_drewN | apply below_drew1) | exact HB.out)) hb); have n1_ := Aside0.mk (hbox); have n2_ := Aside0.mk ((by rw [hg]; exact (below_size (by repeat (first | (with_reducible first | exact HB.out | apply below_alloc | apply pw_below_drewN | apply below_drew1) | exact HB.out))) : w.heap.size ≤ gb522)); have n3_ := Aside0.mk ((by rw [hg]; exact (below_size (by repeat (first | (with_reducible first | exact HB.out | apply below_alloc | apply pw_below_drewN | apply below_drew1) | exact HB.out))) : w.heap.size ≤ gb522)); clear HB; have HB := n0_; have BK522 := n1_; have GW522 := n2_; have GE522 := n3_; clear n0_ n1_ n2_ n3_; clear hb hbox hg))
  have n0_ := Aside0.mk (blk_drew BK522.out)
  have n1_ := Aside0.mk (below_drew1 HB.out)
  clear BK522
  clear HB
  have BK522 := n0_
  have HB := n1_
  clear n0_ n1_
  refine start_ (n := 19) (S := fun w' => w'.cell? ⟨gb522, 0, none⟩ = some (.int .i64 a0_0) ∧ w'.cell? ⟨gb522, 1, none⟩ = some (.slice A0_1 l0_1.length c0_1) ∧ w'.cell? ⟨gb522, 2, none⟩ = some (.int .i64 a0_2) ∧ w'.cell? ⟨gb522, 3, none⟩ = some (.slice A0_3 l0_3.length c0_3)) (ds := []) #[false, false, false, false, false, false, false, false, false, false, false, false, false, false, false, false, false, false, false] (by kernel_rfl) rfl rfl ⟨(blk_cell BK522.out 0).trans rfl, (blk_cell BK522.out 1).trans rfl, (blk_cell BK522.out 2).trans rfl, (blk_cell BK522.out 3).trans rfl⟩ (fun hHeld => ?_); refine with_tabW impl_IsCover.tab1 impl_IsCover.bits1 (fun HT_ HW_ => ?_)
  generalize w22.drew = w23 at BK522 HB hHeld ⊢
  refine pure_ (i := 0) (N := some 3) (v := ?_) (a' := ?_) #[true, false, false, false, false, false, false, false, false, false, false, false, false, false, false, false, false, false, false] rfl rfl (any_of HT_.out (by kernel_rfl)) (fun _ _ _ h => h) (Or.inl ⟨by rfl, ?_⟩) ?_ ?_
  rotate_left
  ·intro w'
   go_simp
   with_reducible rfl
  rotate_left
  ·simp only [Act.put, List.setIfInBounds_toArray, List.set_cons_zero, List.set_cons_succ, i64_w, i32_w]
   rfl
  refine take_ (i := 1) (N := some 4) (v := ?_) (a' := ?_) #[true, true, false, false, false, false, false, false, false, false, false, false, false, false, false, false, false, false, false] rfl rfl (take_ofW HT_.out HW_.out (by kernel_rfl)) (fun _ _ _ h => h) (Or.inl ⟨by rfl, ?_⟩) hHeld ?_ ?_
  rotate_left
  ·rintro w' ⟨s0, s1, s2, s3⟩
   go_simp
   with_reducible rfl
  rotate_left
  ·simp only [Act.put, List.setIfInBounds_toArray, List.set_cons_zero, List.set_cons_succ, i64_w, i32_w]
   rfl
  refine one_ (i := 2) (N := some 5) #[true, true, true, false, false, false, false, false, false, false, false, false, false, false, false, false, false, false, false] rfl rfl (one_of HT_.out (by kernel_rfl)) (by decide) (fun K hK => ?_)
  refine goes_ Try.func58 (by kernel_rfl) rfl #[.agg #[.int .i64 a0_0, .slice A0_1 l0_1.length c0_1]] (by rfl) rfl rfl (by (try simp only [List.map_toArray, List.map_cons, List.map_nil]); first | done | rfl | (simp only [List.length_drop, List.length_take]; rfl)) ?_
  with_reducible refine (impl_IsGraph.calls k a0_0 _ _ l0_1 false _ ?side1 ?side2 A2.out).mono ?_
  (case side1 => repeat (first | exact (Kd.C_below HR0_1.out HB.out) | (with_reducible refine Kd.C_alloc ?_ _) | (with_reducible refine Kd.C_drewN ?_ _) | (with_reducible refine Kd.C_drew ?_)))
  (case side2 => exact HC0_1.out)
  rintro e w24 ⟨rfl, hb⟩
  refine ⟨_, rfl, ?_⟩
  have n0_ := Aside0.mk (blk_below (g := gb522) (o := .cells #[.int .i64 a0_0, .slice A0_1 l0_1.length c0_1, .int .i64 a0_2, .slice A0_3 l0_3.length c0_3] 46 (0, 0)) (by (with_reducible repeat (first | refine blk_drewN ?_ _ | refine blk_drew ?_ | refine blk_alloc ?_ _)); exact BK522.out) hb)
  have n1_ := Aside0.mk (below_step (by repeat (first | (with_reducible first | exact HB.out | apply below_alloc | apply pw_below_drewN | apply below_drew1 | refine below_set ?_ GE522.out) | exact HB.out)) hb)
  clear BK522
  clear HB
  have BK522 := n0_
  have HB := n1_
  clear n0_ n1_
  (try clear hb)
  (try clear hb2)
  (try clear hk)
  (try clear hi)
  refine hK.out _ _ ⟨(blk_cell BK522.out 0).trans rfl, (blk_cell BK522.out 1).trans rfl, (blk_cell BK522.out 2).trans rfl, (blk_cell BK522.out 3).trans rfl⟩ (fun hHeld => ?_)
  clear hK K
  refine norm_ (a' := ?_) ?_ ?_
  rotate_left
  ·show Act.put _ (some 5) _ = _
   simp only [Act.put, List.setIfInBounds_toArray, List.set_cons_zero, List.set_cons_succ, i64_w, i32_w]
   rfl
  refine pure_ (i := 3) (N := some 6) (v := ?_) (a' := ?_) #[true, true, true, true, false, false, false, false, false, false, false, false, false, false, false, false, false, false, false] rfl rfl (any_of HT_.out (by kernel_rfl)) (fun _ _ _ h => h) (Or.inl ⟨by rfl, ?_⟩) ?_ ?_
  rotate_left
  ·intro w'
   go_simp
   with_reducible rfl
  rotate_left
  ·simp only [Act.put, List.setIfInBounds_toArray, List.set_cons_zero, List.set_cons_succ, i64_w, i32_w]
   rfl
  refine pure_ (i := 4) (N := some 7) (v := ?_) (a' := ?_) #[true, true, true, true, true, false, false, false, false, false, false, false, false, false, false, false, false, false, false] rfl rfl (any_of HT_.out (by kernel_rfl)) (fun _ _ _ h => h) (Or.inl ⟨by rfl, ?_⟩) ?_ ?_
  rotate_left
  ·intro w'
   go_simp
   with_reducible rfl
  rotate_left
  ·simp only [Act.put, List.setIfInBounds_toArray, List.set_cons_zero, List.set_cons_succ, i64_w, i32_w]
   rfl
  refine pure_ (i := 5) (N := some 8) (v := undef) (a' := ?_) #[true, true, true, true, true, true, false, false, false, false, false, false, false, false, false, false, false, false, false] rfl rfl (any_of HT_.out (by kernel_rfl)) (fun _ _ _ h => h) (Or.inr ⟨by rfl, rfl⟩) ?_ ?_
  rotate_left
  ·simp only [Act.put, List.setIfInBounds_toArray, List.set_cons_zero, List.set_cons_succ, i64_w, i32_w]
   rfl
  refine pure_ (i := 6) (N := some 9) (v := undef) (a' := ?_) #[true, true, true, true, true, true, true, false, false, false, false, false, false, false, false, false, false, false, false] rfl rfl (any_of HT_.out (by kernel_rfl)) (fun _ _ _ h => h) (Or.inr ⟨by rfl, rfl⟩) ?_ ?_
  rotate_left
  ·simp only [Act.put, List.setIfInBounds_toArray, List.set_cons_zero, List.set_cons_succ, i64_w, i32_w]
   rfl
  refine pure_ (i := 7) (N := some 10) (v := undef) (a' := ?_) #[true, true, true, true, true, true, true, true, false, false, false, false, false, false, false, false, false, false, false] rfl rfl (any_of HT_.out (by kernel_rfl)) (fun _ _ _ h => h) (Or.inr ⟨by rfl, rfl⟩) ?_ ?_
  rotate_left
  ·simp only [Act.put, List.setIfInBounds_toArray, List.set_cons_zero, List.set_cons_succ, i64_w, i32_w]
   rfl
  refine pure_ (i := 8) (N := some 11) (v := undef) (a' := ?_) #[true, true, true, true, true, true, true, true, true, false, false, false, false, false, false, false, false, false, false] rfl rfl (any_of HT_.out (by kernel_rfl)) (fun _ _ _ h => h) (Or.inr ⟨by rfl, rfl⟩) ?_ ?_
  rotate_left
  ·simp only [Act.put, List.setIfInBounds_toArray, List.set_cons_zero, List.set_cons_succ, i64_w, i32_w]
   rfl
  refine pure_ (i := 9) (N := some 12) (v := ?_) (a' := ?_) #[true, true, true, true, true, true, true, true, true, true, false, false, false, false, false, false, false, false, false] rfl rfl (any_of HT_.out (by kernel_rfl)) (fun _ _ _ h => h) (Or.inl ⟨by rfl, ?_⟩) ?_ ?_
  rotate_left
  ·intro w'
   go_simp
   with_reducible rfl
  rotate_left
  ·simp only [Act.put, List.setIfInBounds_toArray, List.set_cons_zero, List.set_cons_succ, i64_w, i32_w]
   rfl
  refine pure_ (i := 10) (N := some 13) (v := ?_) (a' := ?_) #[true, true, true, true, true, true, true, true, true, true, true, false, false, false, false, false, false, false, false] rfl rfl (any_of HT_.out (by kernel_rfl)) (fun _ _ _ h => h) (Or.inl ⟨by rfl, ?_⟩) ?_ ?_
  rotate_left
  ·intro w'
   go_simp
   with_reducible rfl
  rotate_left
  ·simp only [Act.put, List.setIfInBounds_toArray, List.set_cons_zero, List.set_cons_succ, i64_w, i32_w]
   rfl
  refine pure_ (i := 11) (N := some 14) (v := undef) (a' := ?_) #[true, true, true, true, true, true, true, true, true, true, true, true, false, false, false, false, false, false, false] rfl rfl (any_of HT_.out (by kernel_rfl)) (fun _ _ _ h => h) (Or.inr ⟨by rfl, rfl⟩) ?_ ?_
  rotate_left
  ·simp only [Act.put, List.setIfInBounds_toArray, List.set_cons_zero, List.set_cons_succ, i64_w, i32_w]
   rfl
  refine pure_ (i := 12) (N := some 15) (v := undef) (a' := ?_) #[true, true, true, true, true, true, true, true, true, true, true, true, true, false, false, false, false, false, false] rfl rfl (any_of HT_.out (by kernel_rfl)) (fun _ _ _ h => h) (Or.inr ⟨by rfl, rfl⟩) ?_ ?_
  rotate_left
  ·simp only [Act.put, List.setIfInBounds_toArray, List.set_cons_zero, List.set_cons_succ, i64_w, i32_w]
   rfl
  refine pure_ (i := 13) (N := some 16) (v := undef) (a' := ?_) #[true, true, true, true, true, true, true, true, true, true, true, true, true, true, false, false, false, false, false] rfl rfl (any_of HT_.out (by kernel_rfl)) (fun _ _ _ h => h) (Or.inr ⟨by rfl, rfl⟩) ?_ ?_
  rotate_left
  ·simp only [Act.put, List.setIfInBounds_toArray, List.set_cons_zero, List.set_cons_succ, i64_w, i32_w]
   rfl
  refine pure_ (i := 14) (N := some 17) (v := undef) (a' := ?_) #[true, true, true, true, true, true, true, true, true, true, true, true, true, true, true, false, false, false, false] rfl rfl (any_of HT_.out (by kernel_rfl)) (fun _ _ _ h => h) (Or.inr ⟨by rfl, rfl⟩) ?_ ?_
  rotate_left
  ·simp only [Act.put, List.setIfInBounds_toArray, List.set_cons_zero, List.set_cons_succ, i64_w, i32_w]
   rfl
  refine pure_ (i := 15) (N := some 18) (v := undef) (a' := ?_) #[true, true, true, true, true, true, true, true, true, true, true, true, true, true, true, true, false, false, false] rfl rfl (any_of HT_.out (by kernel_rfl)) (fun _ _ _ h => h) (Or.inr ⟨by rfl, rfl⟩) ?_ ?_
  rotate_left
  ·simp only [Act.put, List.setIfInBounds_toArray, List.set_cons_zero, List.set_cons_succ, i64_w, i32_w]
   rfl
  refine pure_ (i := 16) (N := some 19) (v := undef) (a' := ?_) #[true, true, true, true, true, true, true, true, true, true, true, true, true, true, true, true, true, false, false] rfl rfl (any_of HT_.out (by kernel_rfl)) (fun _ _ _ h => h) (Or.inr ⟨by rfl, rfl⟩) ?_ ?_
  rotate_left
  ·simp only [Act.put, List.setIfInBounds_toArray, List.set_cons_zero, List.set_cons_succ, i64_w, i32_w]
   rfl
  refine pure_ (i := 17) (N := some 20) (v := undef) (a' := ?_) #[true, true, true, true, true, true, true, true, true, true, true, true, true, true, true, true, true, true, false] rfl rfl (any_of HT_.out (by kernel_rfl)) (fun _ _ _ h => h) (Or.inr ⟨by rfl, rfl⟩) ?_ ?_
  rotate_left
  ·simp only [Act.put, List.setIfInBounds_toArray, List.set_cons_zero, List.set_cons_succ, i64_w, i32_w]
   rfl
  refine pure_ (i := 18) (N := some 21) (v := ?_) (a' := ?_) #[true, true, true, true, true, true, true, true, true, true, true, true, true, true, true, true, true, true, true] rfl rfl (any_of HT_.out (by kernel_rfl)) (fun _ _ _ h => h) (Or.inl ⟨by rfl, ?_⟩) ?_ ?_
  rotate_left
  ·intro w'
   go_simp
   with_reducible rfl
  rotate_left
  ·simp only [Act.put, List.setIfInBounds_toArray, List.set_cons_zero, List.set_cons_succ, i64_w, i32_w]
   rfl
  refine done_ (done_of HT_.out (by kernel_rfl)) ?_
  try go_wp2
  go_ret
  exact ⟨by first | rfl | (simp [errW_none, errW_some] <;> rfl) | (simp [*, errW_none, errW_some] <;> rfl), by repeat (first | (with_reducible first | exact HB.out | apply below_alloc | apply pw_below_drewN | apply below_drew1 | refine below_set ?_ GE522.out) | exact HB.out)⟩

/-! ### laws_eqCover: function 36 -/
def laws_eqCover.f (k : Nat) (a0_0 : Int) (l0_1 : List (List Int)) (a0_2 : Int) (l0_3 : List (List Int)) (a1_0 : Int) (l1_1 : List (List Int)) (a1_2 : Int) (l1_3 : List (List Int)) : Option (Bool) := (laws_eqGraph.f k a0_0 l0_1 a1_0 l1_1).bind fun t529 => (if t529 = true then (if a0_2 = a1_2 then ((laws_eqInt64SS.f k l0_3 l1_3).bind fun t530 => (if t530 = true then (some true) else (some false))) else (some false)) else (some false))
theorem laws_eqCover.mono : ∀ a0 a1 a2 a3 a4 a5 a6 a7 k, LeO (laws_eqCover.f k a0 a1 a2 a3 a4 a5 a6 a7) (laws_eqCover.f (k + 1) a0 a1 a2 a3 a4 a5 a6 a7) := by
 intro a0 a1 a2 a3 a4 a5 a6 a7 k
 unfold laws_eqCover.f
 repeat' first
   | (with_reducible exact laws_eqGraph.mono _ _ _ _ _)
   | (with_reducible exact laws_eqInt64SS.mono _ _ _)
   | (with_reducible exact LeO.refl _)
   | (with_reducible exact LeO.none _)
   | (with_reducible refine LeO.ite ?_ ?_)
   | (with_reducible refine LeO.bind ?_ (fun _ => ?_))
   | exact laws_eqGraph.mono _ _ _ _ _
   | exact laws_eqInt64SS.mono _ _ _
   | exact LeO.none _
   | refine LeO.ite ?_ ?_
   | refine LeO.bind ?_ (fun _ => ?_)
set_option maxHeartbeats 8000000 in
set_option maxRecDepth 100000 in
theorem laws_eqCover.calls (k : Nat) (a0_0 : Int) (A0_1 : Option Addr) (c0_1 : Nat) (l0_1 : List (List Int)) (a0_2 : Int) (A0_3 : Option Addr) (c0_3 : Nat) (l0_3 : List (List Int)) (a1_0 : Int) (A1_1 : Option Addr) (c1_1 : Nat) (l1_1 : List (List Int)) (a1_2 : Int) (A1_3 : Option Addr) (c1_3 : Nat) (l1_3 : List (List Int)) (r : Bool) (w : World) (hr0_1 : Kd.C (Kd.slice 2 (Kd.int .i64)) w A0_1 l0_1.length l0_1) (hc0_1 : l0_1.length ≤ c0_1) (hr0_3 : Kd.C (Kd.slice 2 (Kd.int .i64)) w A0_3 l0_3.length l0_3) (hc0_3 : l0_3.length ≤ c0_3) (hr1_1 : Kd.C (Kd.slice 2 (Kd.int .i64)) w A1_1 l1_1.length l1_1) (hc1_1 : l1_1.length ≤ c1_1) (hr1_3 : Kd.C (Kd.slice 2 (Kd.int .i64)) w A1_3 l1_3.length l1_3) (hc1_3 : l1_3.length ≤ c1_3) (h : laws_eqCover.f k a0_0 l0_1 a0_2 l0_3 a1_0 l1_1 a1_2 l1_3 = some r) :
  Calls Try.prog 36 #[.agg #[.int .i64 a0_0, .slice A0_1 l0_1.length c0_1, .int .i64 a0_2, .slice A0_3 l0_3.length c0_3], .agg #[.int .i64 a1_0, .slice A1_1 l1_1.length c1_1, .int .i64 a1_2, .slice A1_3 l1_3.length c1_3]] w fun e w' => e = .returned (.bool r) ∧ Below w.heap.size w w' := by
 have hu46 := Try.underlying46
 have hu29 := Try.underlying29
 have HR0_1 := Aside0.mk hr0_1
 have HC0_1 := Aside0.mk hc0_1
 clear hr0_1 hc0_1
 have HR0_3 := Aside0.mk hr0_3
 have HC0_3 := Aside0.mk hc0_3
 clear hr0_3 hc0_3
 have HR1_1 := Aside0.mk hr1_1
 have HC1_1 := Aside0.mk hc1_1
 clear hr1_1 hc1_1
 have HR1_3 := Aside0.mk hr1_3
 have HC1_3 := Aside0.mk hc1_3
 clear hr1_3 hc1_3
 have HB := Aside0.mk (Below.refl w.heap.size w)
 have H : ((laws_eqGraph.f k a0_0 l0_1 a1_0 l1_1).bind fun t529 => (if t529 = true then (if a0_2 = a1_2 then ((laws_eqInt64SS.f k l0_3 l1_3).bind fun t530 => (if t530 = true then (some true) else (some false))) else (some false)) else (some false))) = some r := h
 clear h
 replace H := Option.bind_eq_some_iff.mp H
 obtain ⟨t529, A30, H⟩ := H
 replace H : (if t529 = true then (if a0_2 = a1_2 then ((laws_eqInt64SS.f k l0_3 l1_3).bind fun t530 => (if t530 = true then (some true) else (some false))) else (some false)) else (some false)) = some r := H
 have A3 := Aside0.mk A30
 clear A30
 by_cases c4 : t529 = true
 ·subst c4
  have H1 : (if a0_2 = a1_2 then ((laws_eqInt64SS.f k l0_3 l1_3).bind fun t530 => (if t530 = true then (some true) else (some false))) else (some false)) = some r := by rw [if_pos rfl] at H; exact H
  clear H
  have H := H1
  clear H1
  by_cases c5 : a0_2 = a1_2
  ·rw [if_pos c5] at H
   have c5b0 : (a0_2 == a1_2) = true := beq_iff_eq.mpr c5
   have c5b1 : (a0_2 != a1_2) = false := bne_eq_false_iff_eq.mpr c5
   clear c5
   replace H := Option.bind_eq_some_iff.mp H
   obtain ⟨t530, A60, H⟩ := H
   replace H : (if t530 = true then (some true) else (some false)) = some r := H
   have A6 := Aside0.mk A60
   clear A60
   by_cases c7 : t530 = true
   ·subst c7
    have H1 : (some true) = some r := by rw [if_pos rfl] at H; exact H
    clear H
    have H := H1
    clear H1
    obtain rfl := Option.some.inj H
    go_enter Try.func36, Try.ntmps36
    go_wp2_with (first | ((with_reducible refine gate_dst (N := 2) rfl ?_); refine box_event ?hg (N := 2) ?hd (cs := #[.int .i64 a0_0, .slice A0_1 l0_1.length c0_1, .int .i64 a0_2, .slice A0_3 l0_3.length c0_3]) (t := 46) ?hr ?_; (case hd => rfl); (case hg => rfl); (case hr => first | (go_simp; done) | (go_simp; rfl)); intro gb527 hg w8 hbox hb; have n0_ := Aside0.mk (below_step (by repeat (first | (with_reducible first | exact HB.out | apply below_alloc | apply pw_below_drewN | apply below_drew1) | exact HB.out)) hb); have n1_ := Aside0.mk (hbox); have n2_ := Aside0.mk ((by rw [hg]; exact (below_size (by repeat (first | (with_reducible first | exact HB.out | apply below_alloc | apply pw_below_drewN | apply below_drew1) | exact HB.out))) : w.heap.size ≤ gb527)); have n3_ := Aside0.mk ((by rw [hg]; exact (below_size (by repeat (first | (with_reducible first | exact HB.out | apply below_alloc | apply pw_below_drewN | apply below_drew1) | exact HB.out))) : w.heap.size ≤ gb527)); clear HB; have HB := n0_; have BK527 := n1_; have GW527 := n2_; have GE527 := n3_; clear n0_ n1_ n2_ n3_; clear hb hbox hg) | ((with_reducible refine gate_dst (N := 3) rfl ?_); refine box_event ?hg (N := 3) ?hd (cs := #[.int .i64 a1_0, .slice A1_1 l1_1.length c1_1, .int .i64 a1_2, .slice A1_3 l1_3.length c1_3]) (t := 46) ?hr ?_; (case hd => rfl); (case hg => rfl); (case hr => first | (go_simp; done) | (go_simp; rfl)); intro gb528 hg w9 hbox hb; have n0_ := Aside0.mk (blk_below (g := gb527) (o := .cells #[.int .i64 a0_0, .slice A0_1 l0_1.length c0_1, .int .i64 a0_2, .slice A0_3 l0_3.length c0_3] 46 (0, 0)) (by (with_reducible repeat (first | refine blk_drewN ?_ _ | refine blk_drew ?_ | refine blk_alloc ?_ _)); exact BK527.out) hb); have n1_ := Aside0.mk (below_step (by repeat (first | (with_reducible first | exact HB.out | apply below_alloc | apply pw_below_drewN | apply below_drew1 | refine below_set ?_ GE527.out) | exact HB.out)) hb); have n2_ := Aside0.mk (hbox); have n3_ := Aside0.mk ((by rw [hg]; exact (below_size (by repeat (first | (with_reducible first | exact HB.out | apply below_alloc | apply pw_below_drewN | apply below_drew1 | refine below_set ?_ GE527.out) | exact HB.out))) : w.heap.size ≤ gb528)); have n4_ := Aside0.mk ((by rw [hg]; exact (below_size (by repeat (first | (with_reducible first | exact HB.out | apply below_alloc | apply pw_below_drewN | apply below_drew1 | refine below_set ?_ GE527.out) | exact HB.out))) : w.heap.size ≤ gb528)); have n5_ := Aside0.mk ((by rw [hg]; exact Nat.ne_of_lt (blk_lt (g := gb527) (o := .cells #[.int .i64 a0_0, .slice A0_1 l0_1.length c0_1, .int .i64 a0_2, .slice A0_3 l0_3.length c0_3] 46 (0, 0)) (by (with_reducible repeat (first | refine blk_drewN ?_ _ | refine blk_drew ?_ | refine blk_alloc ?_ _)); exact BK527.out)) : gb527 ≠ gb528)); have n6_ := Aside0.mk ((by rw [hg]; exact Nat.ne_of_gt (blk_lt (g := gb527) (o := .cells #[.int .i64 a0_0, .slice A0_1 l0_1.length c0_1, .int .i64 a0_2, .slice A0_3 l0_3.length c0_3] 46 (0, 0)) (by (with_reducible repeat (first | refine blk_drewN ?_ _ | refine blk_drew ?_ | refine blk_alloc ?_ _)); exact BK527.out)) : gb528 ≠ gb527)); clear BK527; clear HB; have BK527 := n0_; have HB := n1_; have BK528 := n2_; have GW528 := n3_; have GE528 := n4_; have NB527_528 := n5_; have NB528_527 := n6_; clear n0_ n1_ n2_ n3_ n4_ n5_ n6_; clear hb hbox hg; have hnb10 := NB527_528.out; have hnc10 := NB528_527.out; have hcz11_0 : w9.cell? ⟨gb527, 0, none⟩ = some (.int .i64 a0_0) := (blk_cell BK527.out 0).trans rfl; have hcz11_1 : w9.cell? ⟨gb527, 1, none⟩ = some (.slice A0_1 l0_1.length c0_1) := (blk_cell BK527.out 1).trans rfl; have hcz11_2 : w9.cell? ⟨gb527, 2, none⟩ = some (.int .i64 a0_2) := (blk_cell BK527.out 2).trans rfl; have hcz11_3 : w9.cell? ⟨gb527, 3, none⟩ = some (.slice A0_3 l0_3.length c0_3) := (blk_cell BK527.out 3).trans rfl; have hfz11_0 := blk_frozen BK527.out 0; have hfz11_1 := blk_frozen BK527.out 1; have hfz11_2 := blk_frozen BK527.out 2; have hfz11_3 := blk_frozen BK527.out 3; have hcz12_0 : w9.cell? ⟨gb528, 0, none⟩ = some (.int .i64 a1_0) := (blk_cell BK528.out 0).trans rfl; have hcz12_1 : w9.cell? ⟨gb528, 1, none⟩ = some (.slice A1_1 l1_1.length c1_1) := (blk_cell BK528.out 1).trans rfl; have hcz12_2 : w9.cell? ⟨gb528, 2, none⟩ = some (.int .i64 a1_2) := (blk_cell BK528.out 2).trans rfl; have hcz12_3 : w9.cell? ⟨gb528, 3, none⟩ = some (.slice A1_3 l1_3.length c1_3) := (blk_cell BK528.out 3).trans rfl; have hfz12_0 := blk_frozen BK528.out 0; have hfz12_1 := blk_frozen BK528.out 1; have hfz12_2 := blk_frozen BK528.out 2; have hfz12_3 := blk_frozen BK528.out 3) | ((with_reducible refine gate_callee (f := 20) rfl ?_); refine goesL_ (some 9) rfl rfl Try.func20 (by kernel_rfl) rfl #[.agg #[.int .i64 a0_0, .slice A0_1 l0_1.length c0_1], .agg #[.int .i64 a1_0, .slice A1_1 l1_1.length c1_1]] rfl (by (try simp only [List.map_toArray, List.map_cons, List.map_nil]); first | done | rfl | (simp only [List.length_drop, List.length_take]; rfl)) ?_; (with_reducible refine (laws_eqGraph.calls k a0_0 _ _ l0_1 a1_0 _ _ l1_1 true _ ?side1 ?side2 ?side3 ?side4 A3.out).mono ?_); (case side1 => repeat (first | exact (Kd.C_below HR0_1.out HB.out) | (with_reducible refine Kd.C_alloc ?_ _) | (with_reducible refine Kd.C_drewN ?_ _) | (with_reducible refine Kd.C_drew ?_))); (case side2 => exact HC0_1.out); (case side3 => repeat (first | exact (Kd.C_below HR1_1.out HB.out) | (with_reducible refine Kd.C_alloc ?_ _) | (with_reducible refine Kd.C_drewN ?_ _) | (with_reducible refine Kd.C_drew ?_))); (case side4 => exact HC1_1.out); rintro e w13 ⟨rfl, hb⟩; refine ⟨_, rfl, ?_⟩; have n0_ := Aside0.mk (blk_below (g := gb527) (o := .cells #[.int .i64 a0_0, .slice A0_1 l0_1.length c0_1, .int .i64 a0_2, .slice A0_3 l0_3.length c0_3] 46 (0, 0)) (by (with_reducible repeat (first | refine blk_drewN ?_ _ | refine blk_drew ?_ | refine blk_alloc ?_ _)); exact BK527.out) hb); have n1_ := Aside0.mk (blk_below (g := gb528) (o := .cells #[.int .i64 a1_0, .slice A1_1 l1_1.length c1_1, .int .i64 a1_2, .slice A1_3 l1_3.length c1_3] 46 (0, 0)) (by (with_reducible repeat (first | refine blk_drewN ?_ _ | refine blk_drew ?_ | refine blk_alloc ?_ _)); exact BK528.out) hb); have n2_ := Aside0.mk (below_step (by repeat (first | (with_reducible first | exact HB.out | apply below_alloc | apply pw_below_drewN | apply below_drew1 | refine below_set ?_ GE527.out | refine below_set ?_ GE528.out) | exact HB.out)) hb); clear BK527; clear BK528; clear HB; have BK527 := n0_; have BK528 := n1_; have HB := n2_; clear n0_ n1_ n2_; (try clear hb); (try clear hb2); (try clear hk); (try clear hi); have hcz14_0 : w13.cell? ⟨gb527, 0, none⟩ = some (.int .i64 a0_0) := (blk_cell BK527.out 0).trans rfl; have hcz14_1 : w13.cell? ⟨gb527, 1, none⟩ = some (.slice A0_1 l0_1.length c0_1) := (blk_cell BK527.out 1).trans rfl; have hcz14_2 : w13.cell? ⟨gb527, 2, none⟩ = some (.int .i64 a0_2) := (blk_cell BK527.out 2).trans rfl; have hcz14_3 : w13.cell? ⟨gb527, 3, none⟩ = some (.slice A0_3 l0_3.length c0_3) := (blk_cell BK527.out 3).trans rfl; have hfz14_0 := blk_frozen BK527.out 0; have hfz14_1 := blk_frozen BK527.out 1; have hfz14_2 := blk_frozen BK527.out 2; have hfz14_3 := blk_frozen BK527.out 3; have hcz15_0 : w13.cell? ⟨gb528, 0, none⟩ = some (.int .i64 a1_0) := (blk_cell BK528.out 0).trans rfl; have hcz15_1 : w13.cell? ⟨gb528, 1, none⟩ = some (.slice A1_1 l1_1.length c1_1) := (blk_cell BK528.out 1).trans rfl; have hcz15_2 : w13.cell? ⟨gb528, 2, none⟩ = some (.int .i64 a1_2) := (blk_cell BK528.out 2).trans rfl; have hcz15_3 : w13.cell? ⟨gb528, 3, none⟩ = some (.slice A1_3 l1_3.length c1_3) := (blk_cell BK528.out 3).trans rfl; have hfz15_0 := blk_frozen BK528.out 0; have hfz15_1 := blk_frozen BK528.out 1; have hfz15_2 := blk_frozen BK528.out 2; have hfz15_3 := blk_frozen BK528.out 3) | ((with_reducible refine gate_callee (f := 24) rfl ?_); refine goesL_ (some 20) rfl rfl Try.func24 (by kernel_rfl) rfl #[.slice A0_3 l0_3.length c0_3, .slice A1_3 l1_3.length c1_3] rfl (by (try simp only [List.map_toArray, List.map_cons, List.map_nil]); first | done | rfl | (simp only [List.length_drop, List.length_take]; rfl)) ?_; (with_reducible refine (laws_eqInt64SS.calls k _ _ l0_3 _ _ l1_3 true _ ?side1 ?side2 ?side3 ?side4 A6.out).mono ?_); (case side1 => repeat (first | exact (Kd.C_below HR0_3.out HB.out) | (with_reducible refine Kd.C_alloc ?_ _) | (with_reducible refine Kd.C_drewN ?_ _) | (with_reducible refine Kd.C_drew ?_))); (case side2 => exact HC0_3.out); (case side3 => repeat (first | exact (Kd.C_below HR1_3.out HB.out) | (with_reducible refine Kd.C_alloc ?_ _) | (with_reducible refine Kd.C_drewN ?_ _) | (with_reducible refine Kd.C_drew ?_))); (case side4 => exact HC1_3.out); rintro e w' ⟨rfl, ⟨nd, rfl⟩⟩; refine ⟨_, rfl, ?_⟩))
    go_ret
    exact ⟨by first | rfl | (simp [errW_none, errW_some] <;> rfl) | (simp [*, errW_none, errW_some] <;> rfl), by repeat (first | (with_reducible first | exact HB.out | apply below_alloc | apply pw_below_drewN | apply below_drew1 | refine below_set ?_ GE527.out | refine below_set ?_ GE528.out) | exact HB.out)⟩
   ·replace c7 := Bool.eq_false_iff.mpr c7
    subst c7
    have H1 : (some false) = some r := by rw [if_neg (show ¬ (false = true) by decide)] at H; exact H
    clear H
    have H := H1
    clear H1
    obtain rfl := Option.some.inj H
    go_enter Try.func36, Try.ntmps36
    go_wp2_with (first | ((with_reducible refine gate_dst (N := 2) rfl ?_); refine box_event ?hg (N := 2) ?hd (cs := #[.int .i64 a0_0, .slice A0_1 l0_1.length c0_1, .int .i64 a0_2, .slice A0_3 l0_3.length c0_3]) (t := 46) ?hr ?_; (case hd => rfl); (case hg => rfl); (case hr => first | (go_simp; done) | (go_simp; rfl)); intro gb527 hg w16 hbox hb; have n0_ := Aside0.mk (below_step (by repeat (first | (with_reducible first | exact HB.out | apply below_alloc | apply pw_below_drewN | apply below_drew1) | exact HB.out)) hb); have n1_ := Aside0.mk (hbox); have n2_ := Aside0.mk ((by rw [hg]; exact (below_size (by repeat (first | (with_reducible first | exact HB.out | apply below_alloc | apply pw_below_drewN | apply below_drew1) | exact HB.out))) : w.heap.size ≤ gb527)); have n3_ := Aside0.mk ((by rw [hg]; exact (below_size (by repeat (first | (with_reducible first | exact HB.out | apply below_alloc | apply pw_below_drewN | apply below_drew1) | exact HB.out))) : w.heap.size ≤ gb527)); clear HB; have HB := n0_; have BK527 := n1_; have GW527 := n2_; have GE527 := n3_; clear n0_ n1_ n2_ n3_; clear hb hbox hg) | ((with_reducible refine gate_dst (N := 3) rfl ?_); refine box_event ?hg (N := 3) ?hd (cs := #[.int .i64 a1_0, .slice A1_1 l1_1.length c1_1, .int .i64 a1_2, .slice A1_3 l1_3.length c1_3]) (t := 46) ?hr ?_; (case hd => rfl); (case hg => rfl); (case hr => first | (go_simp; done) | (go_simp; rfl)); intro gb528 hg w17 hbox hb; have n0_ := Aside0.mk (blk_below (g := gb527) (o := .cells #[.int .i64 a0_0, .slice A0_1 l0_1.length c0_1, .int .i64 a0_2, .slice A0_3 l0_3.length c0_3] 46 (0, 0)) (by (with_reducible repeat (first | refine blk_drewN ?_ _ | refine blk_drew ?_ | refine blk_alloc ?_ _)); exact BK527.out) hb); have n1_ := Aside0.mk (below_step (by repeat (first | (with_reducible first | exact HB.out | apply below_alloc | apply pw_below_drewN | apply below_drew1 | refine below_set ?_ GE527.out) | exact HB.out)) hb); have n2_ := Aside0.mk (hbox); have n3_ := Aside0.mk ((by rw [hg]; exact (below_size (by repeat (first | (with_reducible first | exact HB.out | apply below_alloc | apply pw_below_drewN | apply below_drew1 | refine below_set ?_ GE527.out) | exact HB.out))) : w.heap.size ≤ gb528)); have n4_ := Aside0.mk ((by rw [hg]; exact (below_size (by repeat (first | (with_reducible first | exact HB.out | apply below_alloc | apply pw_below_drewN | apply below_drew1 | refine below_set ?_ GE527.out) | exact HB.out))) : w.heap.size ≤ gb528)); have n5_ := Aside0.mk ((by rw [hg]; exact Nat.ne_of_lt (blk_lt (g := gb527) (o := .cells #[.int .i64 a0_0, .slice A0_1 l0_1.length c0_1, .int .i64 a0_2, .slice A0_3 l0_3.length c0_3] 46 (0, 0)) (by (with_reducible repeat (first | refine blk_drewN ?_ _ | refine blk_drew ?_ | refine blk_alloc ?_ _)); exact BK527.out)) : gb527 ≠ gb528)); have n6_ := Aside0.mk ((by rw [hg]; exact Nat.ne_of_gt (blk_lt (g := gb527) (o := .cells #[.int .i64 a0_0, .slice A0_1 l0_1.length c0_1, .int .i64 a0_2, .slice A0_3 l0_3.length c0_3] 46 (0, 0)) (by (with_reducible repeat (first | refine blk_drewN ?_ _ | refine blk_drew ?_ | refine blk_alloc ?_ _)); exact BK527.out)) : gb528 ≠ gb527)); clear BK527; clear HB; have BK527 := n0_; have HB := n1_; have BK528 := n2_; have GW528 := n3_; have GE528 := n4_; have NB527_528 := n5_; have NB528_527 := n6_; clear n0_ n1_ n2_ n3_ n4_ n5_ n6_; clear hb hbox hg; have hnb18 := NB527_528.out; have hnc18 := NB528_527.out; have hcz19_0 : w17.cell? ⟨gb527, 0, none⟩ = some (.int .i64 a0_0) := (blk_cell BK527.out 0).trans rfl; have hcz19_1 : w17.cell? ⟨gb527, 1, none⟩ = some (.slice A0_1 l0_1.length c0_1) := (blk_cell BK527.out 1).trans rfl; have hcz19_2 : w17.cell? ⟨gb527, 2, none⟩ = some (.int .i64 a0_2) := (blk_cell BK527.out 2).trans rfl; have hcz19_3 : w17.cell? ⟨gb527, 3, none⟩ = some (.slice A0_3 l0_3.length c0_3) := (blk_cell BK527.out 3).trans rfl; have hfz19_0 := blk_frozen BK527.out 0; have hfz19_1 := blk_frozen BK527.out 1; have hfz19_2 := blk_frozen BK527.out 2; have hfz19_3 := blk_frozen BK527.out 3; have hcz20_0 : w17.cell? ⟨gb528, 0, none⟩ = some (.int .i64 a1_0) := (blk_cell BK528.out 0).trans rfl; have hcz20_1 : w17.cell? ⟨gb528, 1, none⟩ = some (.slice A1_1 l1_1.length c1_1) := (blk_cell BK528.out 1).trans rfl; have hcz20_2 : w17.cell? ⟨gb528, 2, none⟩ = some (.int .i64 a1_2) := (blk_cell BK528.out 2).trans rfl; have hcz20_3 : w17.cell? ⟨gb528, 3, none⟩ = some (.slice A1_3 l1_3.length c1_3) := (blk_cell BK528.out 3).trans rfl; have hfz20_0 := blk_frozen BK528.out 0; have hfz20_1 := blk_frozen BK528.out 1; have hfz20_2 := blk_frozen BK528.out 2; have hfz20_3 := blk_frozen BK528.out 3) | ((with_reducible refine gate_callee (f := 20) rfl ?_); refine goesL_ (some 9) rfl rfl Try.func20 (by kernel_rfl) rfl #[.agg #[.int .i64 a0_0, .slice A0_1 l0_1.length c0_1], .agg #[.int .i64 a1_0, .slice A1_1 l1_1.length c1_1]] rfl (by (try simp only [List.map_toArray, List.map_cons, List.map_nil]); first | done | rfl | (simp only [List.length_drop, List.length_take]; rfl)) ?_; (with_reducible refine (laws_eqGraph.calls k a0_0 _ _ l0_1 a1_0 _ _ l1_1 true _ ?side1 ?side2 ?side3 ?side4 A3.out).mono ?_); (case side1 => repeat (first | exact (Kd.C_below HR0_1.out HB.out) | (with_reducible refine Kd.C_alloc ?_ _) | (with_reducible refine Kd.C_drewN ?_ _) | (with_reducible refine Kd.C_drew ?_))); (case side2 => exact HC0_1.out); (case side3 => repeat (first | exact (Kd.C_below HR1_1.out HB.out) | (with_reducible refine Kd.C_alloc ?_ _) | (with_reducible refine Kd.C_drewN ?_ _) | (with_reducible refine Kd.C_drew ?_))); (case side4 => exact HC1_1.out); rintro e w21 ⟨rfl, hb⟩; refine ⟨_, rfl, ?_⟩; have n0_ := Aside0.mk (blk_below (g := gb527) (o := .cells #[.int .i64 a0_0, .slice A0_1 l0_1.length c0_1, .int .i64 a0_2, .slice A0_3 l0_3.length c0_3] 46 (0, 0)) (by (with_reducible repeat (first | refine blk_drewN ?_ _ | refine blk_drew ?_ | refine blk_alloc ?_ _)); exact BK527.out) hb); have n1_ := Aside0.mk (blk_below (g := gb528) (o := .cells #[.int .i64 a1_0, .slice A1_1 l1_1.length c1_1, .int .i64 a1_2, .slice A1_3 l1_3.length c1_3] 46 (0, 0)) (by (with_reducible repeat (first | refine blk_drewN ?_ _ | refine blk_drew ?_ | refine blk_alloc ?_ _)); exact BK528.out) hb); have n2_ := Aside0.mk (below_step (by repeat (first | (with_reducible first | exact HB.out | apply below_alloc | apply pw_below_drewN | apply below_drew1 | refine below_set ?_ GE527.out | refine below_set ?_ GE528.out) | exact HB.out)) hb); clear BK527; clear BK528; clear HB; have BK527 := n0_; have BK528 := n1_; have HB := n2_; clear n0_ n1_ n2_; (try clear hb); (try clear hb2); (try clear hk); (try clear hi); have hcz22_0 : w21.cell? ⟨gb527, 0, none⟩ = some (.int .i64 a0_0) := (blk_cell BK527.out 0).trans rfl; have hcz22_1 : w21.cell? ⟨gb527, 1, none⟩ = some (.slice A0_1 l0_1.length c0_1) := (blk_cell BK527.out 1).trans rfl; have hcz22_2 : w21.cell? ⟨gb527, 2, none⟩ = some (.int .i64 a0_2) := (blk_cell BK527.out 2).trans rfl; have hcz22_3 : w21.cell? ⟨gb527, 3, none⟩ = some (.slice A0_3 l0_3.length c0_3) := (blk_cell BK527.out 3).trans rfl; have hfz22_0 := blk_frozen BK527.out 0; have hfz22_1 := blk_frozen BK527.out 1; have hfz22_2 := blk_frozen BK527.out 2; have hfz22_3 := blk_frozen BK527.out 3; have hcz23_0 : w21.cell? ⟨gb528, 0, none⟩ = some (.int .i64 a1_0) := (blk_cell BK528.out 0).trans rfl; have hcz23_1 : w21.cell? ⟨gb528, 1, none⟩ = some (.slice A1_1 l1_1.length c1_1) := (blk_cell BK528.out 1).trans rfl; have hcz23_2 : w21.cell? ⟨gb528, 2, none⟩ = some (.int .i64 a1_2) := (blk_cell BK528.out 2).trans rfl; have hcz23_3 : w21.cell? ⟨gb528, 3, none⟩ = some (.slice A1_3 l1_3.length c1_3) := (blk_cell BK528.out 3).trans rfl; have hfz23_0 := blk_frozen BK528.out 0; have hfz23_1 := blk_frozen BK528.out 1; have hfz23_2 := blk_frozen BK528.out 2; have hfz23_3 := blk_frozen BK528.out 3) | ((with_reducible refine gate_callee (f := 24) rfl ?_); refine goesL_ (some 20) rfl rfl Try.func24 (by kernel_rfl) rfl #[.slice A0_3 l0_3.length c0_3, .slice A1_3 l1_3.length c1_3] rfl (by (try simp only [List.map_toArray, List.map_cons, List.map_nil]); first | done | rfl | (simp only [List.length_drop, List.length_take]; rfl)) ?_; (with_reducible refine (laws_eqInt64SS.calls k _ _ l0_3 _ _ l1_3 false _ ?side1 ?side2 ?side3 ?side4 A6.out).mono ?_); (case side1 => repeat (first | exact (Kd.C_below HR0_3.out HB.out) | (with_reducible refine Kd.C_alloc ?_ _) | (with_reducible refine Kd.C_drewN ?_ _) | (with_reducible refine Kd.C_drew ?_))); (case side2 => exact HC0_3.out); (case side3 => repeat (first | exact (Kd.C_below HR1_3.out HB.out) | (with_reducible refine Kd.C_alloc ?_ _) | (with_reducible refine Kd.C_drewN ?_ _) | (with_reducible refine Kd.C_drew ?_))); (case side4 => exact HC1_3.out); rintro e w' ⟨rfl, ⟨nd, rfl⟩⟩; refine ⟨_, rfl, ?_⟩))
    go_ret
    exact ⟨by first | rfl | (simp [errW_none, errW_some] <;> rfl) | (simp [*, errW_none, errW_some] <;> rfl), by repeat (first | (with_reducible first | exact HB.out | apply below_alloc | apply pw_below_drewN | apply below_drew1 | refine below_set ?_ GE527.out | refine below_set ?_ GE528.out) | exact HB.out)⟩
  ·rw [if_neg c5] at H
   have c5b0 : (a0_2 == a1_2) = false := beq_eq_false_iff_ne.mpr c5
   have c5b1 : (a0_2 != a1_2) = true := bne_iff_ne.mpr c5
   obtain rfl := Option.some.inj H
   go_enter Try.func36, Try.ntmps36
   go_wp2_with (first | ((with_reducible refine gate_dst (N := 2) rfl ?_); refine box_event ?hg (N := 2) ?hd (cs := #[.int .i64 a0_0, .slice A0_1 l0_1.length c0_1, .int .i64 a0_2, .slice A0_3 l0_3.length c0_3]) (t := 46) ?hr ?_; (case hd => rfl); (case hg => rfl); (case hr => first | (go_simp; done) | (go_simp; rfl)); intro gb527 hg w24 hbox hb; have n0_ := Aside0.mk (below_step (by repeat (first | (with_reducible first | exact HB.out | apply below_alloc | apply pw_below_drewN | apply below_drew1) | exact HB.out)) hb); have n1_ := Aside0.mk (hbox); have n2_ := Aside0.mk ((by rw [hg]; exact (below_size (by repeat (first | (with_reducible first | exact HB.out | apply below_alloc | apply pw_below_drewN | apply below_drew1) | exact HB.out))) : w.heap.size ≤ gb527)); have n3_ := Aside0.mk ((by rw [hg]; exact (below_size (by repeat (first | (with_reducible first | exact HB.out | apply below_alloc | apply pw_below_drewN | apply below_drew1) | exact HB.out))) : w.heap.size ≤ gb527)); clear HB; have HB := n0_; have BK527 := n1_; have GW527 := n2_; have GE527 := n3_; clear n0_ n1_ n2_ n3_; clear hb hbox hg) | ((with_reducible refine gate_dst (N := 3) rfl ?_); refine box_event ?hg (N := 3) ?hd (cs := #[.int .i64 a1_0, .slice A1_1 l1_1.length c1_1, .int .i64 a1_2, .slice A1_3 l1_3.length c1_3]) (t := 46) ?hr ?_; (case hd => rfl); (case hg => rfl); (case hr => first | (go_simp; done) | (go_simp; rfl)); intro gb528 hg w25 hbox hb; have n0_ := Aside0.mk (blk_below (g := gb527) (o := .cells #[.int .i64 a0_0, .slice A0_1 l0_1.length c0_1, .int .i64 a0_2, .slice A0_3 l0_3.length c0_3] 46 (0, 0)) (by (with_reducible repeat (first | refine blk_drewN ?_ _ | refine blk_drew ?_ | refine blk_alloc ?_ _)); exact BK527.out) hb); have n1_ := Aside0.mk (below_step (by repeat (first | (with_reducible first | exact HB.out | apply below_alloc | apply pw_below_drewN | apply below_drew1 | refine below_set ?_ GE527.out) | exact HB.out)) hb); have n2_ := Aside0.mk (hbox); have n3_ := Aside0.mk ((by rw [hg]; exact (below_size (by repeat (first | (with_reducible first | exact HB.out | apply below_alloc | apply pw_below_drewN | apply below_drew1 | refine below_set ?_ GE527.out) | exact HB.out))) : w.heap.size ≤ gb528)); have n4_ := Aside0.mk ((by rw [hg]; exact (below_size (by repeat (first | (with_reducible first | exact HB.out | apply below_alloc | apply pw_below_drewN | apply below_drew1 | refine below_set ?_ GE527.out) | exact HB.out))) : w.heap.size ≤ gb528)); have n5_ := Aside0.mk ((by rw [hg]; exact Nat.ne_of_lt (blk_lt (g := gb527) (o := .cells #[.int .i64 a0_0, .slice A0_1 l0_1.length c0_1, .int .i64 a0_2, .slice A0_3 l0_3.length c0_3] 46 (0, 0)) (by (with_reducible repeat (first | refine blk_drewN ?_ _ | refine blk_drew ?_ | refine blk_alloc ?_ _)); exact BK527.out)) : gb527 ≠ gb528)); have n6_ := Aside0.mk ((by rw [hg]; exact Nat.ne_of_gt (blk_lt (g := gb527) (o := .cells #[.int .i64 a0_0, .slice A0_1 l0_1.length c0_1, .int .i64 a0_2, .slice A0_3 l0_3.length c0_3] 46 (0, 0)) (by (with_reducible repeat (first | refine blk_drewN ?_ _ | refine blk_drew ?_ | refine blk_alloc ?_ _)); exact BK527.out)) : gb528 ≠ gb527)); clear BK527; clear HB; have BK527 := n0_; have HB := n1_; have BK528 := n2_; have GW528 := n3_; have GE528 := n4_; have NB527_528 := n5_; have NB528_527 := n6_; clear n0_ n1_ n2_ n3_ n4_ n5_ n6_; clear hb hbox hg; have hnb26 := NB527_528.out; have hnc26 := NB528_527.out; have hcz27_0 : w25.cell? ⟨gb527, 0, none⟩ = some (.int .i64 a0_0) := (blk_cell BK527.out 0).trans rfl; have hcz27_1 : w25.cell? ⟨gb527, 1, none⟩ = some (.slice A0_1 l0_1.length c0_1) := (blk_cell BK527.out 1).trans rfl; have hcz27_2 : w25.cell? ⟨gb527, 2, none⟩ = some (.int .i64 a0_2) := (blk_cell BK527.out 2).trans rfl; have hcz27_3 : w25.cell? ⟨gb527, 3, none⟩ = some (.slice A0_3 l0_3.length c0_3) := (blk_cell BK527.out 3).trans rfl; have hfz27_0 := blk_frozen BK527.out 0; have hfz27_1 := blk_frozen BK527.out 1; have hfz27_2 := blk_frozen BK527.out 2; have hfz27_3 := blk_frozen BK527.out 3; have hcz28_0 : w25.cell? ⟨gb528, 0, none⟩ = some (.int .i64 a1_0) := (blk_cell BK528.out 0).trans rfl; have hcz28_1 : w25.cell? ⟨gb528, 1, none⟩ = some (.slice A1_1 l1_1.length c1_1) := (blk_cell BK528.out 1).trans rfl; have hcz28_2 : w25.cell? ⟨gb528, 2, none⟩ = some (.int .i64 a1_2) := (blk_cell BK528.out 2).trans rfl; have hcz28_3 : w25.cell? ⟨gb528, 3, none⟩ = some (.slice A1_3 l1_3.length c1_3) := (blk_cell BK528.out 3).trans rfl; have hfz28_0 := blk_frozen BK528.out 0; have hfz28_1 := blk_frozen BK528.out 1; have hfz28_2 := blk_frozen BK528.out 2; have hfz28_3 := blk_frozen BK528.out 3) | ((with_reducible refine gate_callee (f := 20) rfl ?_); refine goesL_ (some 9) rfl rfl Try.func20 (by kernel_rfl) rfl #[.agg #[.int .i64 a0_0, .slice A0_1 l0_1.length c0_1], .agg #[.int .i64 a1_0, .slice A1_1 l1_1.length c1_1]] rfl (by (try simp only [List.map_toArray, List.map_cons, List.map_nil]); first | done | rfl | (simp only [List.length_drop, List.length_take]; rfl)) ?_; (with_reducible refine (laws_eqGraph.calls k a0_0 _ _ l0_1 a1_0 _ _ l1_1 true _ ?side1 ?side2 ?side3 ?side4 A3.out).mono ?_); (case side1 => repeat (first | exact (Kd.C_below HR0_1.out HB.out) | (with_reducible refine Kd.C_alloc ?_ _) | (with_reducible refine Kd.C_drewN ?_ _) | (with_reducible refine Kd.C_drew ?_))); (case side2 => exact HC0_1.out); (case side3 => repeat (first | exact (Kd.C_below HR1_1.out HB.out) | (with_reducible refine Kd.C_alloc ?_ _) | (with_reducible refine Kd.C_drewN ?_ _) | (with_reducible refine Kd.C_drew ?_))); (case side4 => exact HC1_1.out); rintro e w29 ⟨rfl, hb⟩; refine ⟨_, rfl, ?_⟩; have n0_ := Aside0.mk (blk_below (g := gb527) (o := .cells #[.int .i64 a0_0, .slice A0_1 l0_1.length c0_1, .int .i64 a0_2, .slice A0_3 l0_3.length c0_3] 46 (0, 0)) (by (with_reducible repeat (first | refine blk_drewN ?_ _ | refine blk_drew ?_ | refine blk_alloc ?_ _)); exact BK527.out) hb); have n1_ := Aside0.mk (blk_below (g := gb528) (o := .cells #[.int .i64 a1_0, .slice A1_1 l1_1.length c1_1, .int .i64 a1_2, .slice A1_3 l1_3.length c1_3] 46 (0, 0)) (by (with_reducible repeat (first | refine blk_drewN ?_ _ | refine blk_drew ?_ | refine blk_alloc ?_ _)); exact BK528.out) hb); have n2_ := Aside0.mk (below_step (by repeat (first | (with_reducible first | exact HB.out | apply below_alloc | apply pw_below_drewN | apply below_drew1 | refine below_set ?_ GE527.out | refine below_set ?_ GE528.out) | exact HB.out)) hb); clear BK527; clear BK528; clear HB; have BK527 := n0_; have BK528 := n1_; have HB := n2_; clear n0_ n1_ n2_; (try clear hb); (try clear hb2); (try clear hk); (try clear hi); have hcz30_0 : w29.cell? ⟨gb527, 0, none⟩ = some (.int .i64 a0_0) := (blk_cell BK527.out 0).trans rfl; have hcz30_1 : w29.cell? ⟨gb527, 1, none⟩ = some (.slice A0_1 l0_1.length c0_1) := (blk_cell BK527.out 1).trans rfl; have hcz30_2 : w29.cell? ⟨gb527, 2, none⟩ = some (.int .i64 a0_2) := (blk_cell BK527.out 2).trans rfl; have hcz30_3 : w29.cell? ⟨gb527, 3, none⟩ = some (.slice A0_3 l0_3.length c0_3) := (blk_cell BK527.out 3).trans rfl; have hfz30_0 := blk_frozen BK527.out 0; have hfz30_1 := blk_frozen BK527.out 1; have hfz30_2 := blk_frozen BK527.out 2; have hfz30_3 := blk_frozen BK527.out 3; have hcz31_0 : w29.cell? ⟨gb528, 0, none⟩ = some (.int .i64 a1_0) := (blk_cell BK528.out 0).trans rfl; have hcz31_1 : w29.cell? ⟨gb528, 1, none⟩ = some (.slice A1_1 l1_1.length c1_1) := (blk_cell BK528.out 1).trans rfl; have hcz31_2 : w29.cell? ⟨gb528, 2, none⟩ = some (.int .i64 a1_2) := (blk_cell BK528.out 2).trans rfl; have hcz31_3 : w29.cell? ⟨gb528, 3, none⟩ = some (.slice A1_3 l1_3.length c1_3) := (blk_cell BK528.out 3).trans rfl; have hfz31_0 := blk_frozen BK528.out 0; have hfz31_1 := blk_frozen BK528.out 1; have hfz31_2 := blk_frozen BK528.out 2; have hfz31_3 := blk_frozen BK528.out 3))
   go_ret
   exact ⟨by first | rfl | (simp [errW_none, errW_some] <;> rfl) | (simp [*, errW_none, errW_some] <;> rfl), by repeat (first | (with_reducible first | exact HB.out | apply below_alloc | apply pw_below_drewN | apply below_drew1 | refine below_set ?_ GE527.out | refine below_set ?_ GE528.out) | exact HB.out)⟩
 ·replace c4 := Bool.eq_false_iff.mpr c4
  subst c4
  have H1 : (some false) = some r := by rw [if_neg (show ¬ (false = true) by decide)] at H; exact H
  clear H
  have H := H1
  clear H1
  obtain rfl := Option.some.inj H
  go_enter Try.func36, Try.ntmps36
  go_wp2_with (first | ((with_reducible refine gate_dst (N := 2) rfl ?_); refine box_event ?hg (N := 2) ?hd (cs := #[.int .i64 a0_0, .slice A0_1 l0_1.length c0_1, .int .i64 a0_2, .slice A0_3 l0_3.length c0_3]) (t := 46) ?hr ?_; (case hd => rfl); (case hg => rfl); (case hr => first | (go_simp; done) | (go_simp; rfl)); intro gb527 hg w32 hbox hb; have n0_ := Aside0.mk (below_step (by repeat (first | (with_reducible first | exact HB.out | apply below_alloc | apply pw_below_drewN | apply below_drew1) | exact HB.out)) hb); have n1_ := Aside0.mk (hbox); have n2_ := Aside0.mk ((by rw [hg]; exact (below_size (by repeat (first | (with_reducible first | exact HB.out | apply below_alloc | apply pw_below_drewN | apply below_drew1) | exact HB.out))) : w.heap.size ≤ gb527)); have n3_ := Aside0.mk ((by rw [hg]; exact (below_size (by repeat (first | (with_reducible first | exact HB.out | apply below_alloc | apply pw_below_drewN | apply below_drew1) | exact HB.out))) : w.heap.size ≤ gb527)); clear HB; have HB := n0_; have BK527 := n1_; have GW527 := n2_; have GE527 := n3_; clear n0_ n1_ n2_ n3_; clear hb hbox hg) | ((with_reducible refine gate_dst (N := 3) rfl ?_); refine box_event ?hg (N := 3) ?hd (cs := #[.int .i64 a1_0, .slice A1_1 l1_1.length c1_1, .int .i64 a1_2, .slice A1_3 l1_3.length c1_3]) (t := 46) ?hr ?_; (case hd => rfl); (case hg => rfl); (case hr => first | (go_simp; done) | (go_simp; rfl)); intro gb528 hg w33 hbox hb; have n0_ := Aside0.mk (blk_below (g := gb527) (o := .cells #[.int .i64 a0_0, .slice A0_1 l0_1.length c0_1, .int .i64 a0_2, .slice A0_3 l0_3.length c0_3] 46 (0, 0)) (by (with_reducible repeat (first | refine blk_drewN ?_ _ | refine blk_drew ?_ | refine blk_alloc ?_ _)); exact BK527.out) hb); have n1_ := Aside0.mk (below_step (by repeat (first | (with_reducible first | exact HB.out | apply below_alloc | apply pw_below_drewN | apply below_drew1 | refine below_set ?_ GE527.out) | exact HB.out)) hb); have n2_ := Aside0.mk (hbox); have n3_ := Aside0.mk ((by rw [hg]; exact (below_size (by repeat (first | (with_reducible first | exact HB.out | apply below_alloc | apply pw_below_drewN | apply below_drew1 | refine below_set ?_ GE527.out) | exact HB.out))) : w.heap.size ≤ gb528)); have n4_ := Aside0.mk ((by rw [hg]; exact (below_size (by repeat (first | (with_reducible first | exact HB.out | apply below_alloc | apply pw_below_drewN | apply below_drew1 | refine below_set ?_ GE527.out) | exact HB.out))) : w.heap.size ≤ gb528)); have n5_ := Aside0.mk ((by rw [hg]; exact Nat.ne_of_lt (blk_lt (g := gb527) (o := .cells #[.int .i64 a0_0, .slice A0_1 l0_1.length c0_1, .int .i64 a0_2, .slice A0_3 l0_3.length c0_3] 46 (0, 0)) (by (with_reducible repeat (first | refine blk_drewN ?_ _ | refine blk_drew ?_ | refine blk_alloc ?_ _)); exact BK527.out)) : gb527 ≠ gb528)); have n6_ := Aside0.mk ((by rw [hg]; exact Nat.ne_of_gt (blk_lt (g := gb527) (o := .cells #[.int .i64 a0_0, .slice A0_1 l0_1.length c0_1, .int .i64 a0_2, .slice A0_3 l0_3.length c0_3] 46 (0, 0)) (by (with_reducible repeat (first | refine blk_drewN ?_ _ | refine blk_drew ?_ | refine blk_alloc ?_ _)); exact BK527.out)) : gb528 ≠ gb527)); clear BK527; clear HB; have BK527 := n0_; have HB := n1_; have BK528 := n2_; have GW528 := n3_; have GE528 := n4_; have NB527_528 := n5_; have NB528_527 := n6_; clear n0_ n1_ n2_ n3_ n4_ n5_ n6_; clear hb hbox hg; have hnb34 := NB527_528.out; have hnc34 := NB528_527.out; have hcz35_0 : w33.cell? ⟨gb527, 0, none⟩ = some (.int .i64 a0_0) := (blk_cell BK527.out 0).trans rfl; have hcz35_1 : w33.cell? ⟨gb527, 1, none⟩ = some (.slice A0_1 l0_1.length c0_1) := (blk_cell BK527.out 1).trans rfl; have hcz35_2 : w33.cell? ⟨gb527, 2, none⟩ = some (.int .i64 a0_2) := (blk_cell BK527.out 2).trans rfl; have hcz35_3 : w33.cell? ⟨gb527, 3, none⟩ = some (.slice A0_3 l0_3.length c0_3) := (blk_cell BK527.out 3).trans rfl; have hfz35_0 := blk_frozen BK527.out 0; have hfz35_1 := blk_frozen BK527.out 1; have hfz35_2 := blk_frozen BK527.out 2; have hfz35_3 := blk_frozen BK527.out 3; have hcz36_0 : w33.cell? ⟨gb528, 0, none⟩ = some (.int .i64 a1_0) := (blk_cell BK528.out 0).trans rfl; have hcz36_1 : w33.cell? ⟨gb528, 1, none⟩ = some (.slice A1_1 l1_1.length c1_1) := (blk_cell BK528.out 1).trans rfl; have hcz36_2 : w33.cell? ⟨gb528, 2, none⟩ = some (.int .i64 a1_2) := (blk_cell BK528.out 2).trans rfl; have hcz36_3 : w33.cell? ⟨gb528, 3, none⟩ = some (.slice A1_3 l1_3.length c1_3) := (blk_cell BK528.out 3).trans rfl; have hfz36_0 := blk_frozen BK528.out 0; have hfz36_1 := blk_frozen BK528.out 1; have hfz36_2 := blk_frozen BK528.out 2; have hfz36_3 := blk_frozen BK528.out 3) | ((with_reducible refine gate_callee (f := 20) rfl ?_); refine goesL_ (some 9) rfl rfl Try.func20 (by kernel_rfl) rfl #[.agg #[.int .i64 a0_0, .slice A0_1 l0_1.length c0_1], .agg #[.int .i64 a1_0, .slice A1_1 l1_1.length c1_1]] rfl (by (try simp only [List.map_toArray, List.map_cons, List.map_nil]); first | done | rfl | (simp only [List.length_drop, List.length_take]; rfl)) ?_; (with_reducible refine (laws_eqGraph.calls k a0_0 _ _ l0_1 a1_0 _ _ l1_1 false _ ?side1 ?side2 ?side3 ?side4 A3.out).mono ?_); (case side1 => repeat (first | exact (Kd.C_below HR0_1.out HB.out) | (with_reducible refine Kd.C_alloc ?_ _) | (with_reducible refine Kd.C_drewN ?_ _) | (with_reducible refine Kd.C_drew ?_))); (case side2 => exact HC0_1.out); (case side3 => repeat (first | exact (Kd.C_below HR1_1.out HB.out) | (with_reducible refine Kd.C_alloc ?_ _) | (with_reducible refine Kd.C_drewN ?_ _) | (with_reducible refine Kd.C_drew ?_))); (case side4 => exact HC1_1.out); rintro e w37 ⟨rfl, hb⟩; refine ⟨_, rfl, ?_⟩; have n0_ := Aside0.mk (blk_below (g := gb527) (o := .cells #[.int .i64 a0_0, .slice A0_1 l0_1.length c0_1, .int .i64 a0_2, .slice A0_3 l0_3.length c0_3] 46 (0, 0)) (by (with_reducible repeat (first | refine blk_drewN ?_ _ | refine blk_drew ?_ | refine blk_alloc ?_ _)); exact BK527.out) hb); have n1_ := Aside0.mk (blk_below (g := gb528) (o := .cells #[.int .i64 a1_0, .slice A1_1 l1_1.length c1_1, .int .i64 a1_2, .slice A1_3 l1_3.length c1_3] 46 (0, 0)) (by (with_reducible repeat (first | refine blk_drewN ?_ _ | refine blk_drew ?_ | refine blk_alloc ?_ _)); exact BK528.out) hb); have n2_ := Aside0.mk (below_step (by repeat (first | (with_reducible first | exact HB.out | apply below_alloc | apply pw_below_drewN | apply below_drew1 | refine below_set ?_ GE527.out | refine below_set ?_ GE528.out) | exact HB.out)) hb); clear BK527; clear BK528; clear HB; have BK527 := n0_; have BK528 := n1_; have HB := n2_; clear n0_ n1_ n2_; (try clear hb); (try clear hb2); (try clear hk); (try clear hi)))
  go_ret
  exact ⟨by first | rfl | (simp [errW_none, errW_some] <;> rfl) | (simp [*, errW_none, errW_some] <;> rfl), by repeat (first | (with_reducible first | exact HB.out | apply below_alloc | apply pw_below_drewN | apply below_drew1 | refine below_set ?_ GE527.out | refine below_set ?_ GE528.out) | exact HB.out)⟩

/-! ### spec_ProjectVertex: function 41 -/
def spec_ProjectVertex.f (k : Nat) (a0_0 : Int) (l0_1 : List (List Int)) (a0_2 : Int) (l0_3 : List (List Int)) (a1 : Int) : Option (Int × Int) := (spec_l04Is.f k a0_0 l0_1 a0_2 l0_3).bind fun t735 => (if t735 = true then ((spec_l01In.f a1 0 (wrap64 ((wrap64 (a0_0 * a0_2)) - 1))).bind fun t736 => (if t736 = true then (if a0_2 = 0 then (none) else (some (wrap64 (Int.tdiv a1 a0_2), 0))) else (some (0, 2)))) else (some (0, 1)))
theorem spec_ProjectVertex.mono : ∀ a0 a1 a2 a3 a4 k, LeO (spec_ProjectVertex.f k a0 a1 a2 a3 a4) (spec_ProjectVertex.f (k + 1) a0 a1 a2 a3 a4) := by
 intro a0 a1 a2 a3 a4 k
 unfold spec_ProjectVertex.f
 repeat' first
   | (with_reducible exact spec_l04Is.mono _ _ _ _ _)
   | (with_reducible exact LeO.refl _)
   | (with_reducible exact LeO.none _)
   | (with_reducible refine LeO.ite ?_ ?_)
   | (with_reducible refine LeO.bind ?_ (fun _ => ?_))
   | exact spec_l04Is.mono _ _ _ _ _
   | exact LeO.none _
   | refine LeO.ite ?_ ?_
   | refine LeO.bind ?_ (fun _ => ?_)
set_option maxHeartbeats 8000000 in
set_option maxRecDepth 100000 in
theorem spec_ProjectVertex.calls (k : Nat) (a0_0 : Int) (A0_1 : Option Addr) (c0_1 : Nat) (l0_1 : List (List Int)) (a0_2 : Int) (A0_3 : Option Addr) (c0_3 : Nat) (l0_3 : List (List Int)) (a1 : Int) (r1 : Int) (r2 : Int) (w : World) (hr0_1 : Kd.C (Kd.slice 2 (Kd.int .i64)) w A0_1 l0_1.length l0_1) (hc0_1 : l0_1.length ≤ c0_1) (hr0_3 : Kd.C (Kd.slice 2 (Kd.int .i64)) w A0_3 l0_3.length l0_3) (hc0_3 : l0_3.length ≤ c0_3) (h : spec_ProjectVertex.f k a0_0 l0_1 a0_2 l0_3 a1 = some (r1, r2)) :
  Calls Try.prog 41 #[.agg #[.int .i64 a0_0, .slice A0_1 l0_1.length c0_1, .int .i64 a0_2, .slice A0_3 l0_3.length c0_3], .int .i64 a1] w fun e w' => e = .returned (.tuple #[.int .i64 r1, .int .i64 r2]) ∧ Below w.heap.size w w' := by
 have hu46 := Try.underlying46
 have HR0_1 := Aside0.mk hr0_1
 have HC0_1 := Aside0.mk hc0_1
 clear hr0_1 hc0_1
 have HR0_3 := Aside0.mk hr0_3
 have HC0_3 := Aside0.mk hc0_3
 clear hr0_3 hc0_3
 have HB := Aside0.mk (Below.refl w.heap.size w)
 have H : ((spec_l04Is.f k a0_0 l0_1 a0_2 l0_3).bind fun t735 => (if t735 = true then ((spec_l01In.f a1 0 (wrap64 ((wrap64 (a0_0 * a0_2)) - 1))).bind fun t736 => (if t736 = true then (if a0_2 = 0 then (none) else (some (wrap64 (Int.tdiv a1 a0_2), 0))) else (some (0, 2)))) else (some (0, 1)))) = some (r1, r2) := h
 clear h
 replace H := Option.bind_eq_some_iff.mp H
 obtain ⟨t735, A30, H⟩ := H
 replace H : (if t735 = true then ((spec_l01In.f a1 0 (wrap64 ((wrap64 (a0_0 * a0_2)) - 1))).bind fun t736 => (if t736 = true then (if a0_2 = 0 then (none) else (some (wrap64 (Int.tdiv a1 a0_2), 0))) else (some (0, 2)))) else (some (0, 1))) = some (r1, r2) := H
 have A3 := Aside0.mk A30
 clear A30
 by_cases c4 : t735 = true
 ·subst c4
  have H1 : ((spec_l01In.f a1 0 (wrap64 ((wrap64 (a0_0 * a0_2)) - 1))).bind fun t736 => (if t736 = true then (if a0_2 = 0 then (none) else (some (wrap64 (Int.tdiv a1 a0_2), 0))) else (some (0, 2)))) = some (r1, r2) := by rw [if_pos rfl] at H; exact H
  clear H
  have H := H1
  clear H1
  replace H := Option.bind_eq_some_iff.mp H
  obtain ⟨t736, A50, H⟩ := H
  replace H : (if t736 = true then (if a0_2 = 0 then (none) else (some (wrap64 (Int.tdiv a1 a0_2), 0))) else (some (0, 2))) = some (r1, r2) := H
  have A5 := Aside0.mk A50
  clear A50
  by_cases c6 : t736 = true
  ·subst c6
   have H1 : (if a0_2 = 0 then (none) else (some (wrap64 (Int.tdiv a1 a0_2), 0))) = some (r1, r2) := by rw [if_pos rfl] at H; exact H
   clear H
   have H := H1
   clear H1
   by_cases c7 : a0_2 = 0
   ·rw [if_pos c7] at H
    exact absurd H (by simp)
   ·rw [if_neg c7] at H
    have c7b0 : (a0_2 == 0) = false := beq_eq_false_iff_ne.mpr c7
    have c7b1 : (a0_2 != 0) = true := bne_iff_ne.mpr c7
    simp only [Option.some.injEq, Prod.mk.injEq] at H
    obtain ⟨rfl, rfl⟩ := H
    go_enter Try.func41, Try.ntmps41
    go_wp2_with (first | ((with_reducible refine gate_dst (N := 2) rfl ?_); refine box_event ?hg (N := 2) ?hd (cs := #[.int .i64 a0_0, .slice A0_1 l0_1.length c0_1, .int .i64 a0_2, .slice A0_3 l0_3.length c0_3]) (t := 46) ?hr ?_; (case hd => rfl); (case hg => rfl); (case hr => first | (go_simp; done) | (go_simp; rfl)); intro gb734 hg w8 hbox hb; have n0_ := Aside0.mk (below_step (by repeat (first | (with_reducible first | exact HB.out | apply below_alloc | apply pw_below_drewN | apply below_drew1) | exact HB.out)) hb); have n1_ := Aside0.mk (hbox); have n2_ := Aside0.mk ((by rw [hg]; exact (below_size (by repeat (first | (with_reducible first | exact HB.out | apply below_alloc | apply pw_below_drewN | apply below_drew1) | exact HB.out))) : w.heap.size ≤ gb734)); have n3_ := Aside0.mk ((by rw [hg]; exact (below_size (by repeat (first | (with_reducible first | exact HB.out | apply below_alloc | apply pw_below_drewN | apply below_drew1) | exact HB.out))) : w.heap.size ≤ gb734)); clear HB; have HB := n0_; have BK734 := n1_; have GW734 := n2_; have GE734 := n3_; clear n0_ n1_ n2_ n3_; clear hb hbox hg; have hcz9_0 : w8.cell? ⟨gb734, 0, none⟩ = some (.int .i64 a0_0) := (blk_cell BK734.out 0).trans rfl; have hcz9_1 : w8.cell? ⟨gb734, 1, none⟩ = some (.slice A0_1 l0_1.length c0_1) := (blk_cell BK734.out 1).trans rfl; have hcz9_2 : w8.cell? ⟨gb734, 2, none⟩ = some (.int .i64 a0_2) := (blk_cell BK734.out 2).trans rfl; have hcz9_3 : w8.cell? ⟨gb734, 3, none⟩ = some (.slice A0_3 l0_3.length c0_3) := (blk_cell BK734.out 3).trans rfl; have hfz9_0 := blk_frozen BK734.out 0; have hfz9_1 := blk_frozen BK734.out 1; have hfz9_2 := blk_frozen BK734.out 2; have hfz9_3 := blk_frozen BK734.out 3) | ((with_reducible refine gate_callee (f := 70) rfl ?_); refine goesL_ (some 8) rfl rfl Try.func70 (by kernel_rfl) rfl #[.agg #[.int .i64 a0_0, .slice A0_1 l0_1.length c0_1, .int .i64 a0_2, .slice A0_3 l0_3.length c0_3]] rfl (by (try simp only [List.map_toArray, List.map_cons, List.map_nil]); first | done | rfl | (simp only [List.length_drop, List.length_take]; rfl)) ?_; (with_reducible refine (spec_l04Is.calls k a0_0 _ _ l0_1 a0_2 _ _ l0_3 true _ ?side1 ?side2 ?side3 ?side4 A3.out).mono ?_); (case side1 => repeat (first | exact (Kd.C_below HR0_1.out HB.out) | (with_reducible refine Kd.C_alloc ?_ _) | (with_reducible refine Kd.C_drewN ?_ _) | (with_reducible refine Kd.C_drew ?_))); (case side2 => exact HC0_1.out); (case side3 => repeat (first | exact (Kd.C_below HR0_3.out HB.out) | (with_reducible refine Kd.C_alloc ?_ _) | (with_reducible refine Kd.C_drewN ?_ _) | (with_reducible refine Kd.C_drew ?_))); (case side4 => exact HC0_3.out); rintro e w10 ⟨rfl, hb⟩; refine ⟨_, rfl, ?_⟩; have n0_ := Aside0.mk (blk_below (g := gb734) (o := .cells #[.int .i64 a0_0, .slice A0_1 l0_1.length c0_1, .int .i64 a0_2, .slice A0_3 l0_3.length c0_3] 46 (0, 0)) (by (with_reducible repeat (first | refine blk_drewN ?_ _ | refine blk_drew ?_ | refine blk_alloc ?_ _)); exact BK734.out) hb); have n1_ := Aside0.mk (below_step (by repeat (first | (with_reducible first | exact HB.out | apply below_alloc | apply pw_below_drewN | apply below_drew1 | refine below_set ?_ GE734.out) | exact HB.out)) hb); clear BK734; clear HB; have BK734 := n0_; have HB := n1_; clear n0_ n1_; (try clear hb); (try clear hb2); (try clear hk); (try clear hi); have hcz11_0 : w10.cell? ⟨gb734, 0, none⟩ = some (.int .i64 a0_0) := (blk_cell BK734.out 0).trans rfl; have hcz11_1 : w10.cell? ⟨gb734, 1, none⟩ = some (.slice A0_1 l0_1.length c0_1) := (blk_cell BK734.out 1).trans rfl; have hcz11_2 : w10.cell? ⟨gb734, 2, none⟩ = some (.int .i64 a0_2) := (blk_cell BK734.out 2).trans rfl; have hcz11_3 : w10.cell? ⟨gb734, 3, none⟩ = some (.slice A0_3 l0_3.length c0_3) := (blk_cell BK734.out 3).trans rfl; have hfz11_0 := blk_frozen BK734.out 0; have hfz11_1 := blk_frozen BK734.out 1; have hfz11_2 := blk_frozen BK734.out 2; have hfz11_3 := blk_frozen BK734.out 3) | ((with_reducible refine gate_callee (f := 82) rfl ?_); refine goesL_ (some 19) rfl rfl Try.func82 (by kernel_rfl) rfl #[.int .i64 a1, .int .i64 0, .int .i64 (wrap64 ((wrap64 (a0_0 * a0_2)) - 1))] rfl (by (try simp only [List.map_toArray, List.map_cons, List.map_nil]); first | done | rfl | (simp only [List.length_drop, List.length_take]; rfl)) ?_; (with_reducible refine (spec_l01In.calls a1 0 (wrap64 ((wrap64 (a0_0 * a0_2)) - 1)) true _ A5.out).mono ?_); rintro e w' ⟨rfl, ⟨nd, rfl⟩⟩; refine ⟨_, rfl, ?_⟩))
    go_ret2
    exact ⟨by first | rfl | (simp [errW_none, errW_some] <;> rfl) | (simp [*, errW_none, errW_some] <;> rfl), by repeat (first | (with_reducible first | exact HB.out | apply below_alloc | apply pw_below_drewN | apply below_drew1 | refine below_set ?_ GE734.out) | exact HB.out)⟩
  ·replace c6 := Bool.eq_false_iff.mpr c6
   subst c6
   have H1 : (some (0, 2)) = some (r1, r2) := by rw [if_neg (show ¬ (false = true) by decide)] at H; exact H
   clear H
   have H := H1
   clear H1
   simp only [Option.some.injEq, Prod.mk.injEq] at H
   obtain ⟨rfl, rfl⟩ := H
   go_enter Try.func41, Try.ntmps41
   go_wp2_with (first | ((with_reducible refine gate_dst (N := 2) rfl ?_); refine box_event ?hg (N := 2) ?hd (cs := #[.int .i64 a0_0, .slice A0_1 l0_1.length c0_1, .int .i64 a0_2, .slice A0_3 l0_3.length c0_3]) (t := 46) ?hr ?_; (case hd => rfl); (case hg => rfl); (case hr => first | (go_simp; done) | (go_simp; rfl)); intro gb734 hg w12 hbox hb; have n0_ := Aside0.mk (below_step (by repeat (first | (with_reducible first | exact HB.out | apply below_alloc | apply pw_below_drewN | apply below_drew1) | exact HB.out)) hb); have n1_ := Aside0.mk (hbox); have n2_ := Aside0.mk ((by rw [hg]; exact (below_size (by repeat (first | (with_reducible first | exact HB.out | apply below_alloc | apply pw_below_drewN | apply below_drew1) | exact HB.out))) : w.heap.size ≤ gb734)); have n3_ := Aside0.mk ((by rw [hg]; exact (below_size (by repeat (first | (with_reducible first | exact HB.out | apply below_alloc | apply pw_below_drewN | apply below_drew1) | exact HB.out))) : w.heap.size ≤ gb734)); clear HB; have HB := n0_; have BK734 := n1_; have GW734 := n2_; have GE734 := n3_; clear n0_ n1_ n2_ n3_; clear hb hbox hg; have hcz13_0 : w12.cell? ⟨gb734, 0, none⟩ = some (.int .i64 a0_0) := (blk_cell BK734.out 0).trans rfl; have hcz13_1 : w12.cell? ⟨gb734, 1, none⟩ = some (.slice A0_1 l0_1.length c0_1) := (blk_cell BK734.out 1).trans rfl; have hcz13_2 : w12.cell? ⟨gb734, 2, none⟩ = some (.int .i64 a0_2) := (blk_cell BK734.out 2).trans rfl; have hcz13_3 : w12.cell? ⟨gb734, 3, none⟩ = some (.slice A0_3 l0_3.length c0_3) := (blk_cell BK734.out 3).trans rfl; have hfz13_0 := blk_frozen BK734.out 0; have hfz13_1 := blk_frozen BK734.out 1; have hfz13_2 := blk_frozen BK734.out 2; have hfz13_3 := blk_frozen BK734.out 3) | ((with_reducible refine gate_callee (f := 70) rfl ?_); refine goesL_ (some 8) rfl rfl Try.func70 (by kernel_rfl) rfl #[.agg #[.int .i64 a0_0, .slice A0_1 l0_1.length c0_1, .int .i64 a0_2, .slice A0_3 l0_3.length c0_3]] rfl (by (try simp only [List.map_toArray, List.map_cons, List.map_nil]); first | done | rfl | (simp only [List.length_drop, List.length_take]; rfl)) ?_; (with_reducible refine (spec_l04Is.calls k a0_0 _ _ l0_1 a0_2 _ _ l0_3 true _ ?side1 ?side2 ?side3 ?side4 A3.out).mono ?_); (case side1 => repeat (first | exact (Kd.C_below HR0_1.out HB.out) | (with_reducible refine Kd.C_alloc ?_ _) | (with_reducible refine Kd.C_drewN ?_ _) | (with_reducible refine Kd.C_drew ?_))); (case side2 => exact HC0_1.out); (case side3 => repeat (first | exact (Kd.C_below HR0_3.out HB.out) | (with_reducible refine Kd.C_alloc ?_ _) | (with_reducible refine Kd.C_drewN ?_ _) | (with_reducible refine Kd.C_drew ?_))); (case side4 => exact HC0_3.out); rintro e w14 ⟨rfl, hb⟩; refine ⟨_, rfl, ?_⟩; have n0_ := Aside0.mk (blk_below (g := gb734) (o := .cells #[.int .i64 a0_0, .slice A0_1 l0_1.length c0_1, .int .i64 a0_2, .slice A0_3 l0_3.length c0_3] 46 (0, 0)) (by (with_reducible repeat (first | refine blk_drewN ?_ _ | refine blk_drew ?_ | refine blk_alloc ?_ _)); exact BK734.out) hb); have n1_ := Aside0.mk (below_step (by repeat (first | (with_reducible first | exact HB.out | apply below_alloc | apply pw_below_drewN | apply below_drew1 | refine below_set ?_ GE734.out) | exact HB.out)) hb); clear BK734; clear HB; have BK734 := n0_; have HB := n1_; clear n0_ n1_; (try clear hb); (try clear hb2); (try clear hk); (try clear hi); have hcz15_0 : w14.cell? ⟨gb734, 0, none⟩ = some (.int .i64 a0_0) := (blk_cell BK734.out 0).trans rfl; have hcz15_1 : w14.cell? ⟨gb734, 1, none⟩ = some (.slice A0_1 l0_1.length c0_1) := (blk_cell BK734.out 1).trans rfl; have hcz15_2 : w14.cell? ⟨gb734, 2, none⟩ = some (.int .i64 a0_2) := (blk_cell BK734.out 2).trans rfl; have hcz15_3 : w14.cell? ⟨gb734, 3, none⟩ = some (.slice A0_3 l0_3.length c0_3) := (blk_cell BK734.out 3).trans rfl; have hfz15_0 := blk_frozen BK734.out 0; have hfz15_1 := blk_frozen BK734.out 1; have hfz15_2 := blk_frozen BK734.out 2; have hfz15_3 := blk_frozen BK734.out 3) | ((with_reducible refine gate_callee (f := 82) rfl ?_); refine goesL_ (some 19) rfl rfl Try.func82 (by kernel_rfl) rfl #[.int .i64 a1, .int .i64 0, .int .i64 (wrap64 ((wrap64 (a0_0 * a0_2)) - 1))] rfl (by (try simp only [List.map_toArray, List.map_cons, List.map_nil]); first | done | rfl | (simp only [List.length_drop, List.length_take]; rfl)) ?_; (with_reducible refine (spec_l01In.calls a1 0 (wrap64 ((wrap64 (a0_0 * a0_2)) - 1)) false _ A5.out).mono ?_); rintro e w' ⟨rfl, ⟨nd, rfl⟩⟩; refine ⟨_, rfl, ?_⟩))
   go_ret2
   exact ⟨by first | rfl | (simp [errW_none, errW_some] <;> rfl) | (simp [*, errW_none, errW_some] <;> rfl), by repeat (first | (with_reducible first | exact HB.out | apply below_alloc | apply pw_below_drewN | apply below_drew1 | refine below_set ?_ GE734.out) | exact HB.out)⟩
 ·replace c4 := Bool.eq_false_iff.mpr c4
  subst c4
  have H1 : (some (0, 1)) = some (r1, r2) := by rw [if_neg (show ¬ (false = true) by decide)] at H; exact H
  clear H
  have H := H1
  clear H1
  simp only [Option.some.injEq, Prod.mk.injEq] at H
  obtain ⟨rfl, rfl⟩ := H
  go_enter Try.func41, Try.ntmps41
  go_wp2_with (first | ((with_reducible refine gate_dst (N := 2) rfl ?_); refine box_event ?hg (N := 2) ?hd (cs := #[.int .i64 a0_0, .slice A0_1 l0_1.length c0_1, .int .i64 a0_2, .slice A0_3 l0_3.length c0_3]) (t := 46) ?hr ?_; (case hd => rfl); (case hg => rfl); (case hr => first | (go_simp; done) | (go_simp; rfl)); intro gb734 hg w16 hbox hb; have n0_ := Aside0.mk (below_step (by repeat (first | (with_reducible first | exact HB.out | apply below_alloc | apply pw_below_drewN | apply below_drew1) | exact HB.out)) hb); have n1_ := Aside0.mk (hbox); have n2_ := Aside0.mk ((by rw [hg]; exact (below_size (by repeat (first | (with_reducible first | exact HB.out | apply below_alloc | apply pw_below_drewN | apply below_drew1) | exact HB.out))) : w.heap.size ≤ gb734)); have n3_ := Aside0.mk ((by rw [hg]; exact (below_size (by repeat (first | (with_reducible first | exact HB.out | apply below_alloc | apply pw_below_drewN | apply below_drew1) | exact HB.out))) : w.heap.size ≤ gb734)); clear HB; have HB := n0_; have BK734 := n1_; have GW734 := n2_; have GE734 := n3_; clear n0_ n1_ n2_ n3_; clear hb hbox hg; have hcz17_0 : w16.cell? ⟨gb734, 0, none⟩ = some (.int .i64 a0_0) := (blk_cell BK734.out 0).trans rfl; have hcz17_1 : w16.cell? ⟨gb734, 1, none⟩ = some (.slice A0_1 l0_1.length c0_1) := (blk_cell BK734.out 1).trans rfl; have hcz17_2 : w16.cell? ⟨gb734, 2, none⟩ = some (.int .i64 a0_2) := (blk_cell BK734.out 2).trans rfl; have hcz17_3 : w16.cell? ⟨gb734, 3, none⟩ = some (.slice A0_3 l0_3.length c0_3) := (blk_cell BK734.out 3).trans rfl; have hfz17_0 := blk_frozen BK734.out 0; have hfz17_1 := blk_frozen BK734.out 1; have hfz17_2 := blk_frozen BK734.out 2; have hfz17_3 := blk_frozen BK734.out 3) | ((with_reducible refine gate_callee (f := 70) rfl ?_); refine goesL_ (some 8) rfl rfl Try.func70 (by kernel_rfl) rfl #[.agg #[.int .i64 a0_0, .slice A0_1 l0_1.length c0_1, .int .i64 a0_2, .slice A0_3 l0_3.length c0_3]] rfl (by (try simp only [List.map_toArray, List.map_cons, List.map_nil]); first | done | rfl | (simp only [List.length_drop, List.length_take]; rfl)) ?_; (with_reducible refine (spec_l04Is.calls k a0_0 _ _ l0_1 a0_2 _ _ l0_3 false _ ?side1 ?side2 ?side3 ?side4 A3.out).mono ?_); (case side1 => repeat (first | exact (Kd.C_below HR0_1.out HB.out) | (with_reducible refine Kd.C_alloc ?_ _) | (with_reducible refine Kd.C_drewN ?_ _) | (with_reducible refine Kd.C_drew ?_))); (case side2 => exact HC0_1.out); (case side3 => repeat (first | exact (Kd.C_below HR0_3.out HB.out) | (with_reducible refine Kd.C_alloc ?_ _) | (with_reducible refine Kd.C_drewN ?_ _) | (with_reducible refine Kd.C_drew ?_))); (case side4 => exact HC0_3.out); rintro e w18 ⟨rfl, hb⟩; refine ⟨_, rfl, ?_⟩; have n0_ := Aside0.mk (blk_below (g := gb734) (o := .cells #[.int .i64 a0_0, .slice A0_1 l0_1.length c0_1, .int .i64 a0_2, .slice A0_3 l0_3.length c0_3] 46 (0, 0)) (by (with_reducible repeat (first | refine blk_drewN ?_ _ | refine blk_drew ?_ | refine blk_alloc ?_ _)); exact BK734.out) hb); have n1_ := Aside0.mk (below_step (by repeat (first | (with_reducible first | exact HB.out | apply below_alloc | apply pw_below_drewN | apply below_drew1 | refine below_set ?_ GE734.out) | exact HB.out)) hb); clear BK734; clear HB; have BK734 := n0_; have HB := n1_; clear n0_ n1_; (try clear hb); (try clear hb2); (try clear hk); (try clear hi)))
  go_ret2
  exact ⟨by first | rfl | (simp [errW_none, errW_some] <;> rfl) | (simp [*, errW_none, errW_some] <;> rfl), by repeat (first | (with_reducible first | exact HB.out | apply below_alloc | apply pw_below_drewN | apply below_drew1 | refine below_set ?_ GE734.out) | exact HB.out)⟩

/-! ### impl_ProjectVertex: function 42 -/
def impl_ProjectVertex.f (k : Nat) (a0_0 : Int) (l0_1 : List (List Int)) (a0_2 : Int) (l0_3 : List (List Int)) (a1 : Int) : Option (Int × Int) := (impl_IsCover.f k a0_0 l0_1 a0_2 l0_3).bind fun t738 => (if t738 = true then ((impl_within.f a1 0 (wrap64 ((wrap64 (a0_0 * a0_2)) - 1))).bind fun t739 => (if t739 = true then (if a0_2 = 0 then (none) else (some (wrap64 (Int.tdiv a1 a0_2), 0))) else (some (0, 2)))) else (some (0, 1)))
theorem impl_ProjectVertex.mono : ∀ a0 a1 a2 a3 a4 k, LeO (impl_ProjectVertex.f k a0 a1 a2 a3 a4) (impl_ProjectVertex.f (k + 1) a0 a1 a2 a3 a4) := by
 intro a0 a1 a2 a3 a4 k
 unfold impl_ProjectVertex.f
 repeat' first
   | (with_reducible exact impl_IsCover.mono _ _ _ _ _)
   | (with_reducible exact LeO.refl _)
   | (with_reducible exact LeO.none _)
   | (with_reducible refine LeO.ite ?_ ?_)
   | (with_reducible refine LeO.bind ?_ (fun _ => ?_))
   | exact impl_IsCover.mono _ _ _ _ _
   | exact LeO.none _
   | refine LeO.ite ?_ ?_
   | refine LeO.bind ?_ (fun _ => ?_)
set_option maxHeartbeats 8000000 in
set_option maxRecDepth 100000 in
theorem impl_ProjectVertex.calls (k : Nat) (a0_0 : Int) (A0_1 : Option Addr) (c0_1 : Nat) (l0_1 : List (List Int)) (a0_2 : Int) (A0_3 : Option Addr) (c0_3 : Nat) (l0_3 : List (List Int)) (a1 : Int) (r1 : Int) (r2 : Int) (w : World) (hr0_1 : Kd.C (Kd.slice 2 (Kd.int .i64)) w A0_1 l0_1.length l0_1) (hc0_1 : l0_1.length ≤ c0_1) (hr0_3 : Kd.C (Kd.slice 2 (Kd.int .i64)) w A0_3 l0_3.length l0_3) (hc0_3 : l0_3.length ≤ c0_3) (h : impl_ProjectVertex.f k a0_0 l0_1 a0_2 l0_3 a1 = some (r1, r2)) :
  Calls Try.prog 42 #[.agg #[.int .i64 a0_0, .slice A0_1 l0_1.length c0_1, .int .i64 a0_2, .slice A0_3 l0_3.length c0_3], .int .i64 a1] w fun e w' => e = .returned (.tuple #[.int .i64 r1, .int .i64 r2]) ∧ Below w.heap.size w w' := by
 have hu46 := Try.underlying46
 have HR0_1 := Aside0.mk hr0_1
 have HC0_1 := Aside0.mk hc0_1
 clear hr0_1 hc0_1
 have HR0_3 := Aside0.mk hr0_3
 have HC0_3 := Aside0.mk hc0_3
 clear hr0_3 hc0_3
 have HB := Aside0.mk (Below.refl w.heap.size w)
 have H : ((impl_IsCover.f k a0_0 l0_1 a0_2 l0_3).bind fun t738 => (if t738 = true then ((impl_within.f a1 0 (wrap64 ((wrap64 (a0_0 * a0_2)) - 1))).bind fun t739 => (if t739 = true then (if a0_2 = 0 then (none) else (some (wrap64 (Int.tdiv a1 a0_2), 0))) else (some (0, 2)))) else (some (0, 1)))) = some (r1, r2) := h
 clear h
 replace H := Option.bind_eq_some_iff.mp H
 obtain ⟨t738, A30, H⟩ := H
 replace H : (if t738 = true then ((impl_within.f a1 0 (wrap64 ((wrap64 (a0_0 * a0_2)) - 1))).bind fun t739 => (if t739 = true then (if a0_2 = 0 then (none) else (some (wrap64 (Int.tdiv a1 a0_2), 0))) else (some (0, 2)))) else (some (0, 1))) = some (r1, r2) := H
 have A3 := Aside0.mk A30
 clear A30
 by_cases c4 : t738 = true
 ·subst c4
  have H1 : ((impl_within.f a1 0 (wrap64 ((wrap64 (a0_0 * a0_2)) - 1))).bind fun t739 => (if t739 = true then (if a0_2 = 0 then (none) else (some (wrap64 (Int.tdiv a1 a0_2), 0))) else (some (0, 2)))) = some (r1, r2) := by rw [if_pos rfl] at H; exact H
  clear H
  have H := H1
  clear H1
  replace H := Option.bind_eq_some_iff.mp H
  obtain ⟨t739, A50, H⟩ := H
  replace H : (if t739 = true then (if a0_2 = 0 then (none) else (some (wrap64 (Int.tdiv a1 a0_2), 0))) else (some (0, 2))) = some (r1, r2) := H
  have A5 := Aside0.mk A50
  clear A50
  by_cases c6 : t739 = true
  ·subst c6
   have H1 : (if a0_2 = 0 then (none) else (some (wrap64 (Int.tdiv a1 a0_2), 0))) = some (r1, r2) := by rw [if_pos rfl] at H; exact H
   clear H
   have H := H1
   clear H1
   by_cases c7 : a0_2 = 0
   ·rw [if_pos c7] at H
    exact absurd H (by simp)
   ·rw [if_neg c7] at H
    have c7b0 : (a0_2 == 0) = false := beq_eq_false_iff_ne.mpr c7
    have c7b1 : (a0_2 != 0) = true := bne_iff_ne.mpr c7
    simp only [Option.some.injEq, Prod.mk.injEq] at H
    obtain ⟨rfl, rfl⟩ := H
    go_enter Try.func42, Try.ntmps42
    go_wp2_with (first | ((with_reducible refine gate_dst (N := 2) rfl ?_); refine box_event ?hg (N := 2) ?hd (cs := #[.int .i64 a0_0, .slice A0_1 l0_1.length c0_1, .int .i64 a0_2, .slice A0_3 l0_3.length c0_3]) (t := 46) ?hr ?_; (case hd => rfl); (case hg => rfl); (case hr => first | (go_simp; done) | (go_simp; rfl)); intro gb737 hg w8 hbox hb; have n0_ := Aside0.mk (below_step (by repeat (first | (with_reducible first | exact HB.out | apply below_alloc | apply pw_below_drewN | apply below_drew1) | exact HB.out)) hb); have n1_ := Aside0.mk (hbox); have n2_ := Aside0.mk ((by rw [hg]; exact (below_size (by repeat (first | (with_reducible first | exact HB.out | apply below_alloc | apply pw_below_drewN | apply below_drew1) | exact HB.out))) : w.heap.size ≤ gb737)); have n3_ := Aside0.mk ((by rw [hg]; exact (below_size (by repeat (first | (with_reducible first | exact HB.out | apply below_alloc | apply pw_below_drewN | apply below_drew1) | exact HB.out))) : w.heap.size ≤ gb737)); clear HB; have HB := n0_; have BK737 := n1_; have GW737 := n2_; have GE737 := n3_; clear n0_ n1_ n2_ n3_; clear hb hbox hg; have hcz9_0 : w8.cell? ⟨gb737, 0, none⟩ = some (.int .i64 a0_0) := (blk_cell BK737.out 0).trans rfl; have hcz9_1 : w8.cell? ⟨gb737, 1, none⟩ = some (.slice A0_1 l0_1.length c0_1) := (blk_cell BK737.out 1).trans rfl; have hcz9_2 : w8.cell? ⟨gb737, 2, none⟩ = some (.int .i64 a0_2) := (blk_cell BK737.out 2).trans rfl; have hcz9_3 : w8.cell? ⟨gb737, 3, none⟩ = some (.slice A0_3 l0_3.length c0_3) := (blk_cell BK737.out 3).trans rfl; have hfz9_0 := blk_frozen BK737.out 0; have hfz9_1 := blk_frozen BK737.out 1; have hfz9_2 := blk_frozen BK737.out 2; have hfz9_3 := blk_frozen BK737.out 3) | ((with_reducible refine gate_callee (f := 35) rfl ?_); refine goesL_ (some 8) rfl rfl Try.func35 (by kernel_rfl) rfl #[.agg #[.int .i64 a0_0, .slice A0_1 l0_1.length c0_1, .int .i64 a0_2, .slice A0_3 l0_3.length c0_3]] rfl (by (try simp only [List.map_toArray, List.map_cons, List.map_nil]); first | done | rfl | (simp only [List.length_drop, List.length_take]; rfl)) ?_; (with_reducible refine (impl_IsCover.calls k a0_0 _ _ l0_1 a0_2 _ _ l0_3 true _ ?side1 ?side2 ?side3 ?side4 A3.out).mono ?_); (case side1 => repeat (first | exact (Kd.C_below HR0_1.out HB.out) | (with_reducible refine Kd.C_alloc ?_ _) | (with_reducible refine Kd.C_drewN ?_ _) | (with_reducible refine Kd.C_drew ?_))); (case side2 => exact HC0_1.out); (case side3 => repeat (first | exact (Kd.C_below HR0_3.out HB.out) | (with_reducible refine Kd.C_alloc ?_ _) | (with_reducible refine Kd.C_drewN ?_ _) | (with_reducible refine Kd.C_drew ?_))); (case side4 => exact HC0_3.out); rintro e w10 ⟨rfl, hb⟩; refine ⟨_, rfl, ?_⟩; have n0_ := Aside0.mk (blk_below (g := gb737) (o := .cells #[.int .i64 a0_0, .slice A0_1 l0_1.length c0_1, .int .i64 a0_2, .slice A0_3 l0_3.length c0_3] 46 (0, 0)) (by (with_reducible repeat (first | refine blk_drewN ?_ _ | refine blk_drew ?_ | refine blk_alloc ?_ _)); exact BK737.out) hb); have n1_ := Aside0.mk (below_step (by repeat (first | (with_reducible first | exact HB.out | apply below_alloc | apply pw_below_drewN | apply below_drew1 | refine below_set ?_ GE737.out) | exact HB.out)) hb); clear BK737; clear HB; have BK737 := n0_; have HB := n1_; clear n0_ n1_; (try clear hb); (try clear hb2); (try clear hk); (try clear hi); have hcz11_0 : w10.cell? ⟨gb737, 0, none⟩ = some (.int .i64 a0_0) := (blk_cell BK737.out 0).trans rfl; have hcz11_1 : w10.cell? ⟨gb737, 1, none⟩ = some (.slice A0_1 l0_1.length c0_1) := (blk_cell BK737.out 1).trans rfl; have hcz11_2 : w10.cell? ⟨gb737, 2, none⟩ = some (.int .i64 a0_2) := (blk_cell BK737.out 2).trans rfl; have hcz11_3 : w10.cell? ⟨gb737, 3, none⟩ = some (.slice A0_3 l0_3.length c0_3) := (blk_cell BK737.out 3).trans rfl; have hfz11_0 := blk_frozen BK737.out 0; have hfz11_1 := blk_frozen BK737.out 1; have hfz11_2 := blk_frozen BK737.out 2; have hfz11_3 := blk_frozen BK737.out 3) | ((with_reducible refine gate_callee (f := 71) rfl ?_); refine goesL_ (some 19) rfl rfl Try.func71 (by kernel_rfl) rfl #[.int .i64 a1, .int .i64 0, .int .i64 (wrap64 ((wrap64 (a0_0 * a0_2)) - 1))] rfl (by (try simp only [List.map_toArray, List.map_cons, List.map_nil]); first | done | rfl | (simp only [List.length_drop, List.length_take]; rfl)) ?_; (with_reducible refine (impl_within.calls a1 0 (wrap64 ((wrap64 (a0_0 * a0_2)) - 1)) true _ A5.out).mono ?_); rintro e w' ⟨rfl, ⟨nd, rfl⟩⟩; refine ⟨_, rfl, ?_⟩))
    go_ret2
    exact ⟨by first | rfl | (simp [errW_none, errW_some] <;> rfl) | (simp [*, errW_none, errW_some] <;> rfl), by repeat (first | (with_reducible first | exact HB.out | apply below_alloc | apply pw_below_drewN | apply below_drew1 | refine below_set ?_ GE737.out) | exact HB.out)⟩
  ·replace c6 := Bool.eq_false_iff.mpr c6
   subst c6
   have H1 : (some (0, 2)) = some (r1, r2) := by rw [if_neg (show ¬ (false = true) by decide)] at H; exact H
   clear H
   have H := H1
   clear H1
   simp only [Option.some.injEq, Prod.mk.injEq] at H
   obtain ⟨rfl, rfl⟩ := H
   go_enter Try.func42, Try.ntmps42
   go_wp2_with (first | ((with_reducible refine gate_dst (N := 2) rfl ?_); refine box_event ?hg (N := 2) ?hd (cs := #[.int .i64 a0_0, .slice A0_1 l0_1.length c0_1, .int .i64 a0_2, .slice A0_3 l0_3.length c0_3]) (t := 46) ?hr ?_; (case hd => rfl); (case hg => rfl); (case hr => first | (go_simp; done) | (go_simp; rfl)); intro gb737 hg w12 hbox hb; have n0_ := Aside0.mk (below_step (by repeat (first | (with_reducible first | exact HB.out | apply below_alloc | apply pw_below_drewN | apply below_drew1) | exact HB.out)) hb); have n1_ := Aside0.mk (hbox); have n2_ := Aside0.mk ((by rw [hg]; exact (below_size (by repeat (first | (with_reducible first | exact HB.out | apply below_alloc | apply pw_below_drewN | apply below_drew1) | exact HB.out))) : w.heap.size ≤ gb737)); have n3_ := Aside0.mk ((by rw [hg]; exact (below_size (by repeat (first | (with_reducible first | exact HB.out | apply below_alloc | apply pw_below_drewN | apply below_drew1) | exact HB.out))) : w.heap.size ≤ gb737)); clear HB; have HB := n0_; have BK737 := n1_; have GW737 := n2_; have GE737 := n3_; clear n0_ n1_ n2_ n3_; clear hb hbox hg; have hcz13_0 : w12.cell? ⟨gb737, 0, none⟩ = some (.int .i64 a0_0) := (blk_cell BK737.out 0).trans rfl; have hcz13_1 : w12.cell? ⟨gb737, 1, none⟩ = some (.slice A0_1 l0_1.length c0_1) := (blk_cell BK737.out 1).trans rfl; have hcz13_2 : w12.cell? ⟨gb737, 2, none⟩ = some (.int .i64 a0_2) := (blk_cell BK737.out 2).trans rfl; have hcz13_3 : w12.cell? ⟨gb737, 3, none⟩ = some (.slice A0_3 l0_3.length c0_3) := (blk_cell BK737.out 3).trans rfl; have hfz13_0 := blk_frozen BK737.out 0; have hfz13_1 := blk_frozen BK737.out 1; have hfz13_2 := blk_frozen BK737.out 2; have hfz13_3 := blk_frozen BK737.out 3) | ((with_reducible refine gate_callee (f := 35) rfl ?_); refine goesL_ (some 8) rfl rfl Try.func35 (by kernel_rfl) rfl #[.agg #[.int .i64 a0_0, .slice A0_1 l0_1.length c0_1, .int .i64 a0_2, .slice A0_3 l0_3.length c0_3]] rfl (by (try simp only [List.map_toArray, List.map_cons, List.map_nil]); first | done | rfl | (simp only [List.length_drop, List.length_take]; rfl)) ?_; (with_reducible refine (impl_IsCover.calls k a0_0 _ _ l0_1 a0_2 _ _ l0_3 true _ ?side1 ?side2 ?side3 ?side4 A3.out).mono ?_); (case side1 => repeat (first | exact (Kd.C_below HR0_1.out HB.out) | (with_reducible refine Kd.C_alloc ?_ _) | (with_reducible refine Kd.C_drewN ?_ _) | (with_reducible refine Kd.C_drew ?_))); (case side2 => exact HC0_1.out); (case side3 => repeat (first | exact (Kd.C_below HR0_3.out HB.out) | (with_reducible refine Kd.C_alloc ?_ _) | (with_reducible refine Kd.C_drewN ?_ _) | (with_reducible refine Kd.C_drew ?_))); (case side4 => exact HC0_3.out); rintro e w14 ⟨rfl, hb⟩; refine ⟨_, rfl, ?_⟩; have n0_ := Aside0.mk (blk_below (g := gb737) (o := .cells #[.int .i64 a0_0, .slice A0_1 l0_1.length c0_1, .int .i64 a0_2, .slice A0_3 l0_3.length c0_3] 46 (0, 0)) (by (with_reducible repeat (first | refine blk_drewN ?_ _ | refine blk_drew ?_ | refine blk_alloc ?_ _)); exact BK737.out) hb); have n1_ := Aside0.mk (below_step (by repeat (first | (with_reducible first | exact HB.out | apply below_alloc | apply pw_below_drewN | apply below_drew1 | refine below_set ?_ GE737.out) | exact HB.out)) hb); clear BK737; clear HB; have BK737 := n0_; have HB := n1_; clear n0_ n1_; (try clear hb); (try clear hb2); (try clear hk); (try clear hi); have hcz15_0 : w14.cell? ⟨gb737, 0, none⟩ = some (.int .i64 a0_0) := (blk_cell BK737.out 0).trans rfl; have hcz15_1 : w14.cell? ⟨gb737, 1, none⟩ = some (.slice A0_1 l0_1.length c0_1) := (blk_cell BK737.out 1).trans rfl; have hcz15_2 : w14.cell? ⟨gb737, 2, none⟩ = some (.int .i64 a0_2) := (blk_cell BK737.out 2).trans rfl; have hcz15_3 : w14.cell? ⟨gb737, 3, none⟩ = some (.slice A0_3 l0_3.length c0_3) := (blk_cell BK737.out 3).trans rfl; have hfz15_0 := blk_frozen BK737.out 0; have hfz15_1 := blk_frozen BK737.out 1; have hfz15_2 := blk_frozen BK737.out 2; have hfz15_3 := blk_frozen BK737.out 3) | ((with_reducible refine gate_callee (f := 71) rfl ?_); refine goesL_ (some 19) rfl rfl Try.func71 (by kernel_rfl) rfl #[.int .i64 a1, .int .i64 0, .int .i64 (wrap64 ((wrap64 (a0_0 * a0_2)) - 1))] rfl (by (try simp only [List.map_toArray, List.map_cons, List.map_nil]); first | done | rfl | (simp only [List.length_drop, List.length_take]; rfl)) ?_; (with_reducible refine (impl_within.calls a1 0 (wrap64 ((wrap64 (a0_0 * a0_2)) - 1)) false _ A5.out).mono ?_); rintro e w' ⟨rfl, ⟨nd, rfl⟩⟩; refine ⟨_, rfl, ?_⟩))
   go_ret2
   exact ⟨by first | rfl | (simp [errW_none, errW_some] <;> rfl) | (simp [*, errW_none, errW_some] <;> rfl), by repeat (first | (with_reducible first | exact HB.out | apply below_alloc | apply pw_below_drewN | apply below_drew1 | refine below_set ?_ GE737.out) | exact HB.out)⟩
 ·replace c4 := Bool.eq_false_iff.mpr c4
  subst c4
  have H1 : (some (0, 1)) = some (r1, r2) := by rw [if_neg (show ¬ (false = true) by decide)] at H; exact H
  clear H
  have H := H1
  clear H1
  simp only [Option.some.injEq, Prod.mk.injEq] at H
  obtain ⟨rfl, rfl⟩ := H
  go_enter Try.func42, Try.ntmps42
  go_wp2_with (first | ((with_reducible refine gate_dst (N := 2) rfl ?_); refine box_event ?hg (N := 2) ?hd (cs := #[.int .i64 a0_0, .slice A0_1 l0_1.length c0_1, .int .i64 a0_2, .slice A0_3 l0_3.length c0_3]) (t := 46) ?hr ?_; (case hd => rfl); (case hg => rfl); (case hr => first | (go_simp; done) | (go_simp; rfl)); intro gb737 hg w16 hbox hb; have n0_ := Aside0.mk (below_step (by repeat (first | (with_reducible first | exact HB.out | apply below_alloc | apply pw_below_drewN | apply below_drew1) | exact HB.out)) hb); have n1_ := Aside0.mk (hbox); have n2_ := Aside0.mk ((by rw [hg]; exact (below_size (by repeat (first | (with_reducible first | exact HB.out | apply below_alloc | apply pw_below_drewN | apply below_drew1) | exact HB.out))) : w.heap.size ≤ gb737)); have n3_ := Aside0.mk ((by rw [hg]; exact (below_size (by repeat (first | (with_reducible first | exact HB.out | apply below_alloc | apply pw_below_drewN | apply below_drew1) | exact HB.out))) : w.heap.size ≤ gb737)); clear HB; have HB := n0_; have BK737 := n1_; have GW737 := n2_; have GE737 := n3_; clear n0_ n1_ n2_ n3_; clear hb hbox hg; have hcz17_0 : w16.cell? ⟨gb737, 0, none⟩ = some (.int .i64 a0_0) := (blk_cell BK737.out 0).trans rfl; have hcz17_1 : w16.cell? ⟨gb737, 1, none⟩ = some (.slice A0_1 l0_1.length c0_1) := (blk_cell BK737.out 1).trans rfl; have hcz17_2 : w16.cell? ⟨gb737, 2, none⟩ = some (.int .i64 a0_2) := (blk_cell BK737.out 2).trans rfl; have hcz17_3 : w16.cell? ⟨gb737, 3, none⟩ = some (.slice A0_3 l0_3.length c0_3) := (blk_cell BK737.out 3).trans rfl; have hfz17_0 := blk_frozen BK737.out 0; have hfz17_1 := blk_frozen BK737.out 1; have hfz17_2 := blk_frozen BK737.out 2; have hfz17_3 := blk_frozen BK737.out 3) | ((with_reducible refine gate_callee (f := 35) rfl ?_); refine goesL_ (some 8) rfl rfl Try.func35 (by kernel_rfl) rfl #[.agg #[.int .i64 a0_0, .slice A0_1 l0_1.length c0_1, .int .i64 a0_2, .slice A0_3 l0_3.length c0_3]] rfl (by (try simp only [List.map_toArray, List.map_cons, List.map_nil]); first | done | rfl | (simp only [List.length_drop, List.length_take]; rfl)) ?_; (with_reducible refine (impl_IsCover.calls k a0_0 _ _ l0_1 a0_2 _ _ l0_3 false _ ?side1 ?side2 ?side3 ?side4 A3.out).mono ?_); (case side1 => repeat (first | exact (Kd.C_below HR0_1.out HB.out) | (with_reducible refine Kd.C_alloc ?_ _) | (with_reducible refine Kd.C_drewN ?_ _) | (with_reducible refine Kd.C_drew ?_))); (case side2 => exact HC0_1.out); (case side3 => repeat (first | exact (Kd.C_below HR0_3.out HB.out) | (with_reducible refine Kd.C_alloc ?_ _) | (with_reducible refine Kd.C_drewN ?_ _) | (with_reducible refine Kd.C_drew ?_))); (case side4 => exact HC0_3.out); rintro e w18 ⟨rfl, hb⟩; refine ⟨_, rfl, ?_⟩; have n0_ := Aside0.mk (blk_below (g := gb737) (o := .cells #[.int .i64 a0_0, .slice A0_1 l0_1.length c0_1, .int .i64 a0_2, .slice A0_3 l0_3.length c0_3] 46 (0, 0)) (by (with_reducible repeat (first | refine blk_drewN ?_ _ | refine blk_drew ?_ | refine blk_alloc ?_ _)); exact BK737.out) hb); have n1_ := Aside0.mk (below_step (by repeat (first | (with_reducible first | exact HB.out | apply below_alloc | apply pw_below_drewN | apply below_drew1 | refine below_set ?_ GE737.out) | exact HB.out)) hb); clear BK737; clear HB; have BK737 := n0_; have HB := n1_; clear n0_ n1_; (try clear hb); (try clear hb2); (try clear hk); (try clear hi)))
  go_ret2
  exact ⟨by first | rfl | (simp [errW_none, errW_some] <;> rfl) | (simp [*, errW_none, errW_some] <;> rfl), by repeat (first | (with_reducible first | exact HB.out | apply below_alloc | apply pw_below_drewN | apply below_drew1 | refine below_set ?_ GE737.out) | exact HB.out)⟩

/-! ### laws_FnExactProjectVertex: function 10 -/
def laws_FnExactProjectVertex.f (k : Nat) (a0_0 : Int) (l0_1 : List (List Int)) (a0_2 : Int) (l0_3 : List (List Int)) (a1 : Int) : Option (Bool) := (laws_szCover.f k a0_0 l0_1 a0_2 l0_3 1048576).bind fun t741 => (if t741 < 0 then (some true) else ((laws_toCover.f k a0_0 l0_1 a0_2 l0_3).bind fun bt742 => ((spec_ProjectVertex.f k bt742.1 bt742.2.1 bt742.2.2.1 bt742.2.2.2 a1).bind fun bt750 => ((laws_toCover.f k a0_0 l0_1 a0_2 l0_3).bind fun bt752 => ((impl_ProjectVertex.f k bt752.1 bt752.2.1 bt752.2.2.1 bt752.2.2.2 a1).bind fun bt761 => (if bt761.1 = bt750.1 then (if bt761.2 = bt750.2 then ((laws_toCover.f k a0_0 l0_1 a0_2 l0_3).bind fun bt763 => ((laws_eqCover.f k bt752.1 bt752.2.1 bt752.2.2.1 bt752.2.2.2 bt763.1 bt763.2.1 bt763.2.2.1 bt763.2.2.2).bind fun t771 => (if t771 = true then (some true) else (some false)))) else (some false)) else (some false)))))))
theorem laws_FnExactProjectVertex.mono : ∀ a0 a1 a2 a3 a4 k, LeO (laws_FnExactProjectVertex.f k a0 a1 a2 a3 a4) (laws_FnExactProjectVertex.f (k + 1) a0 a1 a2 a3 a4) := by
 intro a0 a1 a2 a3 a4 k
 unfold laws_FnExactProjectVertex.f
 repeat' first
   | (with_reducible exact impl_ProjectVertex.mono _ _ _ _ _ _)
   | (with_reducible exact laws_eqCover.mono _ _ _ _ _ _ _ _ _)
   | (with_reducible exact laws_szCover.mono _ _ _ _ _ _)
   | (with_reducible exact laws_toCover.mono _ _ _ _ _)
   | (with_reducible exact spec_ProjectVertex.mono _ _ _ _ _ _)
   | (with_reducible exact LeO.refl _)
   | (with_reducible exact LeO.none _)
   | (with_reducible refine LeO.ite ?_ ?_)
   | (with_reducible refine LeO.bind ?_ (fun _ => ?_))
   | exact impl_ProjectVertex.mono _ _ _ _ _ _
   | exact laws_eqCover.mono _ _ _ _ _ _ _ _ _
   | exact laws_szCover.mono _ _ _ _ _ _
   | exact laws_toCover.mono _ _ _ _ _
   | exact spec_ProjectVertex.mono _ _ _ _ _ _
   | exact LeO.none _
   | refine LeO.ite ?_ ?_
   | refine LeO.bind ?_ (fun _ => ?_)
set_option maxHeartbeats 8000000 in
set_option maxRecDepth 100000 in
theorem laws_FnExactProjectVertex.calls (k : Nat) (a0_0 : Int) (A0_1 : Option Addr) (c0_1 : Nat) (l0_1 : List (List Int)) (a0_2 : Int) (A0_3 : Option Addr) (c0_3 : Nat) (l0_3 : List (List Int)) (a1 : Int) (w : World) (hr0_1 : Kd.C (Kd.slice 2 (Kd.int .i64)) w A0_1 l0_1.length l0_1) (hc0_1 : l0_1.length ≤ c0_1) (hr0_3 : Kd.C (Kd.slice 2 (Kd.int .i64)) w A0_3 l0_3.length l0_3) (hc0_3 : l0_3.length ≤ c0_3) (h : laws_FnExactProjectVertex.f k a0_0 l0_1 a0_2 l0_3 a1 = some true) :
  Calls Try.prog 10 #[.agg #[.int .i64 a0_0, .slice A0_1 l0_1.length c0_1, .int .i64 a0_2, .slice A0_3 l0_3.length c0_3], .int .i64 a1] w fun e w' => e = .returned (.bool true) ∧ Below w.heap.size w w' := by
 have hu42 := Try.underlying42
 have hu46 := Try.underlying46
 have HR0_1 := Aside0.mk hr0_1
 have HC0_1 := Aside0.mk hc0_1
 clear hr0_1 hc0_1
 have HR0_3 := Aside0.mk hr0_3
 have HC0_3 := Aside0.mk hc0_3
 clear hr0_3 hc0_3
 have HB := Aside0.mk (Below.refl w.heap.size w)
 have H : ((laws_szCover.f k a0_0 l0_1 a0_2 l0_3 1048576).bind fun t741 => (if t741 < 0 then (some true) else ((laws_toCover.f k a0_0 l0_1 a0_2 l0_3).bind fun bt742 => ((spec_ProjectVertex.f k bt742.1 bt742.2.1 bt742.2.2.1 bt742.2.2.2 a1).bind fun bt750 => ((laws_toCover.f k a0_0 l0_1 a0_2 l0_3).bind fun bt752 => ((impl_ProjectVertex.f k bt752.1 bt752.2.1 bt752.2.2.1 bt752.2.2.2 a1).bind fun bt761 => (if bt761.1 = bt750.1 then (if bt761.2 = bt750.2 then ((laws_toCover.f k a0_0 l0_1 a0_2 l0_3).bind fun bt763 => ((laws_eqCover.f k bt752.1 bt752.2.1 bt752.2.2.1 bt752.2.2.2 bt763.1 bt763.2.1 bt763.2.2.1 bt763.2.2.2).bind fun t771 => (if t771 = true then (some true) else (some false)))) else (some false)) else (some false)))))))) = some true := h
 clear h
 replace H := Option.bind_eq_some_iff.mp H
 obtain ⟨t741, A30, H⟩ := H
 replace H : (if t741 < 0 then (some true) else ((laws_toCover.f k a0_0 l0_1 a0_2 l0_3).bind fun bt742 => ((spec_ProjectVertex.f k bt742.1 bt742.2.1 bt742.2.2.1 bt742.2.2.2 a1).bind fun bt750 => ((laws_toCover.f k a0_0 l0_1 a0_2 l0_3).bind fun bt752 => ((impl_ProjectVertex.f k bt752.1 bt752.2.1 bt752.2.2.1 bt752.2.2.2 a1).bind fun bt761 => (if bt761.1 = bt750.1 then (if bt761.2 = bt750.2 then ((laws_toCover.f k a0_0 l0_1 a0_2 l0_3).bind fun bt763 => ((laws_eqCover.f k bt752.1 bt752.2.1 bt752.2.2.1 bt752.2.2.2 bt763.1 bt763.2.1 bt763.2.2.1 bt763.2.2.2).bind fun t771 => (if t771 = true then (some true) else (some false)))) else (some false)) else (some false))))))) = some true := H
 have A3 := Aside0.mk A30
 clear A30
 by_cases c4 : t741 < 0
 ·rw [if_pos c4] at H
  have c4b0 : decide (t741 < 0) = true := decide_eq_true c4
  clear c4
  try clear H
  go_enter Try.func10, Try.ntmps10
  go_wp2_with (first | ((with_reducible refine gate_dst (N := 2) rfl ?_); refine box_event ?hg (N := 2) ?hd (cs := #[.int .i64 a0_0, .slice A0_1 l0_1.length c0_1, .int .i64 a0_2, .slice A0_3 l0_3.length c0_3]) (t := 42) ?hr ?_; (case hd => rfl); (case hg => rfl); (case hr => first | (go_simp; done) | (go_simp; rfl)); intro gb740 hg w5 hbox hb; have n0_ := Aside0.mk (hb.size); have n1_ := Aside0.mk ((⟨Nat.le_of_eq hg.symm, blk_lt hbox⟩ : w.heap.size ≤ gb740 ∧ gb740 < w5.heap.size)); have n2_ := Aside0.mk (below_step (by repeat (first | (with_reducible first | exact HB.out | apply below_alloc | apply pw_below_drewN | apply below_drew1) | exact HB.out)) hb); have n3_ := Aside0.mk (hbox); have n4_ := Aside0.mk ((by rw [hg]; exact (below_size (by repeat (first | (with_reducible first | exact HB.out | apply below_alloc | apply pw_below_drewN | apply below_drew1) | exact HB.out))) : w.heap.size ≤ gb740)); have n5_ := Aside0.mk ((by rw [hg]; exact (below_size (by repeat (first | (with_reducible first | exact HB.out | apply below_alloc | apply pw_below_drewN | apply below_drew1) | exact HB.out))) : w.heap.size ≤ gb740)); clear HB; have Zw5 := n0_; have ZB740 := n1_; have HB := n2_; have BK740 := n3_; have GW740 := n4_; have GE740 := n5_; clear n0_ n1_ n2_ n3_ n4_ n5_; clear hb hbox hg; have hcz6_0 : w5.cell? ⟨gb740, 0, none⟩ = some (.int .i64 a0_0) := (blk_cell BK740.out 0).trans rfl; have hcz6_1 : w5.cell? ⟨gb740, 1, none⟩ = some (.slice A0_1 l0_1.length c0_1) := (blk_cell BK740.out 1).trans rfl; have hcz6_2 : w5.cell? ⟨gb740, 2, none⟩ = some (.int .i64 a0_2) := (blk_cell BK740.out 2).trans rfl; have hcz6_3 : w5.cell? ⟨gb740, 3, none⟩ = some (.slice A0_3 l0_3.length c0_3) := (blk_cell BK740.out 3).trans rfl; have hfz6_0 := blk_frozen BK740.out 0; have hfz6_1 := blk_frozen BK740.out 1; have hfz6_2 := blk_frozen BK740.out 2; have hfz6_3 := blk_frozen BK740.out 3) | ((with_reducible refine gate_callee (f := 32) rfl ?_); refine goesL_ (some 13) rfl rfl Try.func32 (by kernel_rfl) rfl #[.agg #[.int .i64 a0_0, .slice A0_1 l0_1.length c0_1, .int .i64 a0_2, .slice A0_3 l0_3.length c0_3], .int .i64 1048576] rfl (by (try simp only [List.map_toArray, List.map_cons, List.map_nil]); first | done | rfl) ?_; (with_reducible refine (laws_szCover.calls k a0_0 _ _ l0_1 a0_2 _ _ l0_3 1048576 t741 _ ?side1 ?side2 ?side3 ?side4 A3.out).mono ?_); (case side1 => exact (Kd.C_below HR0_1.out HB.out)); (case side2 => exact HC0_1.out); (case side3 => exact (Kd.C_below HR0_3.out HB.out)); (case side4 => exact HC0_3.out); rintro e w7 ⟨rfl, hb⟩; refine ⟨_, rfl, ?_⟩; have n0_ := Aside0.mk (blk_below (g := gb740) (o := .cells #[.int .i64 a0_0, .slice A0_1 l0_1.length c0_1, .int .i64 a0_2, .slice A0_3 l0_3.length c0_3] 42 (0, 0)) (by (with_reducible repeat (first | refine blk_drewN ?_ _ | refine blk_drew ?_ | refine blk_alloc ?_ _)); exact BK740.out) hb); have n1_ := Aside0.mk (below_step HB.out hb); have n2_ := Aside0.mk (hb.size); clear BK740; clear HB; have BK740 := n0_; have HB := n1_; have Zw7 := n2_; clear n0_ n1_ n2_; (try clear hb); (try clear hkp); (try clear hd_)))
  go_ret
  exact ⟨by first | rfl | (simp [errW_none, errW_some] <;> rfl) | (simp [*, errW_none, errW_some] <;> rfl), by repeat (first | (with_reducible first | exact HB.out | apply below_alloc | apply pw_below_drewN | apply below_drew1 | refine below_set ?_ GE740.out) | exact HB.out)⟩
 ·rw [if_neg c4] at H
  have c4b0 : decide (t741 < 0) = false := decide_eq_false c4
  clear c4
  replace H := Option.bind_eq_some_iff.mp H
  obtain ⟨⟨t742, t743, t746, t747⟩, A80, H⟩ := H
  replace H : ((spec_ProjectVertex.f k t742 t743 t746 t747 a1).bind fun bt750 => ((laws_toCover.f k a0_0 l0_1 a0_2 l0_3).bind fun bt752 => ((impl_ProjectVertex.f k bt752.1 bt752.2.1 bt752.2.2.1 bt752.2.2.2 a1).bind fun bt761 => (if bt761.1 = bt750.1 then (if bt761.2 = bt750.2 then ((laws_toCover.f k a0_0 l0_1 a0_2 l0_3).bind fun bt763 => ((laws_eqCover.f k bt752.1 bt752.2.1 bt752.2.2.1 bt752.2.2.2 bt763.1 bt763.2.1 bt763.2.2.1 bt763.2.2.2).bind fun t771 => (if t771 = true then (some true) else (some false)))) else (some false)) else (some false))))) = some true := H
  have A8 := Aside0.mk A80
  clear A80
  replace H := Option.bind_eq_some_iff.mp H
  obtain ⟨⟨t750, t751⟩, A90, H⟩ := H
  replace H : ((laws_toCover.f k a0_0 l0_1 a0_2 l0_3).bind fun bt752 => ((impl_ProjectVertex.f k bt752.1 bt752.2.1 bt752.2.2.1 bt752.2.2.2 a1).bind fun bt761 => (if bt761.1 = t750 then (if bt761.2 = t751 then ((laws_toCover.f k a0_0 l0_1 a0_2 l0_3).bind fun bt763 => ((laws_eqCover.f k bt752.1 bt752.2.1 bt752.2.2.1 bt752.2.2.2 bt763.1 bt763.2.1 bt763.2.2.1 bt763.2.2.2).bind fun t771 => (if t771 = true then (some true) else (some false)))) else (some false)) else (some false)))) = some true := H
  have A9 := Aside0.mk A90
  clear A90
  replace H := Option.bind_eq_some_iff.mp H
  obtain ⟨⟨t752, t753, t756, t757⟩, A100, H⟩ := H
  replace H : ((impl_ProjectVertex.f k t752 t753 t756 t757 a1).bind fun bt761 => (if bt761.1 = t750 then (if bt761.2 = t751 then ((laws_toCover.f k a0_0 l0_1 a0_2 l0_3).bind fun bt763 => ((laws_eqCover.f k t752 t753 t756 t757 bt763.1 bt763.2.1 bt763.2.2.1 bt763.2.2.2).bind fun t771 => (if t771 = true then (some true) else (some false)))) else (some false)) else (some false))) = some true := H
  have A10 := Aside0.mk A100
  clear A100
  replace H := Option.bind_eq_some_iff.mp H
  obtain ⟨⟨t761, t762⟩, A110, H⟩ := H
  replace H : (if t761 = t750 then (if t762 = t751 then ((laws_toCover.f k a0_0 l0_1 a0_2 l0_3).bind fun bt763 => ((laws_eqCover.f k t752 t753 t756 t757 bt763.1 bt763.2.1 bt763.2.2.1 bt763.2.2.2).bind fun t771 => (if t771 = true then (some true) else (some false)))) else (some false)) else (some false)) = some true := H
  have A11 := Aside0.mk A110
  clear A110
  by_cases c12 : t761 = t750
  ·rw [if_pos c12] at H
   have c12b0 : (t761 == t750) = true := beq_iff_eq.mpr c12
   have c12b1 : (t761 != t750) = false := bne_eq_false_iff_eq.mpr c12
   clear c12
   by_cases c13 : t762 = t751
   ·rw [if_pos c13] at H
    have c13b0 : (t762 == t751) = true := beq_iff_eq.mpr c13
    have c13b1 : (t762 != t751) = false := bne_eq_false_iff_eq.mpr c13
    clear c13
    replace H := Option.bind_eq_some_iff.mp H
    obtain ⟨⟨t763, t764, t767, t768⟩, A140, H⟩ := H
    replace H : ((laws_eqCover.f k t752 t753 t756 t757 t763 t764 t767 t768).bind fun t771 => (if t771 = true then (some true) else (some false))) = some true := H
    have A14 := Aside0.mk A140
    clear A140
    replace H := Option.bind_eq_some_iff.mp H
    obtain ⟨t771, A150, H⟩ := H
    replace H : (if t771 = true then (some true) else (some false)) = some true := H
    have A15 := Aside0.mk A150
    clear A150
    by_cases c16 : t771 = true
    ·subst c16
     have H1 : some true = some true := rfl
     clear H
     have H := H1
     clear H1
     try clear H
     go_enter Try.func10, Try.ntmps10
     try go_wp2_with (first | ((with_reducible refine gate_dst (N := 2) rfl ?_); refine box_event ?hg (N := 2) ?hd (cs := #[.int .i64 a0_0, .slice A0_1 l0_1.length c0_1, .int .i64 a0_2, .slice A0_3 l0_3.length c0_3]) (t := 42) ?hr ?_; (case hd => rfl); (case hg => rfl); (case hr => first | (go_simp; done) | (go_simp; rfl)); intro gb740 hg w17 hbox hb; have n0_ := Aside0.mk (hb.size); have n1_ := Aside0.mk ((⟨Nat.le_of_eq hg.symm, blk_lt hbox⟩ : w.heap.size ≤ gb740 ∧ gb740 < w17.heap.size)); have n2_ := Aside0.mk (below_step (by repeat (first | (with_reducible first | exact HB.out | apply below_alloc | apply pw_below_drewN | apply below_drew1) | exact HB.out)) hb); have n3_ := Aside0.mk (hbox); have n4_ := Aside0.mk ((by rw [hg]; exact (below_size (by repeat (first | (with_reducible first | exact HB.out | apply below_alloc | apply pw_below_drewN | apply below_drew1) | exact HB.out))) : w.heap.size ≤ gb740)); have n5_ := Aside0.mk ((by rw [hg]; exact (below_size (by repeat (first | (with_reducible first | exact HB.out | apply below_alloc | apply pw_below_drewN | apply below_drew1) | exact HB.out))) : w.heap.size ≤ gb740)); clear HB; have Zw17 := n0_; have ZB740 := n1_; have HB := n2_; have BK740 := n3_; have GW740 := n4_; have GE740 := n5_; clear n0_ n1_ n2_ n3_ n4_ n5_; clear hb hbox hg; have hcz18_0 : w17.cell? ⟨gb740, 0, none⟩ = some (.int .i64 a0_0) := (blk_cell BK740.out 0).trans rfl; have hcz18_1 : w17.cell? ⟨gb740, 1, none⟩ = some (.slice A0_1 l0_1.length c0_1) := (blk_cell BK740.out 1).trans rfl; have hcz18_2 : w17.cell? ⟨gb740, 2, none⟩ = some (.int .i64 a0_2) := (blk_cell BK740.out 2).trans rfl; have hcz18_3 : w17.cell? ⟨gb740, 3, none⟩ = some (.slice A0_3 l0_3.length c0_3) := (blk_cell BK740.out 3).trans rfl; have hfz18_0 := blk_frozen BK740.out 0; have hfz18_1 := blk_frozen BK740.out 1; have hfz18_2 := blk_frozen BK740.out 2; have hfz18_3 := blk_frozen BK740.out 3) | ((with_reducible refine gate_callee (f := 32) rfl ?_); refine goesL_ (some 13) rfl rfl Try.func32 (by kernel_rfl) rfl #[.agg #[.int .i64 a0_0, .slice A0_1 l0_1.length c0_1, .int .i64 a0_2, .slice A0_3 l0_3.length c0_3], .int .i64 1048576] rfl (by (try simp only [List.map_toArray, List.map_cons, List.map_nil]); first | done | rfl) ?_; (with_reducible refine (laws_szCover.calls k a0_0 _ _ l0_1 a0_2 _ _ l0_3 1048576 t741 _ ?side1 ?side2 ?side3 ?side4 A3.out).mono ?_); (case side1 => exact (Kd.C_below HR0_1.out HB.out)); (case side2 => exact HC0_1.out); (case side3 => exact (Kd.C_below HR0_3.out HB.out)); (case side4 => exact HC0_3.out); rintro e w19 ⟨rfl, hb⟩; refine ⟨_, rfl, ?_⟩; have n0_ := Aside0.mk (blk_below (g := gb740) (o := .cells #[.int .i64 a0_0, .slice A0_1 l0_1.length c0_1, .int .i64 a0_2, .slice A0_3 l0_3.length c0_3] 42 (0, 0)) (by (with_reducible repeat (first | refine blk_drewN ?_ _ | refine blk_drew ?_ | refine blk_alloc ?_ _)); exact BK740.out) hb); have n1_ := Aside0.mk (below_step HB.out hb); have n2_ := Aside0.mk (hb.size); clear BK740; clear HB; have BK740 := n0_; have HB := n1_; have Zw19 := n2_; clear n0_ n1_ n2_; (try clear hb); (try clear hkp); (try clear hd_); have hcz20_0 : w19.cell? ⟨gb740, 0, none⟩ = some (.int .i64 a0_0) := (blk_cell BK740.out 0).trans rfl; have hcz20_1 : w19.cell? ⟨gb740, 1, none⟩ = some (.slice A0_1 l0_1.length c0_1) := (blk_cell BK740.out 1).trans rfl; have hcz20_2 : w19.cell? ⟨gb740, 2, none⟩ = some (.int .i64 a0_2) := (blk_cell BK740.out 2).trans rfl; have hcz20_3 : w19.cell? ⟨gb740, 3, none⟩ = some (.slice A0_3 l0_3.length c0_3) := (blk_cell BK740.out 3).trans rfl; have hfz20_0 := blk_frozen BK740.out 0; have hfz20_1 := blk_frozen BK740.out 1; have hfz20_2 := blk_frozen BK740.out 2; have hfz20_3 := blk_frozen BK740.out 3) | ((with_reducible refine gate_callee (f := 34) rfl ?_); refine goesL_ (some 18) rfl rfl Try.func34 (by kernel_rfl) rfl #[.agg #[.int .i64 a0_0, .slice A0_1 l0_1.length c0_1, .int .i64 a0_2, .slice A0_3 l0_3.length c0_3]] rfl (by (try simp only [List.map_toArray, List.map_cons, List.map_nil]); first | done | rfl) ?_; (with_reducible refine (laws_toCover.calls k a0_0 _ _ l0_1 a0_2 _ _ l0_3 t742 t743 t746 t747 _ ?side1 ?side2 ?side3 ?side4 A8.out).mono ?_); (case side1 => exact (Kd.C_below HR0_1.out HB.out)); (case side2 => exact HC0_1.out); (case side3 => exact (Kd.C_below HR0_3.out HB.out)); (case side4 => exact HC0_3.out); rintro e w21 ⟨v744, v748, rfl, ⟨bm22, hm1_, hm2_, ho0, ho1⟩, hb⟩; refine ⟨_, rfl, ?_⟩; have n0_ := Aside0.mk (blk_below (g := gb740) (o := .cells #[.int .i64 a0_0, .slice A0_1 l0_1.length c0_1, .int .i64 a0_2, .slice A0_3 l0_3.length c0_3] 42 (0, 0)) (by (with_reducible repeat (first | refine blk_drewN ?_ _ | refine blk_drew ?_ | refine blk_alloc ?_ _)); exact BK740.out) hb); have n1_ := Aside0.mk (Kd.S_lower (Kd.S_mono (Kd.S_bound ho0) (fun k_ hk_ => (⟨hk_.2.1, hk_.1⟩ : w19.heap.size ≤ k_ ∧ k_ < bm22))) HB.out.size); have n2_ := Aside0.mk (Kd.S_lower (Kd.S_mono (Kd.S_bound ho1) (fun k_ hk_ => (⟨hk_.1, hk_.2.2.1⟩ : bm22 ≤ k_ ∧ k_ < w21.heap.size))) HB.out.size); have n3_ := Aside0.mk (hm1_); have n4_ := Aside0.mk (hm2_); have n5_ := Aside0.mk (below_step HB.out hb); have n6_ := Aside0.mk (hb.size); clear BK740; clear HB; have BK740 := n0_; have HO745 := n1_; have HO749 := n2_; have Zpbm22 := n3_; have Zqbm22 := n4_; have HB := n5_; have Zw21 := n6_; clear n0_ n1_ n2_ n3_ n4_ n5_ n6_; (try clear hb); (try clear hkp); (try clear hd_); (try clear hm1_); (try clear hm2_); (try clear ho0); (try clear ho1); obtain ⟨Ao23, co23, eo23⟩ := Kd.S_slice HO745.out; subst eo23; obtain ⟨Ao24, co24, eo24⟩ := Kd.S_slice HO749.out; subst eo24) | ((with_reducible refine gate_callee (f := 41) rfl ?_); refine goesL_ (some 20) rfl rfl Try.func41 (by kernel_rfl) rfl #[.agg #[.int .i64 t742, .slice Ao23 t743.length co23, .int .i64 t746, .slice Ao24 t747.length co24], .int .i64 a1] rfl (by (try simp only [List.map_toArray, List.map_cons, List.map_nil]); first | done | rfl) ?_; (with_reducible refine (spec_ProjectVertex.calls k t742 _ _ t743 t746 _ _ t747 a1 t750 t751 _ ?side1 ?side2 ?side3 ?side4 A9.out).mono ?_); (case side1 => exact (Kd.S_reads' HO745.out).2.2); (case side2 => (have e_ := Kd.S_reads' HO745.out; have e1_ := e_.1; have e2_ := e_.2.1; omega)); (case side3 => exact (Kd.S_reads' HO749.out).2.2); (case side4 => (have e_ := Kd.S_reads' HO749.out; have e1_ := e_.1; have e2_ := e_.2.1; omega)); rintro e w25 ⟨rfl, hb⟩; refine ⟨_, rfl, ?_⟩; have n0_ := Aside0.mk (blk_below (g := gb740) (o := .cells #[.int .i64 a0_0, .slice A0_1 l0_1.length c0_1, .int .i64 a0_2, .slice A0_3 l0_3.length c0_3] 42 (0, 0)) (by (with_reducible repeat (first | refine blk_drewN ?_ _ | refine blk_drew ?_ | refine blk_alloc ?_ _)); exact BK740.out) hb); have n1_ := Aside0.mk (Kd.S_below HO745.out hb); have n2_ := Aside0.mk (Kd.S_below HO749.out hb); have n3_ := Aside0.mk (below_step HB.out hb); have n4_ := Aside0.mk (hb.size); clear BK740; clear HO745; clear HO749; clear HB; have BK740 := n0_; have HO745 := n1_; have HO749 := n2_; have HB := n3_; have Zw25 := n4_; clear n0_ n1_ n2_ n3_ n4_; (try clear hb); (try clear hkp); (try clear hd_); have hcz26_0 : w25.cell? ⟨gb740, 0, none⟩ = some (.int .i64 a0_0) := (blk_cell BK740.out 0).trans rfl; have hcz26_1 : w25.cell? ⟨gb740, 1, none⟩ = some (.slice A0_1 l0_1.length c0_1) := (blk_cell BK740.out 1).trans rfl; have hcz26_2 : w25.cell? ⟨gb740, 2, none⟩ = some (.int .i64 a0_2) := (blk_cell BK740.out 2).trans rfl; have hcz26_3 : w25.cell? ⟨gb740, 3, none⟩ = some (.slice A0_3 l0_3.length c0_3) := (blk_cell BK740.out 3).trans rfl; have hfz26_0 := blk_frozen BK740.out 0; have hfz26_1 := blk_frozen BK740.out 1; have hfz26_2 := blk_frozen BK740.out 2; have hfz26_3 := blk_frozen BK740.out 3) | ((with_reducible refine gate_callee (f := 34) rfl ?_); refine goesL_ (some 24) rfl rfl Try.func34 (by kernel_rfl) rfl #[.agg #[.int .i64 a0_0, .slice A0_1 l0_1.length c0_1, .int .i64 a0_2, .slice A0_3 l0_3.length c0_3]] rfl (by (try simp only [List.map_toArray, List.map_cons, List.map_nil]); first | done | rfl) ?_; (with_reducible refine (laws_toCover.calls k a0_0 _ _ l0_1 a0_2 _ _ l0_3 t752 t753 t756 t757 _ ?side1 ?side2 ?side3 ?side4 A10.out).mono ?_); (case side1 => exact (Kd.C_below HR0_1.out HB.out)); (case side2 => exact HC0_1.out); (case side3 => exact (Kd.C_below HR0_3.out HB.out)); (case side4 => exact HC0_3.out); rintro e w27 ⟨v754, v758, rfl, ⟨bm28, hm1_, hm2_, ho0, ho1⟩, hb⟩; refine ⟨_, rfl, ?_⟩; have n0_ := Aside0.mk (blk_below (g := gb740) (o := .cells #[.int .i64 a0_0, .slice A0_1 l0_1.length c0_1, .int .i64 a0_2, .slice A0_3 l0_3.length c0_3] 42 (0, 0)) (by (with_reducible repeat (first | refine blk_drewN ?_ _ | refine blk_drew ?_ | refine blk_alloc ?_ _)); exact BK740.out) hb); have n1_ := Aside0.mk (Kd.S_below HO745.out hb); have n2_ := Aside0.mk (Kd.S_below HO749.out hb); have n3_ := Aside0.mk (Kd.S_lower (Kd.S_mono (Kd.S_bound ho0) (fun k_ hk_ => (⟨hk_.2.1, hk_.1⟩ : w25.heap.size ≤ k_ ∧ k_ < bm28))) HB.out.size); have n4_ := Aside0.mk (Kd.S_lower (Kd.S_mono (Kd.S_bound ho1) (fun k_ hk_ => (⟨hk_.1, hk_.2.2.1⟩ : bm28 ≤ k_ ∧ k_ < w27.heap.size))) HB.out.size); have n5_ := Aside0.mk (hm1_); have n6_ := Aside0.mk (hm2_); have n7_ := Aside0.mk (below_step HB.out hb); have n8_ := Aside0.mk (hb.size); clear BK740; clear HO745; clear HO749; clear HB; have BK740 := n0_; have HO745 := n1_; have HO749 := n2_; have HO755 := n3_; have HO759 := n4_; have Zpbm28 := n5_; have Zqbm28 := n6_; have HB := n7_; have Zw27 := n8_; clear n0_ n1_ n2_ n3_ n4_ n5_ n6_ n7_ n8_; (try clear hb); (try clear hkp); (try clear hd_); (try clear hm1_); (try clear hm2_); (try clear ho0); (try clear ho1); obtain ⟨Ao29, co29, eo29⟩ := Kd.S_slice HO755.out; subst eo29; obtain ⟨Ao30, co30, eo30⟩ := Kd.S_slice HO759.out; subst eo30) | ((with_reducible refine gate_dst (N := 8) rfl ?_); refine box_event ?hg (N := 8) ?hd (cs := #[.int .i64 0, .slice none 0 0, .int .i64 0, .slice none 0 0]) (t := 46) ?hr ?_; (case hd => rfl); (case hg => rfl); (case hr => first | (go_simp; done) | (go_simp; rfl)); intro gb760 hg w31 hbox hb; have n0_ := Aside0.mk (Kd.S_below HO745.out hb); have n1_ := Aside0.mk (Kd.S_below HO749.out hb); have n2_ := Aside0.mk (Kd.S_below HO755.out hb); have n3_ := Aside0.mk (Kd.S_below HO759.out hb); have n4_ := Aside0.mk (blk_below (g := gb740) (o := .cells #[.int .i64 a0_0, .slice A0_1 l0_1.length c0_1, .int .i64 a0_2, .slice A0_3 l0_3.length c0_3] 42 (0, 0)) (by (with_reducible repeat (first | refine blk_drewN ?_ _ | refine blk_drew ?_ | refine blk_alloc ?_ _)); exact BK740.out) hb); have n5_ := Aside0.mk (hb.size); have n6_ := Aside0.mk ((⟨Nat.le_of_eq hg.symm, blk_lt hbox⟩ : w27.heap.size ≤ gb760 ∧ gb760 < w31.heap.size)); have n7_ := Aside0.mk (below_step (by repeat (first | (with_reducible first | exact HB.out | apply below_alloc | apply pw_below_drewN | apply below_drew1 | refine below_set ?_ GE740.out) | exact HB.out)) hb); have n8_ := Aside0.mk (hbox); have n9_ := Aside0.mk ((by rw [hg]; exact (below_size (by repeat (first | (with_reducible first | exact HB.out | apply below_alloc | apply pw_below_drewN | apply below_drew1 | refine below_set ?_ GE740.out) | exact HB.out))) : w.heap.size ≤ gb760)); have n10_ := Aside0.mk ((by rw [hg]; exact (below_size (by repeat (first | (with_reducible first | exact HB.out | apply below_alloc | apply pw_below_drewN | apply below_drew1 | refine below_set ?_ GE740.out) | exact HB.out))) : w.heap.size ≤ gb760)); have n11_ := Aside0.mk ((by rw [hg]; exact Nat.ne_of_lt (blk_lt (g := gb740) (o := .cells #[.int .i64 a0_0, .slice A0_1 l0_1.length c0_1, .int .i64 a0_2, .slice A0_3 l0_3.length c0_3] 42 (0, 0)) (by (with_reducible repeat (first | refine blk_drewN ?_ _ | refine blk_drew ?_ | refine blk_alloc ?_ _)); exact BK740.out)) : gb740 ≠ gb760)); have n12_ := Aside0.mk ((by rw [hg]; exact Nat.ne_of_gt (blk_lt (g := gb740) (o := .cells #[.int .i64 a0_0, .slice A0_1 l0_1.length c0_1, .int .i64 a0_2, .slice A0_3 l0_3.length c0_3] 42 (0, 0)) (by (with_reducible repeat (first | refine blk_drewN ?_ _ | refine blk_drew ?_ | refine blk_alloc ?_ _)); exact BK740.out)) : gb760 ≠ gb740)); clear HO745; clear HO749; clear HO755; clear HO759; clear BK740; clear HB; have HO745 := n0_; have HO749 := n1_; have HO755 := n2_; have HO759 := n3_; have BK740 := n4_; have Zw31 := n5_; have ZB760 := n6_; have HB := n7_; have BK760 := n8_; have GW760 := n9_; have GE760 := n10_; have NB740_760 := n11_; have NB760_740 := n12_; clear n0_ n1_ n2_ n3_ n4_ n5_ n6_ n7_ n8_ n9_ n10_ n11_ n12_; clear hb hbox hg; have hnb32 := NB760_740.out; have hnc32 := NB740_760.out; have hcz33_0 : w31.cell? ⟨gb760, 0, none⟩ = some (.int .i64 0) := (blk_cell BK760.out 0).trans rfl; have hcz33_1 : w31.cell? ⟨gb760, 1, none⟩ = some (.slice none 0 0) := (blk_cell BK760.out 1).trans rfl; have hcz33_2 : w31.cell? ⟨gb760, 2, none⟩ = some (.int .i64 0) := (blk_cell BK760.out 2).trans rfl; have hcz33_3 : w31.cell? ⟨gb760, 3, none⟩ = some (.slice none 0 0) := (blk_cell BK760.out 3).trans rfl; have hfz33_0 := blk_frozen BK760.out 0; have hfz33_1 := blk_frozen BK760.out 1; have hfz33_2 := blk_frozen BK760.out 2; have hfz33_3 := blk_frozen BK760.out 3) | ((with_reducible refine gate_callee (f := 42) rfl ?_); have n0_ := Aside0.mk (show ((((w31.setCell ⟨gb760, 0, none⟩ (.int .i64 t752)).setCell ⟨gb760, 1, none⟩ (.slice Ao29 t753.length co29)).setCell ⟨gb760, 2, none⟩ (.int .i64 t756)).setCell ⟨gb760, 3, none⟩ (.slice Ao30 t757.length co30)).heap[gb740]? = some (.cells #[.int .i64 a0_0, .slice A0_1 l0_1.length c0_1, .int .i64 a0_2, .slice A0_3 l0_3.length c0_3] 42 (0, 0)) from (by (with_reducible repeat (first | refine blk_drewN ?_ _ | refine blk_drew ?_ | refine blk_alloc ?_ _)); refine blk_far ?_ NB740_760.out _; (with_reducible repeat (first | refine blk_drewN ?_ _ | refine blk_drew ?_ | refine blk_alloc ?_ _)); refine blk_far ?_ NB740_760.out _; (with_reducible repeat (first | refine blk_drewN ?_ _ | refine blk_drew ?_ | refine blk_alloc ?_ _)); refine blk_far ?_ NB740_760.out _; (with_reducible repeat (first | refine blk_drewN ?_ _ | refine blk_drew ?_ | refine blk_alloc ?_ _)); refine blk_far ?_ NB740_760.out _; (with_reducible repeat (first | refine blk_drewN ?_ _ | refine blk_drew ?_ | refine blk_alloc ?_ _)); exact BK740.out)); have n1_ := Aside0.mk (show Kd.S (Kd.slice 2 (Kd.int .i64)) 25 ((((w31.setCell ⟨gb760, 0, none⟩ (.int .i64 t752)).setCell ⟨gb760, 1, none⟩ (.slice Ao29 t753.length co29)).setCell ⟨gb760, 2, none⟩ (.int .i64 t756)).setCell ⟨gb760, 3, none⟩ (.slice Ao30 t757.length co30)) w.heap.size (fun k_ => w19.heap.size ≤ k_ ∧ k_ < bm22) (.slice Ao23 t743.length co23) t743 from (Kd.S_far (Kd.S_far (Kd.S_far (Kd.S_far HO745.out (fun k_ ho_ => (show k_ ≠ gb760 from by have h1_ := ho_.1; have h2_ := ho_.2; have h3_ := ZB760.out.1; have h4_ := ZB760.out.2; have z0_ := Zw17.out; have z1_ := Zw19.out; have z2_ := Zpbm22.out; have z3_ := Zqbm22.out; have z4_ := Zw21.out; have z5_ := Zw25.out; have z6_ := Zpbm28.out; have z7_ := Zqbm28.out; have z8_ := Zw27.out; have z9_ := Zw31.out; omega)) _) (fun k_ ho_ => (show k_ ≠ gb760 from by have h1_ := ho_.1; have h2_ := ho_.2; have h3_ := ZB760.out.1; have h4_ := ZB760.out.2; have z0_ := Zw17.out; have z1_ := Zw19.out; have z2_ := Zpbm22.out; have z3_ := Zqbm22.out; have z4_ := Zw21.out; have z5_ := Zw25.out; have z6_ := Zpbm28.out; have z7_ := Zqbm28.out; have z8_ := Zw27.out; have z9_ := Zw31.out; omega)) _) (fun k_ ho_ => (show k_ ≠ gb760 from by have h1_ := ho_.1; have h2_ := ho_.2; have h3_ := ZB760.out.1; have h4_ := ZB760.out.2; have z0_ := Zw17.out; have z1_ := Zw19.out; have z2_ := Zpbm22.out; have z3_ := Zqbm22.out; have z4_ := Zw21.out; have z5_ := Zw25.out; have z6_ := Zpbm28.out; have z7_ := Zqbm28.out; have z8_ := Zw27.out; have z9_ := Zw31.out; omega)) _) (fun k_ ho_ => (show k_ ≠ gb760 from by have h1_ := ho_.1; have h2_ := ho_.2; have h3_ := ZB760.out.1; have h4_ := ZB760.out.2; have z0_ := Zw17.out; have z1_ := Zw19.out; have z2_ := Zpbm22.out; have z3_ := Zqbm22.out; have z4_ := Zw21.out; have z5_ := Zw25.out; have z6_ := Zpbm28.out; have z7_ := Zqbm28.out; have z8_ := Zw27.out; have z9_ := Zw31.out; omega)) _)); have n2_ := Aside0.mk (show Kd.S (Kd.slice 2 (Kd.int .i64)) 25 ((((w31.setCell ⟨gb760, 0, none⟩ (.int .i64 t752)).setCell ⟨gb760, 1, none⟩ (.slice Ao29 t753.length co29)).setCell ⟨gb760, 2, none⟩ (.int .i64 t756)).setCell ⟨gb760, 3, none⟩ (.slice Ao30 t757.length co30)) w.heap.size (fun k_ => bm22 ≤ k_ ∧ k_ < w21.heap.size) (.slice Ao24 t747.length co24) t747 from (Kd.S_far (Kd.S_far (Kd.S_far (Kd.S_far HO749.out (fun k_ ho_ => (show k_ ≠ gb760 from by have h1_ := ho_.1; have h2_ := ho_.2; have h3_ := ZB760.out.1; have h4_ := ZB760.out.2; have z0_ := Zw17.out; have z1_ := Zw19.out; have z2_ := Zpbm22.out; have z3_ := Zqbm22.out; have z4_ := Zw21.out; have z5_ := Zw25.out; have z6_ := Zpbm28.out; have z7_ := Zqbm28.out; have z8_ := Zw27.out; have z9_ := Zw31.out; omega)) _) (fun k_ ho_ => (show k_ ≠ gb760 from by have h1_ := ho_.1; have h2_ := ho_.2; have h3_ := ZB760.out.1; have h4_ := ZB760.out.2; have z0_ := Zw17.out; have z1_ := Zw19.out; have z2_ := Zpbm22.out; have z3_ := Zqbm22.out; have z4_ := Zw21.out; have z5_ := Zw25.out; have z6_ := Zpbm28.out; have z7_ := Zqbm28.out; have z8_ := Zw27.out; have z9_ := Zw31.out; omega)) _) (fun k_ ho_ => (show k_ ≠ gb760 from by have h1_ := ho_.1; have h2_ := ho_.2; have h3_ := ZB760.out.1; have h4_ := ZB760.out.2; have z0_ := Zw17.out; have z1_ := Zw19.out; have z2_ := Zpbm22.out; have z3_ := Zqbm22.out; have z4_ := Zw21.out; have z5_ := Zw25.out; have z6_ := Zpbm28.out; have z7_ := Zqbm28.out; have z8_ := Zw27.out; have z9_ := Zw31.out; omega)) _) (fun k_ ho_ => (show k_ ≠ gb760 from by have h1_ := ho_.1; have h2_ := ho_.2; have h3_ := ZB760.out.1; have h4_ := ZB760.out.2; have z0_ := Zw17.out; have z1_ := Zw19.out; have z2_ := Zpbm22.out; have z3_ := Zqbm22.out; have z4_ := Zw21.out; have z5_ := Zw25.out; have z6_ := Zpbm28.out; have z7_ := Zqbm28.out; have z8_ := Zw27.out; have z9_ := Zw31.out; omega)) _)); have n3_ := Aside0.mk (show Kd.S (Kd.slice 2 (Kd.int .i64)) 25 ((((w31.setCell ⟨gb760, 0, none⟩ (.int .i64 t752)).setCell ⟨gb760, 1, none⟩ (.slice Ao29 t753.length co29)).setCell ⟨gb760, 2, none⟩ (.int .i64 t756)).setCell ⟨gb760, 3, none⟩ (.slice Ao30 t757.length co30)) w.heap.size (fun k_ => w25.heap.size ≤ k_ ∧ k_ < bm28) (.slice Ao29 t753.length co29) t753 from (Kd.S_far (Kd.S_far (Kd.S_far (Kd.S_far HO755.out (fun k_ ho_ => (show k_ ≠ gb760 from by have h1_ := ho_.1; have h2_ := ho_.2; have h3_ := ZB760.out.1; have h4_ := ZB760.out.2; have z0_ := Zw17.out; have z1_ := Zw19.out; have z2_ := Zpbm22.out; have z3_ := Zqbm22.out; have z4_ := Zw21.out; have z5_ := Zw25.out; have z6_ := Zpbm28.out; have z7_ := Zqbm28.out; have z8_ := Zw27.out; have z9_ := Zw31.out; omega)) _) (fun k_ ho_ => (show k_ ≠ gb760 from by have h1_ := ho_.1; have h2_ := ho_.2; have h3_ := ZB760.out.1; have h4_ := ZB760.out.2; have z0_ := Zw17.out; have z1_ := Zw19.out; have z2_ := Zpbm22.out; have z3_ := Zqbm22.out; have z4_ := Zw21.out; have z5_ := Zw25.out; have z6_ := Zpbm28.out; have z7_ := Zqbm28.out; have z8_ := Zw27.out; have z9_ := Zw31.out; omega)) _) (fun k_ ho_ => (show k_ ≠ gb760 from by have h1_ := ho_.1; have h2_ := ho_.2; have h3_ := ZB760.out.1; have h4_ := ZB760.out.2; have z0_ := Zw17.out; have z1_ := Zw19.out; have z2_ := Zpbm22.out; have z3_ := Zqbm22.out; have z4_ := Zw21.out; have z5_ := Zw25.out; have z6_ := Zpbm28.out; have z7_ := Zqbm28.out; have z8_ := Zw27.out; have z9_ := Zw31.out; omega)) _) (fun k_ ho_ => (show k_ ≠ gb760 from by have h1_ := ho_.1; have h2_ := ho_.2; have h3_ := ZB760.out.1; have h4_ := ZB760.out.2; have z0_ := Zw17.out; have z1_ := Zw19.out; have z2_ := Zpbm22.out; have z3_ := Zqbm22.out; have z4_ := Zw21.out; have z5_ := Zw25.out; have z6_ := Zpbm28.out; have z7_ := Zqbm28.out; have z8_ := Zw27.out; have z9_ := Zw31.out; omega)) _)); have n4_ := Aside0.mk (show Kd.S (Kd.slice 2 (Kd.int .i64)) 25 ((((w31.setCell ⟨gb760, 0, none⟩ (.int .i64 t752)).setCell ⟨gb760, 1, none⟩ (.slice Ao29 t753.length co29)).setCell ⟨gb760, 2, none⟩ (.int .i64 t756)).setCell ⟨gb760, 3, none⟩ (.slice Ao30 t757.length co30)) w.heap.size (fun k_ => bm28 ≤ k_ ∧ k_ < w27.heap.size) (.slice Ao30 t757.length co30) t757 from (Kd.S_far (Kd.S_far (Kd.S_far (Kd.S_far HO759.out (fun k_ ho_ => (show k_ ≠ gb760 from by have h1_ := ho_.1; have h2_ := ho_.2; have h3_ := ZB760.out.1; have h4_ := ZB760.out.2; have z0_ := Zw17.out; have z1_ := Zw19.out; have z2_ := Zpbm22.out; have z3_ := Zqbm22.out; have z4_ := Zw21.out; have z5_ := Zw25.out; have z6_ := Zpbm28.out; have z7_ := Zqbm28.out; have z8_ := Zw27.out; have z9_ := Zw31.out; omega)) _) (fun k_ ho_ => (show k_ ≠ gb760 from by have h1_ := ho_.1; have h2_ := ho_.2; have h3_ := ZB760.out.1; have h4_ := ZB760.out.2; have z0_ := Zw17.out; have z1_ := Zw19.out; have z2_ := Zpbm22.out; have z3_ := Zqbm22.out; have z4_ := Zw21.out; have z5_ := Zw25.out; have z6_ := Zpbm28.out; have z7_ := Zqbm28.out; have z8_ := Zw27.out; have z9_ := Zw31.out; omega)) _) (fun k_ ho_ => (show k_ ≠ gb760 from by have h1_ := ho_.1; have h2_ := ho_.2; have h3_ := ZB760.out.1; have h4_ := ZB760.out.2; have z0_ := Zw17.out; have z1_ := Zw19.out; have z2_ := Zpbm22.out; have z3_ := Zqbm22.out; have z4_ := Zw21.out; have z5_ := Zw25.out; have z6_ := Zpbm28.out; have z7_ := Zqbm28.out; have z8_ := Zw27.out; have z9_ := Zw31.out; omega)) _) (fun k_ ho_ => (show k_ ≠ gb760 from by have h1_ := ho_.1; have h2_ := ho_.2; have h3_ := ZB760.out.1; have h4_ := ZB760.out.2; have z0_ := Zw17.out; have z1_ := Zw19.out; have z2_ := Zpbm22.out; have z3_ := Zqbm22.out; have z4_ := Zw21.out; have z5_ := Zw25.out; have z6_ := Zpbm28.out; have z7_ := Zqbm28.out; have z8_ := Zw27.out; have z9_ := Zw31.out; omega)) _)); have n5_ := Aside0.mk (show ((((w31.setCell ⟨gb760, 0, none⟩ (.int .i64 t752)).setCell ⟨gb760, 1, none⟩ (.slice Ao29 t753.length co29)).setCell ⟨gb760, 2, none⟩ (.int .i64 t756)).setCell ⟨gb760, 3, none⟩ (.slice Ao30 t757.length co30)).heap[gb760]? = some (.cells #[.int .i64 t752, .slice Ao29 t753.length co29, .int .i64 t756, .slice Ao30 t757.length co30] 46 (0, 0)) from (by (with_reducible repeat (first | refine blk_drewN ?_ _ | refine blk_drew ?_ | refine blk_alloc ?_ _)); refine blk_put (cs := #[.int .i64 t752, .slice Ao29 t753.length co29, .int .i64 t756, .slice none 0 0]) ?_ 3 _ rfl; (with_reducible repeat (first | refine blk_drewN ?_ _ | refine blk_drew ?_ | refine blk_alloc ?_ _)); refine blk_put (cs := #[.int .i64 t752, .slice Ao29 t753.length co29, .int .i64 0, .slice none 0 0]) ?_ 2 _ rfl; (with_reducible repeat (first | refine blk_drewN ?_ _ | refine blk_drew ?_ | refine blk_alloc ?_ _)); refine blk_put (cs := #[.int .i64 t752, .slice none 0 0, .int .i64 0, .slice none 0 0]) ?_ 1 _ rfl; (with_reducible repeat (first | refine blk_drewN ?_ _ | refine blk_drew ?_ | refine blk_alloc ?_ _)); refine blk_put (cs := #[.int .i64 0, .slice none 0 0, .int .i64 0, .slice none 0 0]) ?_ 0 _ rfl; (with_reducible repeat (first | refine blk_drewN ?_ _ | refine blk_drew ?_ | refine blk_alloc ?_ _)); exact BK760.out)); have n6_ := Aside0.mk (show Below w.heap.size w ((((w31.setCell ⟨gb760, 0, none⟩ (.int .i64 t752)).setCell ⟨gb760, 1, none⟩ (.slice Ao29 t753.length co29)).setCell ⟨gb760, 2, none⟩ (.int .i64 t756)).setCell ⟨gb760, 3, none⟩ (.slice Ao30 t757.length co30)) from (below_set (below_set (below_set (below_set HB.out GE760.out) GE760.out) GE760.out) GE760.out)); have n7_ := Aside0.mk (show w31.heap.size ≤ ((((w31.setCell ⟨gb760, 0, none⟩ (.int .i64 t752)).setCell ⟨gb760, 1, none⟩ (.slice Ao29 t753.length co29)).setCell ⟨gb760, 2, none⟩ (.int .i64 t756)).setCell ⟨gb760, 3, none⟩ (.slice Ao30 t757.length co30)).heap.size from (Kept.setCell (Kept.setCell (Kept.setCell (Kept.setCell (Kept.refl w31 (fun _ => True)) (.inl trivial) _) (.inl trivial) _) (.inl trivial) _) (.inl trivial) _).1); clear BK740; clear HO745; clear HO749; clear HO755; clear HO759; clear BK760; clear HB; generalize hW_ : ((((w31.setCell ⟨gb760, 0, none⟩ (.int .i64 t752)).setCell ⟨gb760, 1, none⟩ (.slice Ao29 t753.length co29)).setCell ⟨gb760, 2, none⟩ (.int .i64 t756)).setCell ⟨gb760, 3, none⟩ (.slice Ao30 t757.length co30)) = w34 at n0_ n1_ n2_ n3_ n4_ n5_ n6_ n7_ ⊢; clear hW_; have BK740 := n0_; have HO745 := n1_; have HO749 := n2_; have HO755 := n3_; have HO759 := n4_; have BK760 := n5_; have HB := n6_; have Zw34 := n7_; clear n0_ n1_ n2_ n3_ n4_ n5_ n6_ n7_; refine goesL_ (some 28) rfl rfl Try.func42 (by kernel_rfl) rfl #[.agg #[.int .i64 t752, .slice Ao29 t753.length co29, .int .i64 t756, .slice Ao30 t757.length co30], .int .i64 a1] rfl (by (try simp only [List.map_toArray, List.map_cons, List.map_nil]); first | done | rfl) ?_; (with_reducible refine (impl_ProjectVertex.calls k t752 _ _ t753 t756 _ _ t757 a1 t761 t762 _ ?side1 ?side2 ?side3 ?side4 A11.out).mono ?_); (case side1 => exact (Kd.S_reads' HO755.out).2.2); (case side2 => (have e_ := Kd.S_reads' HO755.out; have e1_ := e_.1; have e2_ := e_.2.1; omega)); (case side3 => exact (Kd.S_reads' HO759.out).2.2); (case side4 => (have e_ := Kd.S_reads' HO759.out; have e1_ := e_.1; have e2_ := e_.2.1; omega)); rintro e w35 ⟨rfl, hb⟩; refine ⟨_, rfl, ?_⟩; have n0_ := Aside0.mk (blk_below (g := gb740) (o := .cells #[.int .i64 a0_0, .slice A0_1 l0_1.length c0_1, .int .i64 a0_2, .slice A0_3 l0_3.length c0_3] 42 (0, 0)) (by (with_reducible repeat (first | refine blk_drewN ?_ _ | refine blk_drew ?_ | refine blk_alloc ?_ _)); exact BK740.out) hb); have n1_ := Aside0.mk (Kd.S_below HO745.out hb); have n2_ := Aside0.mk (Kd.S_below HO749.out hb); have n3_ := Aside0.mk (Kd.S_below HO755.out hb); have n4_ := Aside0.mk (Kd.S_below HO759.out hb); have n5_ := Aside0.mk (blk_below (g := gb760) (o := .cells #[.int .i64 t752, .slice Ao29 t753.length co29, .int .i64 t756, .slice Ao30 t757.length co30] 46 (0, 0)) (by (with_reducible repeat (first | refine blk_drewN ?_ _ | refine blk_drew ?_ | refine blk_alloc ?_ _)); exact BK760.out) hb); have n6_ := Aside0.mk (below_step HB.out hb); have n7_ := Aside0.mk (hb.size); clear BK740; clear HO745; clear HO749; clear HO755; clear HO759; clear BK760; clear HB; have BK740 := n0_; have HO745 := n1_; have HO749 := n2_; have HO755 := n3_; have HO759 := n4_; have BK760 := n5_; have HB := n6_; have Zw35 := n7_; clear n0_ n1_ n2_ n3_ n4_ n5_ n6_ n7_; (try clear hb); (try clear hkp); (try clear hd_)))
     have n0_ := Aside0.mk ((show w35.heap.size ≤ w35.drew.heap.size from Nat.le_refl _))
     have n1_ := Aside0.mk (Kd.S_drew HO745.out)
     have n2_ := Aside0.mk (Kd.S_drew HO749.out)
     have n3_ := Aside0.mk (Kd.S_drew HO755.out)
     have n4_ := Aside0.mk (Kd.S_drew HO759.out)
     have n5_ := Aside0.mk (blk_drew BK740.out)
     have n6_ := Aside0.mk (blk_drew BK760.out)
     have n7_ := Aside0.mk (below_drew1 HB.out)
     clear HO745
     clear HO749
     clear HO755
     clear HO759
     clear BK740
     clear BK760
     clear HB
     have Zw36 := n0_
     have HO745 := n1_
     have HO749 := n2_
     have HO755 := n3_
     have HO759 := n4_
     have BK740 := n5_
     have BK760 := n6_
     have HB := n7_
     clear n0_ n1_ n2_ n3_ n4_ n5_ n6_ n7_
     refine start_ (n := 5) (S := fun w' => w'.cell? ⟨gb760, 0, none⟩ = some (.int .i64 t752) ∧ w'.cell? ⟨gb760, 1, none⟩ = some (.slice Ao29 t753.length co29) ∧ w'.cell? ⟨gb760, 2, none⟩ = some (.int .i64 t756) ∧ w'.cell? ⟨gb760, 3, none⟩ = some (.slice Ao30 t757.length co30) ∧ w'.cell? ⟨gb740, 0, none⟩ = some (.int .i64 a0_0) ∧ w'.cell? ⟨gb740, 1, none⟩ = some (.slice A0_1 l0_1.length c0_1) ∧ w'.cell? ⟨gb740, 2, none⟩ = some (.int .i64 a0_2) ∧ w'.cell? ⟨gb740, 3, none⟩ = some (.slice A0_3 l0_3.length c0_3)) (ds := []) #[false, false, false, false, false] (by kernel_rfl) rfl rfl ⟨(blk_cell BK760.out 0).trans rfl, (blk_cell BK760.out 1).trans rfl, (blk_cell BK760.out 2).trans rfl, (blk_cell BK760.out 3).trans rfl, (blk_cell BK740.out 0).trans rfl, (blk_cell BK740.out 1).trans rfl, (blk_cell BK740.out 2).trans rfl, (blk_cell BK740.out 3).trans rfl⟩ (fun hHeld => ?_)
     generalize w35.drew = w36 at HO745 HO749 HO755 HO759 BK740 BK760 HB Zw36 hHeld ⊢
     refine take_ (i := 0) (N := some 39) (v := ?_) (a' := ?_) #[true, false, false, false, false] rfl rfl (by kernel_rfl) (fun _ _ _ h => h) (Or.inl ⟨by rfl, ?_⟩) hHeld ?_ ?_
     rotate_left
     ·rintro w' ⟨s0, s1, s2, s3, s4, s5, s6, s7⟩
      go_simp
      with_reducible rfl
     rotate_left
     ·simp only [Act.put, List.setIfInBounds_toArray, List.set_cons_zero, List.set_cons_succ, i64_w, i32_w]
      rfl
     refine take_ (i := 1) (N := some 40) (v := ?_) (a' := ?_) #[true, true, false, false, false] rfl rfl (by kernel_rfl) (fun _ _ _ h => h) (Or.inl ⟨by rfl, ?_⟩) hHeld ?_ ?_
     rotate_left
     ·rintro w' ⟨s0, s1, s2, s3, s4, s5, s6, s7⟩
      go_simp
      with_reducible rfl
     rotate_left
     ·simp only [Act.put, List.setIfInBounds_toArray, List.set_cons_zero, List.set_cons_succ, i64_w, i32_w]
      rfl
     refine one_ (i := 2) (N := some 41) #[true, true, true, false, false] rfl rfl (by kernel_rfl) (by decide) (fun K hK => ?_)
     refine goes_ Try.func34 (by kernel_rfl) rfl #[.agg #[.int .i64 a0_0, .slice A0_1 l0_1.length c0_1, .int .i64 a0_2, .slice A0_3 l0_3.length c0_3]] (by rfl) rfl rfl (by (try simp only [List.map_toArray, List.map_cons, List.map_nil]); first | done | rfl | (simp only [List.length_drop, List.length_take]; rfl)) ?_
     with_reducible refine (laws_toCover.calls k a0_0 _ _ l0_1 a0_2 _ _ l0_3 t763 t764 t767 t768 _ ?side1 ?side2 ?side3 ?side4 A14.out).mono ?_
     (case side1 => exact (Kd.C_below HR0_1.out HB.out))
     (case side2 => exact HC0_1.out)
     (case side3 => exact (Kd.C_below HR0_3.out HB.out))
     (case side4 => exact HC0_3.out)
     rintro e w37 ⟨v765, v769, rfl, ⟨bm38, hm1_, hm2_, ho0, ho1⟩, hb⟩
     refine ⟨_, rfl, ?_⟩
     have n0_ := Aside0.mk (blk_below (g := gb740) (o := .cells #[.int .i64 a0_0, .slice A0_1 l0_1.length c0_1, .int .i64 a0_2, .slice A0_3 l0_3.length c0_3] 42 (0, 0)) (by (with_reducible repeat (first | refine blk_drewN ?_ _ | refine blk_drew ?_ | refine blk_alloc ?_ _)); exact BK740.out) hb)
     have n1_ := Aside0.mk (Kd.S_below HO745.out hb)
     have n2_ := Aside0.mk (Kd.S_below HO749.out hb)
     have n3_ := Aside0.mk (Kd.S_below HO755.out hb)
     have n4_ := Aside0.mk (Kd.S_below HO759.out hb)
     have n5_ := Aside0.mk (blk_below (g := gb760) (o := .cells #[.int .i64 t752, .slice Ao29 t753.length co29, .int .i64 t756, .slice Ao30 t757.length co30] 46 (0, 0)) (by (with_reducible repeat (first | refine blk_drewN ?_ _ | refine blk_drew ?_ | refine blk_alloc ?_ _)); exact BK760.out) hb)
     have n6_ := Aside0.mk (Kd.S_lower (Kd.S_mono (Kd.S_bound ho0) (fun k_ hk_ => (⟨hk_.2.1, hk_.1⟩ : w36.heap.size ≤ k_ ∧ k_ < bm38))) HB.out.size)
     have n7_ := Aside0.mk (Kd.S_lower (Kd.S_mono (Kd.S_bound ho1) (fun k_ hk_ => (⟨hk_.1, hk_.2.2.1⟩ : bm38 ≤ k_ ∧ k_ < w37.heap.size))) HB.out.size)
     have n8_ := Aside0.mk (hm1_)
     have n9_ := Aside0.mk (hm2_)
     have n10_ := Aside0.mk (below_step HB.out hb)
     have n11_ := Aside0.mk (hb.size)
     clear BK740
     clear HO745
     clear HO749
     clear HO755
     clear HO759
     clear BK760
     clear HB
     have BK740 := n0_
     have HO745 := n1_
     have HO749 := n2_
     have HO755 := n3_
     have HO759 := n4_
     have BK760 := n5_
     have HO766 := n6_
     have HO770 := n7_
     have Zpbm38 := n8_
     have Zqbm38 := n9_
     have HB := n10_
     have Zw37 := n11_
     clear n0_ n1_ n2_ n3_ n4_ n5_ n6_ n7_ n8_ n9_ n10_ n11_
     (try clear hb)
     (try clear hkp)
     (try clear hd_)
     (try clear hm1_)
     (try clear hm2_)
     (try clear ho0)
     (try clear ho1)
     obtain ⟨Ao39, co39, eo39⟩ := Kd.S_slice HO766.out
     subst eo39
     obtain ⟨Ao40, co40, eo40⟩ := Kd.S_slice HO770.out
     subst eo40
     refine hK.out _ _ ⟨(blk_cell BK760.out 0).trans rfl, (blk_cell BK760.out 1).trans rfl, (blk_cell BK760.out 2).trans rfl, (blk_cell BK760.out 3).trans rfl, (blk_cell BK740.out 0).trans rfl, (blk_cell BK740.out 1).trans rfl, (blk_cell BK740.out 2).trans rfl, (blk_cell BK740.out 3).trans rfl⟩ (fun hHeld => ?_)
     clear hK K
     refine norm_ (a' := ?_) ?_ ?_
     rotate_left
     ·show Act.put _ (some 41) _ = _
      simp only [Act.put, List.setIfInBounds_toArray, List.set_cons_zero, List.set_cons_succ, i64_w, i32_w]
      rfl
     refine one_ (i := 3) (N := some 42) #[true, true, true, true, false] rfl rfl (by kernel_rfl) (by decide) (fun K hK => ?_)
     refine goes_ Try.func36 (by kernel_rfl) rfl #[.agg #[.int .i64 t752, .slice Ao29 t753.length co29, .int .i64 t756, .slice Ao30 t757.length co30], .agg #[.int .i64 t763, .slice Ao39 t764.length co39, .int .i64 t767, .slice Ao40 t768.length co40]] (by rfl) rfl rfl (by (try simp only [List.map_toArray, List.map_cons, List.map_nil]); first | done | rfl | (simp only [List.length_drop, List.length_take]; rfl)) ?_
     with_reducible refine (laws_eqCover.calls k t752 _ _ t753 t756 _ _ t757 t763 _ _ t764 t767 _ _ t768 true _ ?side1 ?side2 ?side3 ?side4 ?side5 ?side6 ?side7 ?side8 A15.out).mono ?_
     (case side1 => exact (Kd.S_reads' HO755.out).2.2)
     (case side2 => (have e_ := Kd.S_reads' HO755.out; have e1_ := e_.1; have e2_ := e_.2.1; omega))
     (case side3 => exact (Kd.S_reads' HO759.out).2.2)
     (case side4 => (have e_ := Kd.S_reads' HO759.out; have e1_ := e_.1; have e2_ := e_.2.1; omega))
     (case side5 => exact (Kd.S_reads' HO766.out).2.2)
     (case side6 => (have e_ := Kd.S_reads' HO766.out; have e1_ := e_.1; have e2_ := e_.2.1; omega))
     (case side7 => exact (Kd.S_reads' HO770.out).2.2)
     (case side8 => (have e_ := Kd.S_reads' HO770.out; have e1_ := e_.1; have e2_ := e_.2.1; omega))
     rintro e w41 ⟨rfl, hb⟩
     refine ⟨_, rfl, ?_⟩
     have n0_ := Aside0.mk (blk_below (g := gb740) (o := .cells #[.int .i64 a0_0, .slice A0_1 l0_1.length c0_1, .int .i64 a0_2, .slice A0_3 l0_3.length c0_3] 42 (0, 0)) (by (with_reducible repeat (first | refine blk_drewN ?_ _ | refine blk_drew ?_ | refine blk_alloc ?_ _)); exact BK740.out) hb)
     have n1_ := Aside0.mk (Kd.S_below HO745.out hb)
     have n2_ := Aside0.mk (Kd.S_below HO749.out hb)
     have n3_ := Aside0.mk (Kd.S_below HO755.out hb)
     have n4_ := Aside0.mk (Kd.S_below HO759.out hb)
     have n5_ := Aside0.mk (blk_below (g := gb760) (o := .cells #[.int .i64 t752, .slice Ao29 t753.length co29, .int .i64 t756, .slice Ao30 t757.length co30] 46 (0, 0)) (by (with_reducible repeat (first | refine blk_drewN ?_ _ | refine blk_drew ?_ | refine blk_alloc ?_ _)); exact BK760.out) hb)
     have n6_ := Aside0.mk (Kd.S_below HO766.out hb)
     have n7_ := Aside0.mk (Kd.S_below HO770.out hb)
     have n8_ := Aside0.mk (below_step HB.out hb)
     have n9_ := Aside0.mk (hb.size)
     clear BK740
     clear HO745
     clear HO749
     clear HO755
     clear HO759
     clear BK760
     clear HO766
     clear HO770
     clear HB
     have BK740 := n0_
     have HO745 := n1_
     have HO749 := n2_
     have HO755 := n3_
     have HO759 := n4_
     have BK760 := n5_
     have HO766 := n6_
     have HO770 := n7_
     have HB := n8_
     have Zw41 := n9_
     clear n0_ n1_ n2_ n3_ n4_ n5_ n6_ n7_ n8_ n9_
     (try clear hb)
     (try clear hkp)
     (try clear hd_)
     refine hK.out _ _ ⟨(blk_cell BK760.out 0).trans rfl, (blk_cell BK760.out 1).trans rfl, (blk_cell BK760.out 2).trans rfl, (blk_cell BK760.out 3).trans rfl, (blk_cell BK740.out 0).trans rfl, (blk_cell BK740.out 1).trans rfl, (blk_cell BK740.out 2).trans rfl, (blk_cell BK740.out 3).trans rfl⟩ (fun hHeld => ?_)
     clear hK K
     refine norm_ (a' := ?_) ?_ ?_
     rotate_left
     ·show Act.put _ (some 42) _ = _
      simp only [Act.put, List.setIfInBounds_toArray, List.set_cons_zero, List.set_cons_succ, i64_w, i32_w]
      rfl
     refine pure_ (i := 4) (N := some 43) (v := ?_) (a' := ?_) #[true, true, true, true, true] rfl rfl (by kernel_rfl) (fun _ _ _ h => h) (Or.inl ⟨by rfl, ?_⟩) ?_ ?_
     rotate_left
     ·intro w'
      go_simp
      with_reducible rfl
     rotate_left
     ·simp only [Act.put, List.setIfInBounds_toArray, List.set_cons_zero, List.set_cons_succ, i64_w, i32_w]
      rfl
     refine done_ (by kernel_rfl) ?_
     try go_wp2
     go_ret
     exact ⟨by first | rfl | (simp [errW_none, errW_some] <;> rfl) | (simp [*, errW_none, errW_some] <;> rfl), by repeat (first | (with_reducible first | exact HB.out | apply below_alloc | apply pw_below_drewN | apply below_drew1 | refine below_set ?_ GE740.out | refine below_set ?_ GE760.out) | exact HB.out)⟩
    ·replace c16 := Bool.eq_false_iff.mpr c16
     subst c16
     have H1 : (some false) = some true := by rw [if_neg (show ¬ (false = true) by decide)] at H; exact H
     clear H
     have H := H1
     clear H1
     exact absurd H (by simp)
   ·rw [if_neg c13] at H
    have c13b0 : (t762 == t751) = false := beq_eq_false_iff_ne.mpr c13
    have c13b1 : (t762 != t751) = true := bne_iff_ne.mpr c13
    exact absurd H (by simp)
  ·rw [if_neg c12] at H
   have c12b0 : (t761 == t750) = false := beq_eq_false_iff_ne.mpr c12
   have c12b1 : (t761 != t750) = true := bne_iff_ne.mpr c12
   exact absurd H (by simp)

/-- THE ONE PURE STATEMENT of laws_FnExactProjectVertex: yours. -/
def laws_FnExactProjectVertex.Pure : Prop := ∀ (a0_0 : Int) (l0_1 : List (List Int)) (a0_2 : Int) (l0_3 : List (List Int)) (a1 : Int), (Lit.int .i64 a0_0).wf = true → l0_1.length ≤ maxLen → (∀ r ∈ l0_1, r.length ≤ maxLen ∧ ∀ y ∈ r, (Lit.int .i64 y).wf = true) → (Lit.int .i64 a0_2).wf = true → l0_3.length ≤ maxLen → (∀ r ∈ l0_3, r.length ≤ maxLen ∧ ∀ y ∈ r, (Lit.int .i64 y).wf = true) → (Lit.int .i64 a1).wf = true → ∃ k, laws_FnExactProjectVertex.f k a0_0 l0_1 a0_2 l0_3 a1 = some true
theorem laws_FnExactProjectVertex.walk (P : laws_FnExactProjectVertex.Pure) (a0_0 : Int) (A0_1 : Option Addr) (c0_1 : Nat) (l0_1 : List (List Int)) (a0_2 : Int) (A0_3 : Option Addr) (c0_3 : Nat) (l0_3 : List (List Int)) (a1 : Int) (w : World) (hw0_0 : (Lit.int .i64 a0_0).wf = true) (hm0_1 : l0_1.length ≤ maxLen) (hw0_1 : (∀ r ∈ l0_1, r.length ≤ maxLen ∧ ∀ y ∈ r, (Lit.int .i64 y).wf = true)) (hr0_1 : Kd.C (Kd.slice 2 (Kd.int .i64)) w A0_1 l0_1.length l0_1) (hc0_1 : l0_1.length ≤ c0_1) (hw0_2 : (Lit.int .i64 a0_2).wf = true) (hm0_3 : l0_3.length ≤ maxLen) (hw0_3 : (∀ r ∈ l0_3, r.length ≤ maxLen ∧ ∀ y ∈ r, (Lit.int .i64 y).wf = true)) (hr0_3 : Kd.C (Kd.slice 2 (Kd.int .i64)) w A0_3 l0_3.length l0_3) (hc0_3 : l0_3.length ≤ c0_3) (hw1 : (Lit.int .i64 a1).wf = true) :
  Calls Try.prog 10 #[.agg #[.int .i64 a0_0, .slice A0_1 l0_1.length c0_1, .int .i64 a0_2, .slice A0_3 l0_3.length c0_3], .int .i64 a1] w fun e w' => e = .returned (.bool true) ∧ Below w.heap.size w w' := by
 obtain ⟨k, h⟩ := P a0_0 l0_1 a0_2 l0_3 a1 hw0_0 hm0_1 hw0_1 hw0_2 hm0_3 hw0_3 hw1
 refine (laws_FnExactProjectVertex.calls k a0_0 _ _ l0_1 a0_2 _ _ l0_3 a1 w hr0_1 hc0_1 hr0_3 hc0_3 h).mono ?_
 rintro e w' ⟨rfl, hd⟩
 exact ⟨rfl, hd⟩

end Go.Proofs.Ytedhnaljedonfaa.G
