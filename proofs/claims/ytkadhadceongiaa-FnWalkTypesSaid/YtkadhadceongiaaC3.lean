/- The printed functions that this law reaches, and their contracts: part 3. -/
-- printed by this repo's wip/printer out of the kit's print with its own changes
import Derived.Test.YtkadhadceongiaaC2
namespace Go.Proofs.Ytkadhadceongiaa.G
open Go.RowKit Go.Proofs.YtkadhadceongiaaW.PrintWords Go.Proofs.YtkadhadceongiaaW.PrintLast Go.Proofs.YtkadhadceongiaaW.PrintMore
attribute [local go_sem] max2_int min2_int max_two min_two max_three min_three max_four min_four   -- for this text's walks alone
set_option linter.unusedVariables false
set_option linter.unusedSimpArgs false

/-! ### spec_l02Walk: function 104 -/
mutual
def spec_l02Walk.j0 : Nat → List Int → Int → Bool → List Int → Int → Int → Int → List (List Int) → Option (List Int × Int × Int)
 | 0, _, _, _, _, _, _, _, _ => none
 | k + 1, x5, x6, x25, x1000, x1001, x1002, x448000, x448001 => if x25 = true then (some (x5, x1001, x1002)) else ((spec_l01Next.f x1000 x1001 x1002 6).bind fun bt452 => (spec_l02Walk.l0 k x5 x6 (wrap64 (1 + bt452.1)) x1000 bt452.2.1 bt452.2.2 x448000 x448001))
def spec_l02Walk.l0 : Nat → List Int → Int → Int → List Int → Int → Int → Int → List (List Int) → Option (List Int × Int × Int)
 | 0, _, _, _, _, _, _, _, _ => none
 | k + 1, x5, x6, x7, x1000, x1001, x1002, x448000, x448001 => if x7 > 0 then ((spec_l01Next.f x1000 x1001 x1002 x6).bind fun bt461 => (if (x5.length : Int) > 0 then (if 0 ≤ (wrap64 ((x5.length : Int) - 1)) then (if (wrap64 ((x5.length : Int) - 1)) < (x5.length : Int) then ((spec_l01Ends.f x448000 x448001 (rd x5 (wrap64 ((x5.length : Int) - 1)))).bind fun bt465 => (spec_l02Walk.l1 k x5 x6 x7 bt461.1 bt465.2 0 x1000 bt461.2.1 bt461.2.2 x448000 x448001)) else (none)) else (none)) else (spec_l02Walk.j3 k x5 x6 x7 bt461.1 x1000 bt461.2.1 bt461.2.2 x448000 x448001))) else ((spec_l01Next.f x1000 x1001 x1002 24).bind fun bt455 => (if bt455.1 = 0 then (if x5.length < 17592186044416 then (some ((x5 ++ [x6]), bt455.2.1, bt455.2.2)) else (none)) else (some (x5, bt455.2.1, bt455.2.2))))
def spec_l02Walk.j3 : Nat → List Int → Int → Int → Int → List Int → Int → Int → Int → List (List Int) → Option (List Int × Int × Int)
 | 0, _, _, _, _, _, _, _, _, _ => none
 | k + 1, x5, x6, x7, x8, x1000, x1001, x1002, x448000, x448001 => if x5.length < 17592186044416 then ((some (x5 ++ [x8] : List Int)).bind fun y469 => ((spec_l02Closed.f k x448000 x448001 y469).bind fun t472 => (if t472 = true then ((spec_l01Next.f x1000 x1001 x1002 3).bind fun bt473 => (if bt473.1 > 0 then ((spec_l01Next.f x1000 bt473.2.1 bt473.2.2 24).bind fun bt476 => (if bt476.1 = 0 then (if y469.length < 17592186044416 then (some ((y469 ++ [x6]), bt476.2.1, bt476.2.2)) else (none)) else (some (y469, bt476.2.1, bt476.2.2)))) else (spec_l02Walk.l0 k y469 x6 (wrap64 (x7 - 1)) x1000 bt473.2.1 bt473.2.2 x448000 x448001))) else (spec_l02Walk.l0 k y469 x6 (wrap64 (x7 - 1)) x1000 x1001 x1002 x448000 x448001)))) else (none)
def spec_l02Walk.l1 : Nat → List Int → Int → Int → Int → Int → Int → List Int → Int → Int → Int → List (List Int) → Option (List Int × Int × Int)
 | 0, _, _, _, _, _, _, _, _, _, _, _ => none
 | k + 1, x5, x6, x7, x8, x10, x11, x1000, x1001, x1002, x448000, x448001 => if x11 < x6 then (if x6 = 0 then (none) else ((spec_l01Ends.f x448000 x448001 (Int.tmod (wrap64 (x8 + x11)) x6)).bind fun bt467 => (if bt467.1 = x10 then (spec_l02Walk.j3 k x5 x6 x7 (Int.tmod (wrap64 (x8 + x11)) x6) x1000 x1001 x1002 x448000 x448001) else (spec_l02Walk.l1 k x5 x6 x7 x8 x10 (wrap64 (x11 + 1)) x1000 x1001 x1002 x448000 x448001)))) else (spec_l02Walk.j3 k x5 x6 x7 x8 x1000 x1001 x1002 x448000 x448001)
end
def spec_l02Walk.f (k : Nat) (s0_0 : List Int) (s0_1 : Int) (s0_2 : Int) (a1_0 : Int) (l1_1 : List (List Int)) : Option (List Int × Int × Int) := (some (([] : List Int) : List Int)).bind fun y448 => (if (wrap64 (2 * (l1_1.length : Int))) = 0 then (spec_l02Walk.j0 k y448 (wrap64 (2 * (l1_1.length : Int))) true s0_0 s0_1 s0_2 a1_0 l1_1) else ((spec_l01Is.f k a1_0 l1_1).bind fun t451 => (spec_l02Walk.j0 k y448 (wrap64 (2 * (l1_1.length : Int))) (!t451) s0_0 s0_1 s0_2 a1_0 l1_1)))
def spec_l02Walk.T9 : Bool × List (List Nat × List Nat) := (true, [([], []), ([], []), ([], []), ([2], [2]), ([3], [3]), ([1, 4], [1, 4]), ([5], [5]), ([0, 6], [0, 6]), ([7], [7]), ([8], [8]), ([8], [8]), ([9, 7, 0, 1, 2, 3, 4, 5, 6, 7, 8, 9], [9]), ([10, 11, 0, 1, 2, 3, 4, 5, 6, 7, 8, 9, 10, 11], [10])])
def spec_l02Walk.B9 : List Nat := [0, 0, 0, 4, 12, 30, 62, 127, 255, 511, 511, 1023, 4095]
theorem spec_l02Walk.tab9 : rtab .any (opsOf Try.f104 9) = spec_l02Walk.T9 := by kernel_rfl
theorem spec_l02Walk.bits9 : waitsOk spec_l02Walk.T9.2 spec_l02Walk.B9 = true := by kernel_rfl
def spec_l02Walk.T13 : Bool × List (List Nat × List Nat) := (true, [([], []), ([], []), ([], []), ([1, 2], [1, 2]), ([], []), ([3, 4], [3, 4]), ([0, 5], [0, 5]), ([6], [6]), ([7], [7]), ([7], [7]), ([8, 6, 0, 1, 2, 3, 4, 5, 6, 7, 8], [8]), ([9, 10, 0, 1, 2, 3, 4, 5, 6, 7, 8, 9, 10], [9])])
def spec_l02Walk.B13 : List Nat := [0, 0, 0, 6, 0, 30, 63, 127, 255, 255, 511, 2047]
theorem spec_l02Walk.tab13 : rtab .any (opsOf Try.f104 13) = spec_l02Walk.T13 := by kernel_rfl
theorem spec_l02Walk.bits13 : waitsOk spec_l02Walk.T13.2 spec_l02Walk.B13 = true := by kernel_rfl
set_option maxHeartbeats 8000000 in
set_option maxRecDepth 100000 in
theorem spec_l02Walk.calls (k : Nat) (g : Nat) (s0_0 : List Int) (s0_1 : Int) (s0_2 : Int) (a1_0 : Int) (A1_1 : Option Addr) (c1_1 : Nat) (l1_1 : List (List Int)) (r1 : List Int) (r2 : Int) (r3 : Int) (w0 w : World) (hI : IsS131 w0 w g s0_0 s0_1 s0_2) (hB : Below w0.heap.size w0 w) (hr1_1 : ∀ W_, KeepBut w W_ g none → Kd.C (Kd.slice 2 (Kd.int .i64)) W_ A1_1 l1_1.length l1_1) (hc1_1 : l1_1.length ≤ c1_1) (h : spec_l02Walk.f k s0_0 s0_1 s0_2 a1_0 l1_1 = some (r1, r2, r3)) :
  Calls Try.prog 104 #[.pointer (some ⟨g, 0, none⟩), .agg #[.int .i64 a1_0, .slice A1_1 l1_1.length c1_1]] w fun e w' => ∃ v0_ : Value, e = .returned (v0_) ∧ Kd.R (Kd.int .i64) 2 w' w.heap.size (fun _ => True) v0_ r1 ∧ IsS131 w0 w' g s0_0 r2 r3 ∧ Below w0.heap.size w0 w' ∧ KeepBut w w' g none := by
 have hu26 := Try.underlying26
 have HR1_1 := m_ hr1_1
 have HC1_1 := m_ hc1_1
 clear hr1_1 hc1_1
 have HI0 := m_ hI
 have HK := m_ (KeepBut.refl w g none)
 have HL := m_ hB.size
 clear hI
 have HW0 := m_ hB.size
 have HB := m_ hB
 clear hB
 have H : ((some (([] : List Int) : List Int)).bind fun y448 => (if (wrap64 (2 * (l1_1.length : Int))) = 0 then (spec_l02Walk.j0 k y448 (wrap64 (2 * (l1_1.length : Int))) true s0_0 s0_1 s0_2 a1_0 l1_1) else ((spec_l01Is.f k a1_0 l1_1).bind fun t451 => (spec_l02Walk.j0 k y448 (wrap64 (2 * (l1_1.length : Int))) (!t451) s0_0 s0_1 s0_2 a1_0 l1_1)))) = some (r1, r2, r3) := h
 clear h
 rw [Option.bind_some] at H
 obtain ⟨y448, Ny448, H⟩ : ∃ y448 : List Int, Aside0 (y448 = (([] : List Int))) ∧ (if (wrap64 (2 * (l1_1.length : Int))) = 0 then (spec_l02Walk.j0 k y448 (wrap64 (2 * (l1_1.length : Int))) true s0_0 s0_1 s0_2 a1_0 l1_1) else ((spec_l01Is.f k a1_0 l1_1).bind fun t451 => (spec_l02Walk.j0 k y448 (wrap64 (2 * (l1_1.length : Int))) (!t451) s0_0 s0_1 s0_2 a1_0 l1_1))) = some (r1, r2, r3) := ⟨_, ⟨rfl⟩, H⟩
 have HC3 := m_ H
 clear H
 go_enter Try.func104, Try.ntmps104
 try go_wp2_with (first | ((with_reducible refine gate_dst (N := 3) rfl ?_); refine bx_ (N := 3) (cs := #[.int .i64 a1_0, .slice A1_1 l1_1.length c1_1]) (t := 26) ?_; intro gb447 hg w4 hbox hb; replace HB := m_ (below_step IsS131.hb_ hb); have BK447 := m_ (hbox); have GW447 := m_ ((by rw [hg]; exact (keep_size (w := w) (g := g) (row := none) kp_) : w.heap.size ≤ gb447)); have GE447 := m_ (Nat.le_trans HW0.out GW447.out); replace HK := m_ (KeepBut.trans kp_ (KeepBut.of_below hb g none) (.inl rfl)); have NB0_447 := m_ ((by rw [hg]; exact Nat.ne_of_lt (IsS131.lt (show IsS131 w0 _ g s0_0 s0_1 s0_2 from IsS131.go_)) : g ≠ gb447)); have NB447_0 := m_ NB0_447.out.symm; replace HI0 := m_ (IsS131.below IsS131.go_ hb); clear hb hbox hg))
 replace BK447 := m_ (blk_drew BK447.out)
 replace HI0 := m_ (IsS131.drew HI0.out)
 replace HK := m_ (keep_drew HK.out)
 replace HB := m_ (below_drew1 HB.out)
 refine start_ (n := 7) (S := fun w' => w'.cell? ⟨gb447, 0, none⟩ = some (.int .i64 a1_0) ∧ w'.cell? ⟨gb447, 1, none⟩ = some (.slice A1_1 l1_1.length c1_1)) (ds := []) #[false, false, false, false, false, false, false] (by kernel_rfl) rfl rfl ⟨bc0_ BK447.out, bc1_ BK447.out⟩ (fun hHeld => ?_)
 generalize w4.drew = w5 at BK447 HI0 HK HB hHeld ⊢
 refine pure_ (i := 1) (N := some 15) (v := ?_) (a' := ?_) #[false, true, false, false, false, false, false] rfl rfl (by kernel_rfl) (fun _ _ _ h => h) (Or.inl ⟨by rfl, ?_⟩) ?_ ?_
 rotate_left
 ·intro w'
  go_simp
  with_reducible rfl
 rotate_left
 ·simp only [Act.put, nf_]
  rfl
 refine take_ (i := 2) (N := some 16) (v := ?_) (a' := ?_) #[false, true, true, false, false, false, false] rfl rfl (by kernel_rfl) (fun _ _ _ h => h) (Or.inl ⟨by rfl, ?_⟩) hHeld ?_ ?_
 rotate_left
 ·rintro w' ⟨s0, s1⟩
  go_simp
  with_reducible rfl
 rotate_left
 ·simp only [Act.put, nf_]
  rfl
 refine pure_ (i := 3) (N := some 17) (v := ?_) (a' := ?_) #[false, true, true, true, false, false, false] rfl rfl (by kernel_rfl) (fun _ _ _ h => h) (Or.inl ⟨by rfl, ?_⟩) ?_ ?_
 rotate_left
 ·intro w'
  go_simp
  with_reducible rfl
 rotate_left
 ·simp only [Act.put, nf_]
  rfl
 refine pure_ (i := 4) (N := some 18) (v := ?_) (a' := ?_) #[false, true, true, true, true, false, false] rfl rfl (by kernel_rfl) (fun _ _ _ h => h) (Or.inl ⟨by rfl, ?_⟩) ?_ ?_
 rotate_left
 ·intro w'
  go_simp
  with_reducible rfl
 rotate_left
 ·simp only [Act.put, nf_]
  rfl
 refine one_ (i := 0) (N := some 14) #[true, true, true, true, true, false, false] rfl rfl (by kernel_rfl) (by decide) (fun K hK => ?_)
 refine Kd.R_lit_step (Kd.int .i64) _ 2 ?hg (N := 14) ?hd (xs := ([] : List Int)) (inner := []) (ok := fun _ => True) (okp := fun _ => True) ?hr ?hp (fun _ hk => hk) trivial (Below.refl _ _) (Nat.le_refl _) (by simp) ?_; (case hd => rfl); (case hg => rfl); (case hr => first | (go_simp; done) | (go_simp; rfl)); (case hp => exact (Reps.none _ _))
 intro v449 w6 ho7 hb hg_ hnew_
 clear hg_ hnew_
 rw [← Ny448.out] at ho7
 have HO450 := m_ (Kd.R_lower ho7 (keep_size (w := w) (g := g) (row := none) kp_))
 replace BK447 := m_ (bb_ BK447.out hb)
 replace HK := m_ (KeepBut.trans kp_ (KeepBut.of_below hb g none) (.inl rfl))
 replace HB := m_ (below_step IsS131.hs_ hb)
 replace HI0 := m_ (IsS131.below IsS131.gs_ hb)
 clear hb ho7
 refine hK.out _ _ ⟨bc0_ BK447.out, bc1_ BK447.out⟩ (fun hHeld => ?_)
 clear hK K
 refine nm_ ?_
 refine pure_ (i := 5) (N := some 5) (v := ?_) (a' := ?_) #[true, true, true, true, true, true, false] rfl rfl (by kernel_rfl) (fun _ _ _ h => h) (Or.inl ⟨by rfl, ?_⟩) ?_ ?_
 rotate_left
 ·intro w'
  go_simp
  with_reducible rfl
 rotate_left
 ·simp only [Act.put, nf_]
  rfl
 refine pure_ (i := 6) (N := some 6) (v := ?_) (a' := ?_) #[true, true, true, true, true, true, true] rfl rfl (by kernel_rfl) (fun _ _ _ h => h) (Or.inl ⟨by rfl, ?_⟩) ?_ ?_
 rotate_left
 ·intro w'
  go_simp
  with_reducible rfl
 rotate_left
 ·simp only [Act.put, nf_]
  rfl
 refine done_ (by kernel_rfl) ?_
 go_upto_region 2 with (fail)
 go_cut [25] (fun v25 wc => ∃ (kq : Nat) (x25_2 : Bool), v25 = .bool x25_2 ∧ Aside0 (spec_l02Walk.j0 kq y448 (wrap64 (2 * (l1_1.length : Int))) x25_2 s0_0 s0_1 s0_2 a1_0 l1_1 = some (r1, r2, r3)) ∧ Aside0 (kq ≤ k) ∧ Aside0 (Kd.R (Kd.int .i64) 2 wc w.heap.size (fun _ => True) v449 y448) ∧ Aside0 (wc.heap[gb447]? = some (.cells #[.int .i64 a1_0, (.slice A1_1 l1_1.length c1_1)] 26 (0, 0))) ∧ Aside0 (IsS131 w0 wc g s0_0 s0_1 s0_2) ∧ Aside0 (KeepBut w wc g none) ∧ Aside0 (Below w0.heap.size w0 wc))
 case first =>
  have H := HC3.out
  clear HC3
  by_cases c8 : (wrap64 (2 * (l1_1.length : Int))) = 0
  ·rw [if_pos c8] at H
   have c8b0 : ((wrap64 (2 * (l1_1.length : Int))) == 0) = true := beq_iff_eq.mpr c8
   have c8b1 : ((wrap64 (2 * (l1_1.length : Int))) != 0) = false := bne_eq_false_iff_eq.mpr c8
   clear c8
   (first | rw [c8b0] | (simp only [i64_w, i32_w]; rw [c8b0]) | skip)
   have H' := m_ H
   clear H
   go_wp2
   go_meet
   case rel => exact ⟨_, (true), es_, H', ⟨by first | omega | exact Nat.le_refl _⟩, ⟨Kd.R_below HO450.out bgo_⟩, ⟨blk_below BK447.out bgo_⟩, ⟨IsS131.gs_⟩, ⟨kp_⟩, ⟨IsS131.hs_⟩⟩
  ·rw [if_neg c8] at H
   have c8b0 : ((wrap64 (2 * (l1_1.length : Int))) == 0) = false := beq_eq_false_iff_ne.mpr c8
   have c8b1 : ((wrap64 (2 * (l1_1.length : Int))) != 0) = true := bne_iff_ne.mpr c8
   (first | rw [c8b0] | (simp only [i64_w, i32_w]; rw [c8b0]) | skip)
   obtain ⟨t451, A9, H⟩ := bnd_ H
   have H' := m_ H
   clear H
   have hnb10 := NB447_0.out
   have hnc10 := NB0_447.out
   have hcz11_0 := bc0_ BK447.out
   have hcz11_1 := bc1_ BK447.out
   have hfz11_0 := blk_frozen BK447.out 0
   have hfz11_1 := blk_frozen BK447.out 1
   go_wp2_with (first | (go_at_call 137; (with_reducible refine (spec_l01Is.calls k a1_0 _ _ l1_1 t451 _ ?side1 ?side2 A9.out).mono ?_); (case side1 => exact Kd.C_foot_now HR1_1.out kp_); (case side2 => exact HC1_1.out); rintro e w12 ⟨rfl, hb⟩; replace HO450 := m_ (Kd.R_below (Kd.R_below HO450.out bgo_) hb); replace BK447 := m_ (bb_ BK447.out hb); replace HK := m_ (KeepBut.trans kp_ (KeepBut.of_below hb g none) (.inl rfl)); replace HB := m_ (below_step IsS131.hs_ hb); replace HI0 := m_ (IsS131.below IsS131.gs_ hb); clear hb))
   go_meet
   case rel => exact ⟨_, (!t451), es_, H', ⟨by first | omega | exact Nat.le_refl _⟩, ⟨Kd.R_below HO450.out bgo_⟩, ⟨blk_below BK447.out bgo_⟩, ⟨IsS131.gs_⟩, ⟨kp_⟩, ⟨IsS131.hs_⟩⟩
 case rest =>
  clear HC3
  obtain ⟨kq, x25_2, rfl, HA, HJ2, HO_5, BK447, HI0, HK, HB⟩ := hcut
  cases kq with
  | zero => exact absurd HA.out (by simp [spec_l02Walk.j0])
  | succ kj2 =>
   have H := HA.out
   clear HA
   simp only [spec_l02Walk.j0] at H
   by_cases c13 : x25_2 = true
   ·subst c13
    have H1 : (some (y448, s0_1, s0_2)) = some (r1, r2, r3) := by rw [if_pos rfl] at H; exact H
    clear H
    have H := H1
    clear H1
    simp only [Option.some.injEq, Prod.mk.injEq] at H
    obtain ⟨rfl, rfl, rfl⟩ := H
    go_wp2
    go_ret
    exact ⟨_, er_, (Kd.R_below HO_5.out bgo_), IsS131.gs_, IsS131.hs_, kp_⟩
   ·replace c13 := Bool.eq_false_iff.mpr c13
    subst c13
    have H1 : ((spec_l01Next.f s0_0 s0_1 s0_2 6).bind fun bt452 => (spec_l02Walk.l0 kj2 y448 (wrap64 (2 * (l1_1.length : Int))) (wrap64 (1 + bt452.1)) s0_0 bt452.2.1 bt452.2.2 a1_0 l1_1)) = some (r1, r2, r3) := by rw [if_neg (show ¬ (false = true) by decide)] at H; exact H
    clear H
    have H := H1
    clear H1
    obtain ⟨⟨t452, t453, t454⟩, A14, H⟩ := bnd_ H
    dsimp only at H
    have H' := m_ H
    clear H
    go_wp2_with (first | ((with_reducible refine gate_callee (f := 171) rfl ?_); refine gl_ (some 28) Try.func171 #[.pointer (some ⟨g, 0, none⟩), .int .i64 6] ?_; (with_reducible refine (spec_l01Next.calls g s0_0 s0_1 s0_2 6 t452 t453 t454 w0 _ ?side1 ?side2 A14.out).mono ?_); (case side1 => exact IsS131.gs_); (case side2 => exact IsS131.hs_); rintro e w15 ⟨rfl, hi, hb, hk⟩; refine ⟨_, rfl, ?_⟩; replace HO_5 := m_ (Kd.R_mono (Kd.R_keep (IsS131.apart (show IsS131 w0 _ g s0_0 s0_1 s0_2 from IsS131.gs_) (Kd.R_below HO_5.out bgo_) (by decide)) hk (fun _ h => h.2)) (fun _ h => h.1)); replace BK447 := m_ (KeepBut.blk hk (blk_below BK447.out bgo_) NB447_0.out (by simp)); replace HK := m_ (KeepBut.trans kp_ hk (.inl rfl)); replace HB := m_ (hb); replace HI0 := m_ (hi); clear hi hb hk))
    go_loopg [5, 7] kj2 (fun kq v5 v7 w' => ∃ (x5_2 : List Int) (x7_2 : Int) (x1001_2 : Int) (x1002_2 : Int), v7 = .int .i64 x7_2 ∧ Aside0 (spec_l02Walk.l0 kq x5_2 (wrap64 (2 * (l1_1.length : Int))) x7_2 s0_0 x1001_2 x1002_2 a1_0 l1_1 = some (r1, r2, r3)) ∧ Aside0 (kq ≤ kj2) ∧ Aside0 (Kd.R (Kd.int .i64) 2 w' w.heap.size (fun _ => True) v5 x5_2) ∧ Aside0 (w'.heap[gb447]? = some (.cells #[.int .i64 a1_0, (.slice A1_1 l1_1.length c1_1)] 26 (0, 0))) ∧ Aside0 (IsS131 w0 w' g s0_0 x1001_2 x1002_2) ∧ Aside0 (KeepBut w w' g none) ∧ Aside0 (Below w0.heap.size w0 w'))
    case atStart => exact ⟨(y448), (wrap64 (1 + t452)), (t453), (t454), es_, H', ⟨Nat.le_refl _⟩, ⟨Kd.R_below HO_5.out bgo_⟩, ⟨blk_below BK447.out bgo_⟩, ⟨IsS131.gs_⟩, ⟨kp_⟩, ⟨IsS131.hs_⟩⟩
    case round =>
     clear H'
     obtain ⟨x5_2, x7_2, x1001_2, x1002_2, rfl, HA, HK2, HO_5, BK447, HI0, HK, HB⟩ := hrel
     cases gk with
     | zero => exact absurd HA.out (by simp [spec_l02Walk.l0])
     | succ k2 =>
      have H := HA.out
      clear HA
      simp only [spec_l02Walk.l0] at H
      by_cases c16 : x7_2 > 0
      ·rw [if_pos c16] at H
       have c16b0 := decide_eq_true c16
       clear c16
       obtain ⟨⟨t461, t462, t463⟩, A17, H⟩ := bnd_ H
       dsimp only at H
       have HC18 := m_ H
       clear H
       go_upto_if 39 with (first | ((with_reducible refine gate_callee (f := 171) rfl ?_); refine gl_ (some 36) Try.func171 #[.pointer (some ⟨g, 0, none⟩), .int .i64 (wrap64 (2 * (l1_1.length : Int)))] ?_; (with_reducible refine (spec_l01Next.calls g s0_0 x1001_2 x1002_2 (wrap64 (2 * (l1_1.length : Int))) t461 t462 t463 w0 _ ?side1 ?side2 A17.out).mono ?_); (case side1 => exact IsS131.gs_); (case side2 => exact IsS131.hs_); rintro e w19 ⟨rfl, hi, hb, hk⟩; refine ⟨_, rfl, ?_⟩; replace HO_5 := m_ (Kd.R_mono (Kd.R_keep (IsS131.apart (show IsS131 w0 _ g s0_0 x1001_2 x1002_2 from IsS131.gs_) (Kd.R_below HO_5.out bgo_) (by decide)) hk (fun _ h => h.2)) (fun _ h => h.1)); replace BK447 := m_ (KeepBut.blk hk (blk_below BK447.out bgo_) NB447_0.out (by simp)); replace HK := m_ (KeepBut.trans kp_ hk (.inl rfl)); replace HB := m_ (hb); replace HI0 := m_ (hi); clear hi hb hk; obtain ⟨Ao20, co20, eo20⟩ := Kd.R_slice HO_5.out; subst eo20))
       (try simp only [Act.put, List.setIfInBounds_toArray, List.set_cons_zero, List.set_cons_succ])
       go_cut [8] (fun v8 wc => ∃ (kq : Nat) (x8_17 : Int), v8 = .int .i64 x8_17 ∧ Aside0 (spec_l02Walk.j3 kq x5_2 (wrap64 (2 * (l1_1.length : Int))) x7_2 x8_17 s0_0 t462 t463 a1_0 l1_1 = some (r1, r2, r3)) ∧ Aside0 (kq ≤ k2) ∧ Aside0 (Kd.R (Kd.int .i64) 2 wc w.heap.size (fun _ => True) (.slice Ao20 x5_2.length co20) x5_2) ∧ Aside0 (wc.heap[gb447]? = some (.cells #[.int .i64 a1_0, (.slice A1_1 l1_1.length c1_1)] 26 (0, 0))) ∧ Aside0 (IsS131 w0 wc g s0_0 t462 t463) ∧ Aside0 (KeepBut w wc g none) ∧ Aside0 (Below w0.heap.size w0 wc))
       case first =>
        have H := HC18.out
        clear HC18
        by_cases c21 : (x5_2.length : Int) > 0
        ·rw [if_pos c21] at H
         have c21b0 := decide_eq_true c21
         have c21b1 : decide (0 < x5_2.length) = true := decide_eq_true (by omega)
         clear c21
         (first | rw [c21b0] | (simp only [i64_w, i32_w]; rw [c21b0]) | rw [c21b1] | skip)
         obtain ⟨ji22, hji22⟩ : ∃ j_ : Int, (wrap64 ((x5_2.length : Int) - 1)) = j_ := ⟨_, rfl⟩
         (try rw [hji22])
         replace H : (if 0 ≤ (ji22) then (if (ji22) < (x5_2.length : Int) then ((spec_l01Ends.f a1_0 l1_1 (rd x5_2 (ji22))).bind fun bt465 => (spec_l02Walk.l1 k2 x5_2 (wrap64 (2 * (l1_1.length : Int))) x7_2 t461 bt465.2 0 s0_0 t462 t463 a1_0 l1_1)) else (none)) else (none)) = some (r1, r2, r3) := by first | (rw [hji22] at H; exact H) | (simp only [hji22] at H ⊢; exact H)
         have hji22w : (IntKind.i64.wrap ((x5_2.length : Int) - 1)) = ji22 := (i64_w _).trans hji22
         obtain ⟨c23, H⟩ := itn_ H
         have c23b0 := decide_eq_true c23
         clear c23
         obtain ⟨c24, H⟩ := itn_ H
         have c24b0 := decide_eq_true c24
         clear c24
         obtain ⟨⟨t465, t466⟩, A25, H⟩ := bnd_ H
         dsimp only at H
         have H' := m_ H
         clear H
         try go_wp2
         replace HO_5 := m_ (Kd.R_drew HO_5.out)
         replace BK447 := m_ (blk_drew BK447.out)
         replace HI0 := m_ (IsS131.drew HI0.out)
         replace HK := m_ (keep_drew HK.out)
         replace HB := m_ (below_drew1 HB.out)
         have p464 : 0 ≤ ((ji22) : Int) := od_
         have q464 : (ji22) < (x5_2.length : Int) := od_
         obtain ⟨ad464, e464, hx464_0⟩ := Kd.at_int (Kd.R_reads' HO_5.out).2.2 (ji22) p464 q464
         cases e464
         replace p464 := eq_true p464
         replace q464 := eq_true q464
         refine start_ (n := 13) (S := fun w' => w'.cell? ⟨gb447, 0, none⟩ = some (.int .i64 a1_0) ∧ w'.cell? ⟨gb447, 1, none⟩ = some (.slice A1_1 l1_1.length c1_1) ∧ w'.cell? (ad464.add ((ji22)).toNat) = some (.int .i64 (rd x5_2 (ji22)))) (ds := []) #[false, false, false, false, false, false, false, false, false, false, false, false, false] (by kernel_rfl) rfl rfl ⟨bc0_ BK447.out, bc1_ BK447.out, hx464_0⟩ (fun hHeld => ?_); refine with_tabW spec_l02Walk.tab9 spec_l02Walk.bits9 (fun HT_ HW_ => ?_)
         generalize w19.drew = w26 at HO_5 BK447 HI0 HK HB hx464_0 hHeld ⊢
         refine pk_ 1 13 42 2 ?_
         refine pk_ 2 13 43 6 ?_
         refine pk_ 3 13 44 14 ?_
         refine pk_ 4 13 45 30 ?_
         refine pk_ 5 13 46 62 ?_
         refine tk_ 0 13 41 63 hHeld ?_
         refine tk_ 6 13 47 127 hHeld ?_
         refine on_ 7 13 (some 48) 255 (fun K hK => ?_)
         refine goes_ Try.func152 (by kernel_rfl) rfl #[.agg #[.int .i64 a1_0, .slice A1_1 l1_1.length c1_1], .int .i64 (rd x5_2 (ji22))] (by rfl) rfl rfl (by (try simp only [List.map_toArray, List.map_cons, List.map_nil]); first | done | (simp only [hji22]; rfl) | rfl | (simp only [List.length_drop, List.length_take]; rfl)) ?_
         with_reducible refine (spec_l01Ends.calls a1_0 _ _ l1_1 (rd x5_2 (ji22)) t465 t466 _ ?side1 ?side2 A25.out).mono ?_
         (case side1 => exact Kd.C_foot_now HR1_1.out kp_)
         (case side2 => exact HC1_1.out)
         rintro e w27 ⟨rfl, hb⟩
         have HS2_ := (hb.cell (World.block_lt_of_cell? _ _ (hHeld.2.2))).trans (hHeld.2.2)
         refine ⟨_, rfl, ?_⟩
         replace HO_5 := m_ (Kd.R_below (Kd.R_below HO_5.out bgo_) hb)
         replace BK447 := m_ (bb_ BK447.out hb)
         replace HK := m_ (KeepBut.trans kp_ (KeepBut.of_below hb g none) (.inl rfl))
         replace HB := m_ (below_step IsS131.hs_ hb)
         replace HI0 := m_ (IsS131.below IsS131.gs_ hb)
         refine hK.out _ _ ⟨bc0_ BK447.out, bc1_ BK447.out, HS2_⟩ (fun hHeld => ?_)
         clear hK K
         refine nm_ ?_
         refine pk_ 8 13 40 511 ?_
         refine pk_ 9 13 49 1023 ?_
         refine pk_ 10 13 50 2047 ?_
         refine pk_ 11 13 9 4095 ?_
         refine pk_ 12 13 10 8191 ?_
         refine done_ (done_of HT_.out (by kernel_rfl)) ?_
         try go_wp2
         go_loopg [8, 11] k2 (fun kq v8 v11 w' => ∃ (x8_3 : Int) (x11_3 : Int), v8 = .int .i64 x8_3 ∧ v11 = .int .i64 x11_3 ∧ Aside0 (spec_l02Walk.l1 kq x5_2 (wrap64 (2 * (l1_1.length : Int))) x7_2 x8_3 t466 x11_3 s0_0 t462 t463 a1_0 l1_1 = some (r1, r2, r3)) ∧ Aside0 (kq ≤ k2) ∧ Aside0 (Kd.R (Kd.int .i64) 2 w' w.heap.size (fun _ => True) (.slice (some ad464) x5_2.length co20) x5_2) ∧ Aside0 (w'.heap[gb447]? = some (.cells #[.int .i64 a1_0, (.slice A1_1 l1_1.length c1_1)] 26 (0, 0))) ∧ Aside0 (IsS131 w0 w' g s0_0 t462 t463) ∧ Aside0 (KeepBut w w' g none) ∧ Aside0 (Below w0.heap.size w0 w'))
         case atStart => exact ⟨(t461), (0), es_, es_, H', ⟨Nat.le_refl _⟩, ⟨Kd.R_below HO_5.out bgo_⟩, ⟨blk_below BK447.out bgo_⟩, ⟨IsS131.gs_⟩, ⟨kp_⟩, ⟨IsS131.hs_⟩⟩
         case round =>
          clear H'
          obtain ⟨x8_3, x11_3, rfl, rfl, HA, HK3, HO_5, BK447, HI0, HK, HB⟩ := hrel
          cases gk with
          | zero => exact absurd HA.out (by simp [spec_l02Walk.l1])
          | succ k3 =>
           have H := HA.out
           clear HA
           simp only [spec_l02Walk.l1] at H
           by_cases c28 : x11_3 < (wrap64 (2 * (l1_1.length : Int)))
           ·rw [if_pos c28] at H
            have c28b0 := decide_eq_true c28
            clear c28
            by_cases c29 : (wrap64 (2 * (l1_1.length : Int))) = 0
            ·rw [if_pos c29] at H
             exact absurd H (by simp)
            ·rw [if_neg c29] at H
             have c29b0 : ((wrap64 (2 * (l1_1.length : Int))) == 0) = false := beq_eq_false_iff_ne.mpr c29
             have c29b1 : ((wrap64 (2 * (l1_1.length : Int))) != 0) = true := bne_iff_ne.mpr c29
             obtain ⟨⟨t467, t468⟩, A30, H⟩ := bnd_ H
             dsimp only at H
             by_cases c31 : t467 = t466
             ·rw [if_pos c31] at H
              have c31b0 : (t467 == t466) = true := beq_iff_eq.mpr c31
              have c31b1 : (t467 != t466) = false := bne_eq_false_iff_eq.mpr c31
              clear c31
              have H' := m_ H
              clear H
              try go_wp2
              replace HO_5 := m_ (Kd.R_drew HO_5.out)
              replace BK447 := m_ (blk_drew BK447.out)
              replace HI0 := m_ (IsS131.drew HI0.out)
              replace HK := m_ (keep_drew HK.out)
              replace HB := m_ (below_drew1 HB.out)
              refine start_ (n := 12) (S := fun w' => w'.cell? ⟨gb447, 0, none⟩ = some (.int .i64 a1_0) ∧ w'.cell? ⟨gb447, 1, none⟩ = some (.slice A1_1 l1_1.length c1_1)) (ds := []) #[false, false, false, false, false, false, false, false, false, false, false, false] (by kernel_rfl) rfl rfl ⟨bc0_ BK447.out, bc1_ BK447.out⟩ (fun hHeld => ?_); refine with_tabW spec_l02Walk.tab13 spec_l02Walk.bits13 (fun HT_ HW_ => ?_)
              generalize wr.drew = w32 at HO_5 BK447 HI0 HK HB hHeld ⊢
              refine pk_ 1 12 58 2 ?_
              refine pk_ 2 12 59 6 ?_
              refine pk_ 3 12 60 14 ?_
              refine pk_ 4 12 61 30 ?_
              refine pk_ 5 12 62 62 ?_
              refine tk_ 0 12 57 63 hHeld ?_
              refine on_ 6 12 (some 63) 127 (fun K hK => ?_)
              refine goes_ Try.func152 (by kernel_rfl) rfl #[.agg #[.int .i64 a1_0, .slice A1_1 l1_1.length c1_1], .int .i64 (Int.tmod (wrap64 (x8_3 + x11_3)) (wrap64 (2 * (l1_1.length : Int))))] (by rfl) rfl rfl arg_ ?_
              with_reducible refine (spec_l01Ends.calls a1_0 _ _ l1_1 (Int.tmod (wrap64 (x8_3 + x11_3)) (wrap64 (2 * (l1_1.length : Int)))) t467 t468 _ ?side1 ?side2 A30.out).mono ?_
              (case side1 => exact Kd.C_foot_now HR1_1.out kp_)
              (case side2 => exact HC1_1.out)
              rintro e w33 ⟨rfl, hb⟩
              refine ⟨_, rfl, ?_⟩
              replace HO_5 := m_ (Kd.R_below (Kd.R_below HO_5.out bgo_) hb)
              replace BK447 := m_ (bb_ BK447.out hb)
              replace HK := m_ (KeepBut.trans kp_ (KeepBut.of_below hb g none) (.inl rfl))
              replace HB := m_ (below_step IsS131.hs_ hb)
              replace HI0 := m_ (IsS131.below IsS131.gs_ hb)
              refine hK.out _ _ ⟨bc0_ BK447.out, bc1_ BK447.out⟩ (fun hHeld => ?_)
              clear hK K
              refine nm_ ?_
              refine pk_ 7 12 56 255 ?_
              refine pk_ 8 12 64 511 ?_
              refine pk_ 9 12 65 1023 ?_
              refine pk_ 10 12 12 2047 ?_
              refine pk_ 11 12 13 4095 ?_
              refine done_ (done_of HT_.out (by kernel_rfl)) ?_
              try go_wp2
              go_meet
              case rel => exact ⟨_, (Int.tmod (wrap64 (x8_3 + x11_3)) (wrap64 (2 * (l1_1.length : Int)))), es_, H', ⟨by have := HJ2.out; have := HK2.out; have := HK3.out; first | omega | exact Nat.le_refl _⟩, ⟨Kd.R_below HO_5.out bgo_⟩, ⟨blk_below BK447.out bgo_⟩, ⟨IsS131.gs_⟩, ⟨kp_⟩, ⟨IsS131.hs_⟩⟩
             ·rw [if_neg c31] at H
              have c31b0 : (t467 == t466) = false := beq_eq_false_iff_ne.mpr c31
              have c31b1 : (t467 != t466) = true := bne_iff_ne.mpr c31
              have H' := m_ H
              clear H
              try go_wp2
              replace HO_5 := m_ (Kd.R_drew HO_5.out)
              replace BK447 := m_ (blk_drew BK447.out)
              replace HI0 := m_ (IsS131.drew HI0.out)
              replace HK := m_ (keep_drew HK.out)
              replace HB := m_ (below_drew1 HB.out)
              refine start_ (n := 12) (S := fun w' => w'.cell? ⟨gb447, 0, none⟩ = some (.int .i64 a1_0) ∧ w'.cell? ⟨gb447, 1, none⟩ = some (.slice A1_1 l1_1.length c1_1)) (ds := []) #[false, false, false, false, false, false, false, false, false, false, false, false] (by kernel_rfl) rfl rfl ⟨bc0_ BK447.out, bc1_ BK447.out⟩ (fun hHeld => ?_); refine with_tabW spec_l02Walk.tab13 spec_l02Walk.bits13 (fun HT_ HW_ => ?_)
              generalize wr.drew = w34 at HO_5 BK447 HI0 HK HB hHeld ⊢
              refine pk_ 1 12 58 2 ?_
              refine pk_ 2 12 59 6 ?_
              refine pk_ 3 12 60 14 ?_
              refine pk_ 4 12 61 30 ?_
              refine pk_ 5 12 62 62 ?_
              refine tk_ 0 12 57 63 hHeld ?_
              refine on_ 6 12 (some 63) 127 (fun K hK => ?_)
              refine goes_ Try.func152 (by kernel_rfl) rfl #[.agg #[.int .i64 a1_0, .slice A1_1 l1_1.length c1_1], .int .i64 (Int.tmod (wrap64 (x8_3 + x11_3)) (wrap64 (2 * (l1_1.length : Int))))] (by rfl) rfl rfl arg_ ?_
              with_reducible refine (spec_l01Ends.calls a1_0 _ _ l1_1 (Int.tmod (wrap64 (x8_3 + x11_3)) (wrap64 (2 * (l1_1.length : Int)))) t467 t468 _ ?side1 ?side2 A30.out).mono ?_
              (case side1 => exact Kd.C_foot_now HR1_1.out kp_)
              (case side2 => exact HC1_1.out)
              rintro e w35 ⟨rfl, hb⟩
              refine ⟨_, rfl, ?_⟩
              replace HO_5 := m_ (Kd.R_below (Kd.R_below HO_5.out bgo_) hb)
              replace BK447 := m_ (bb_ BK447.out hb)
              replace HK := m_ (KeepBut.trans kp_ (KeepBut.of_below hb g none) (.inl rfl))
              replace HB := m_ (below_step IsS131.hs_ hb)
              replace HI0 := m_ (IsS131.below IsS131.gs_ hb)
              refine hK.out _ _ ⟨bc0_ BK447.out, bc1_ BK447.out⟩ (fun hHeld => ?_)
              clear hK K
              refine nm_ ?_
              refine pk_ 7 12 56 255 ?_
              refine pk_ 8 12 64 511 ?_
              refine pk_ 9 12 65 1023 ?_
              refine pk_ 10 12 12 2047 ?_
              refine pk_ 11 12 13 4095 ?_
              refine done_ (done_of HT_.out (by kernel_rfl)) ?_
              try go_wp2
              first | go_roundg k3 | ((try subst hji22); go_roundg k3)
              case measure => have := HJ2.out; have := HK2.out; have := HK3.out; omega
              case rel => exact ⟨(x8_3), (wrap64 (x11_3 + 1)), es_, es_, H', ⟨by have := HJ2.out; have := HK2.out; have := HK3.out; omega⟩, ⟨Kd.R_below HO_5.out bgo_⟩, ⟨blk_below BK447.out bgo_⟩, ⟨IsS131.gs_⟩, ⟨kp_⟩, ⟨IsS131.hs_⟩⟩
           ·rw [if_neg c28] at H
            have c28b0 := decide_eq_false c28
            clear c28
            have H' := m_ H
            clear H
            go_wp2
            go_meet
            case rel => exact ⟨_, (x8_3), es_, H', ⟨by have := HJ2.out; have := HK2.out; have := HK3.out; first | omega | exact Nat.le_refl _⟩, ⟨Kd.R_below HO_5.out bgo_⟩, ⟨blk_below BK447.out bgo_⟩, ⟨IsS131.gs_⟩, ⟨kp_⟩, ⟨IsS131.hs_⟩⟩
        ·rw [if_neg c21] at H
         have c21b0 := decide_eq_false c21
         have c21b1 : decide (0 < x5_2.length) = false := decide_eq_false (by omega)
         clear c21
         (first | rw [c21b0] | (simp only [i64_w, i32_w]; rw [c21b0]) | rw [c21b1] | skip)
         have H' := m_ H
         clear H
         go_wp2
         go_meet
         case rel => exact ⟨_, (t461), es_, H', ⟨by have := HJ2.out; have := HK2.out; first | omega | exact Nat.le_refl _⟩, ⟨Kd.R_below HO_5.out bgo_⟩, ⟨blk_below BK447.out bgo_⟩, ⟨IsS131.gs_⟩, ⟨kp_⟩, ⟨IsS131.hs_⟩⟩
       case rest =>
        clear HC18
        obtain ⟨kq, x8_17, rfl, HA, HJ17, HO_5, BK447, HI0, HK, HB⟩ := hcut
        cases kq with
        | zero => exact absurd HA.out (by simp [spec_l02Walk.j3])
        | succ kj17 =>
         have H := HA.out
         clear HA
         simp only [spec_l02Walk.j3] at H
         obtain ⟨c36, H⟩ := itn_ H
         have LMc36 := m_ c36
         clear c36
         obtain ⟨y469, Ny469, H⟩ : ∃ y469 : List Int, Aside0 (y469 = (x5_2 ++ [x8_17])) ∧ ((spec_l02Closed.f kj17 a1_0 l1_1 y469).bind fun t472 => (if t472 = true then ((spec_l01Next.f s0_0 t462 t463 3).bind fun bt473 => (if bt473.1 > 0 then ((spec_l01Next.f s0_0 bt473.2.1 bt473.2.2 24).bind fun bt476 => (if bt476.1 = 0 then (if y469.length < 17592186044416 then (some ((y469 ++ [(wrap64 (2 * (l1_1.length : Int)))]), bt476.2.1, bt476.2.2)) else (none)) else (some (y469, bt476.2.1, bt476.2.2)))) else (spec_l02Walk.l0 kj17 y469 (wrap64 (2 * (l1_1.length : Int))) (wrap64 (x7_2 - 1)) s0_0 bt473.2.1 bt473.2.2 a1_0 l1_1))) else (spec_l02Walk.l0 kj17 y469 (wrap64 (2 * (l1_1.length : Int))) (wrap64 (x7_2 - 1)) s0_0 t462 t463 a1_0 l1_1))) = some (r1, r2, r3) := ⟨_, ⟨rfl⟩, H⟩
         obtain ⟨t472, A37, H⟩ := bnd_ H
         by_cases c38 : t472 = true
         ·subst c38
          have H1 : ((spec_l01Next.f s0_0 t462 t463 3).bind fun bt473 => (if bt473.1 > 0 then ((spec_l01Next.f s0_0 bt473.2.1 bt473.2.2 24).bind fun bt476 => (if bt476.1 = 0 then (if y469.length < 17592186044416 then (some ((y469 ++ [(wrap64 (2 * (l1_1.length : Int)))]), bt476.2.1, bt476.2.2)) else (none)) else (some (y469, bt476.2.1, bt476.2.2)))) else (spec_l02Walk.l0 kj17 y469 (wrap64 (2 * (l1_1.length : Int))) (wrap64 (x7_2 - 1)) s0_0 bt473.2.1 bt473.2.2 a1_0 l1_1))) = some (r1, r2, r3) := by rw [if_pos rfl] at H; exact H
          clear H
          have H := H1
          clear H1
          obtain ⟨⟨t473, t474, t475⟩, A39, H⟩ := bnd_ H
          dsimp only at H
          by_cases c40 : t473 > 0
          ·rw [if_pos c40] at H
           have c40b0 := decide_eq_true c40
           clear c40
           obtain ⟨⟨t476, t477, t478⟩, A41, H⟩ := bnd_ H
           dsimp only at H
           by_cases c42 : t476 = 0
           ·rw [if_pos c42] at H
            have c42b0 : (t476 == 0) = true := beq_iff_eq.mpr c42
            have c42b1 : (t476 != 0) = false := bne_eq_false_iff_eq.mpr c42
            clear c42
            obtain ⟨c43, H⟩ := itn_ H
            have LMc43 := m_ c43
            clear c43
            obtain ⟨y479, Ny479, H⟩ : ∃ y479 : List Int, Aside0 (y479 = (y469 ++ [(wrap64 (2 * (l1_1.length : Int)))])) ∧ (some (y479, t477, t478)) = some (r1, r2, r3) := ⟨_, ⟨rfl⟩, H⟩
            simp only [Option.some.injEq, Prod.mk.injEq] at H
            obtain ⟨rfl, rfl, rfl⟩ := H
            go_wp2_with (first | ((with_reducible refine gate_builtin (b := .append) (xs := #[.tmp 74, .tmp 76]) rfl ?_); at_builtin; refine Kd.R_append (Kd.int .i64) w.heap.size rfl (.tmp 74) (.tmp 76) 29 2 (.int .i64 0) 8 rfl Try.underlying29 info2 rfl (by decide) (by omega) (.slice Ao20 x5_2.length co20) x5_2 x8_17 [.int .i64 x8_17] (fun _ => True) (fun _ => False) rfl rfl ?aP (fun _ hk => hk.elim) ?aF ?aO (Below.refl _ _) ?aS ?aL ?_; (case aP => exact rfl); (case aF => exact (fun _ _ => trivial)); (case aO => exact (Kd.R_below HO_5.out bgo_)); (case aS => exact (keep_size (w := w) (g := g) (row := none) kp_)); (case aL => have := LMc36.out; omega); intro v470 w44 ho hb hg hat; rw [← Ny469.out] at ho; replace BK447 := m_ (blk_grown (blk_below BK447.out bgo_) hg (Kd.R_ne HO_5.out BK447.out (by decide))); replace HB := m_ (below_weaken IsS131.hs_ HL.out hb); replace HI0 := m_ (IsS131.grown IsS131.gs_ hg (IsS131.own_ne HI0.out HO_5.out (by decide))); replace HK := m_ (KeepBut.trans kp_ (KeepBut.of_grown hg g) (Kd.R_base2 HO_5.out)); have HO471 := m_ (ho); clear HO_5; clear ho hb hg hat; have hnb45 := NB447_0.out; have hnc45 := NB0_447.out; have hcz46_0 := bc0_ BK447.out; have hcz46_1 := bc1_ BK447.out; have hfz46_0 := blk_frozen BK447.out 0; have hfz46_1 := blk_frozen BK447.out 1; obtain ⟨Ao47, co47, eo47⟩ := Kd.R_slice HO471.out; subst eo47) | ((with_reducible refine gate_callee (f := 192) rfl ?_); refine gl_ (some 80) Try.func192 #[.agg #[.int .i64 a1_0, .slice A1_1 l1_1.length c1_1], .slice Ao47 y469.length co47] ?_; (with_reducible refine (spec_l02Closed.calls kj17 a1_0 _ _ l1_1 _ _ y469 true _ ?side1 ?side2 ?side3 ?side4 A37.out).mono ?_); (case side1 => exact Kd.C_foot_now HR1_1.out kp_); (case side2 => exact HC1_1.out); (case side3 => exact Kd.C_below (Kd.R_reads' HO471.out).2.2 bgo_); (case side4 => exact (Kd.R_reads' HO471.out).2.1); rintro e w48 ⟨rfl, hb⟩; refine ⟨_, rfl, ?_⟩; replace HO471 := m_ (Kd.R_below (Kd.R_below HO471.out bgo_) hb); replace BK447 := m_ (bb_ BK447.out hb); replace HK := m_ (KeepBut.trans kp_ (KeepBut.of_below hb g none) (.inl rfl)); replace HB := m_ (below_step IsS131.hs_ hb); replace HI0 := m_ (IsS131.below IsS131.gs_ hb); clear hb) | (go_at_call 171; (with_reducible refine (spec_l01Next.calls g s0_0 t462 t463 3 t473 t474 t475 w0 _ ?side1 ?side2 A39.out).mono ?_); (case side1 => exact IsS131.gs_); (case side2 => exact IsS131.hs_); rintro e w49 ⟨rfl, hi, hb, hk⟩; replace BK447 := m_ (KeepBut.blk hk (blk_below BK447.out bgo_) NB447_0.out (by simp)); replace HO471 := m_ (Kd.R_mono (Kd.R_keep (IsS131.apart (show IsS131 w0 _ g s0_0 t462 t463 from IsS131.gs_) (Kd.R_below HO471.out bgo_) (by decide)) hk (fun _ h => h.2)) (fun _ h => h.1)); replace HK := m_ (KeepBut.trans kp_ hk (.inl rfl)); replace HB := m_ (hb); replace HI0 := m_ (hi); clear hi hb hk) | ((with_reducible refine gate_callee (f := 171) rfl ?_); refine gl_ (some 87) Try.func171 #[.pointer (some ⟨g, 0, none⟩), .int .i64 24] ?_; (with_reducible refine (spec_l01Next.calls g s0_0 t474 t475 24 t476 t477 t478 w0 _ ?side1 ?side2 A41.out).mono ?_); (case side1 => exact IsS131.gs_); (case side2 => exact IsS131.hs_); rintro e w50 ⟨rfl, hi, hb, hk⟩; refine ⟨_, rfl, ?_⟩; replace BK447 := m_ (KeepBut.blk hk (blk_below BK447.out bgo_) NB447_0.out (by simp)); replace HO471 := m_ (Kd.R_mono (Kd.R_keep (IsS131.apart (show IsS131 w0 _ g s0_0 t474 t475 from IsS131.gs_) (Kd.R_below HO471.out bgo_) (by decide)) hk (fun _ h => h.2)) (fun _ h => h.1)); replace HK := m_ (KeepBut.trans kp_ hk (.inl rfl)); replace HB := m_ (hb); replace HI0 := m_ (hi); clear hi hb hk) | ((with_reducible refine gate_builtin (b := .append) (xs := #[.tmp 89, .tmp 91]) rfl ?_); at_builtin; refine Kd.R_append (Kd.int .i64) w.heap.size rfl (.tmp 89) (.tmp 91) 29 2 (.int .i64 0) 8 rfl Try.underlying29 info2 rfl (by decide) (by omega) (.slice Ao47 y469.length co47) y469 (wrap64 (2 * (l1_1.length : Int))) [.int .i64 (wrap64 (2 * (l1_1.length : Int)))] (fun _ => True) (fun _ => False) rfl rfl ?aP (fun _ hk => hk.elim) ?aF ?aO (Below.refl _ _) ?aS ?aL ?_; (case aP => exact rfl); (case aF => exact (fun _ _ => trivial)); (case aO => exact (Kd.R_below HO471.out bgo_)); (case aS => exact (keep_size (w := w) (g := g) (row := none) kp_)); (case aL => have := LMc43.out; omega); intro v480 w51 ho hb hg hat; rw [← Ny479.out] at ho; replace BK447 := m_ (blk_grown (blk_below BK447.out bgo_) hg (Kd.R_ne HO471.out BK447.out (by decide))); replace HB := m_ (below_weaken IsS131.hs_ HL.out hb); replace HI0 := m_ (IsS131.grown IsS131.gs_ hg (IsS131.own_ne HI0.out HO471.out (by decide))); replace HK := m_ (KeepBut.trans kp_ (KeepBut.of_grown hg g) (Kd.R_base2 HO471.out)); have HO481 := m_ (ho); clear HO471; clear ho hb hg hat))
            go_ret
            exact ⟨_, er_, (Kd.R_below HO481.out bgo_), IsS131.gs_, IsS131.hs_, kp_⟩
           ·rw [if_neg c42] at H
            have c42b0 : (t476 == 0) = false := beq_eq_false_iff_ne.mpr c42
            have c42b1 : (t476 != 0) = true := bne_iff_ne.mpr c42
            simp only [Option.some.injEq, Prod.mk.injEq] at H
            obtain ⟨rfl, rfl, rfl⟩ := H
            go_wp2_with (first | ((with_reducible refine gate_builtin (b := .append) (xs := #[.tmp 74, .tmp 76]) rfl ?_); at_builtin; refine Kd.R_append (Kd.int .i64) w.heap.size rfl (.tmp 74) (.tmp 76) 29 2 (.int .i64 0) 8 rfl Try.underlying29 info2 rfl (by decide) (by omega) (.slice Ao20 x5_2.length co20) x5_2 x8_17 [.int .i64 x8_17] (fun _ => True) (fun _ => False) rfl rfl ?aP (fun _ hk => hk.elim) ?aF ?aO (Below.refl _ _) ?aS ?aL ?_; (case aP => exact rfl); (case aF => exact (fun _ _ => trivial)); (case aO => exact (Kd.R_below HO_5.out bgo_)); (case aS => exact (keep_size (w := w) (g := g) (row := none) kp_)); (case aL => have := LMc36.out; omega); intro v470 w52 ho hb hg hat; rw [← Ny469.out] at ho; replace BK447 := m_ (blk_grown (blk_below BK447.out bgo_) hg (Kd.R_ne HO_5.out BK447.out (by decide))); replace HB := m_ (below_weaken IsS131.hs_ HL.out hb); replace HI0 := m_ (IsS131.grown IsS131.gs_ hg (IsS131.own_ne HI0.out HO_5.out (by decide))); replace HK := m_ (KeepBut.trans kp_ (KeepBut.of_grown hg g) (Kd.R_base2 HO_5.out)); have HO471 := m_ (ho); clear HO_5; clear ho hb hg hat; have hnb53 := NB447_0.out; have hnc53 := NB0_447.out; have hcz54_0 := bc0_ BK447.out; have hcz54_1 := bc1_ BK447.out; have hfz54_0 := blk_frozen BK447.out 0; have hfz54_1 := blk_frozen BK447.out 1; obtain ⟨Ao55, co55, eo55⟩ := Kd.R_slice HO471.out; subst eo55) | ((with_reducible refine gate_callee (f := 192) rfl ?_); refine gl_ (some 80) Try.func192 #[.agg #[.int .i64 a1_0, .slice A1_1 l1_1.length c1_1], .slice Ao55 y469.length co55] ?_; (with_reducible refine (spec_l02Closed.calls kj17 a1_0 _ _ l1_1 _ _ y469 true _ ?side1 ?side2 ?side3 ?side4 A37.out).mono ?_); (case side1 => exact Kd.C_foot_now HR1_1.out kp_); (case side2 => exact HC1_1.out); (case side3 => exact Kd.C_below (Kd.R_reads' HO471.out).2.2 bgo_); (case side4 => exact (Kd.R_reads' HO471.out).2.1); rintro e w56 ⟨rfl, hb⟩; refine ⟨_, rfl, ?_⟩; replace HO471 := m_ (Kd.R_below (Kd.R_below HO471.out bgo_) hb); replace BK447 := m_ (bb_ BK447.out hb); replace HK := m_ (KeepBut.trans kp_ (KeepBut.of_below hb g none) (.inl rfl)); replace HB := m_ (below_step IsS131.hs_ hb); replace HI0 := m_ (IsS131.below IsS131.gs_ hb); clear hb) | (go_at_call 171; (with_reducible refine (spec_l01Next.calls g s0_0 t462 t463 3 t473 t474 t475 w0 _ ?side1 ?side2 A39.out).mono ?_); (case side1 => exact IsS131.gs_); (case side2 => exact IsS131.hs_); rintro e w57 ⟨rfl, hi, hb, hk⟩; replace BK447 := m_ (KeepBut.blk hk (blk_below BK447.out bgo_) NB447_0.out (by simp)); replace HO471 := m_ (Kd.R_mono (Kd.R_keep (IsS131.apart (show IsS131 w0 _ g s0_0 t462 t463 from IsS131.gs_) (Kd.R_below HO471.out bgo_) (by decide)) hk (fun _ h => h.2)) (fun _ h => h.1)); replace HK := m_ (KeepBut.trans kp_ hk (.inl rfl)); replace HB := m_ (hb); replace HI0 := m_ (hi); clear hi hb hk) | ((with_reducible refine gate_callee (f := 171) rfl ?_); refine gl_ (some 87) Try.func171 #[.pointer (some ⟨g, 0, none⟩), .int .i64 24] ?_; (with_reducible refine (spec_l01Next.calls g s0_0 t474 t475 24 t476 t477 t478 w0 _ ?side1 ?side2 A41.out).mono ?_); (case side1 => exact IsS131.gs_); (case side2 => exact IsS131.hs_); rintro e w58 ⟨rfl, hi, hb, hk⟩; refine ⟨_, rfl, ?_⟩; replace BK447 := m_ (KeepBut.blk hk (blk_below BK447.out bgo_) NB447_0.out (by simp)); replace HO471 := m_ (Kd.R_mono (Kd.R_keep (IsS131.apart (show IsS131 w0 _ g s0_0 t474 t475 from IsS131.gs_) (Kd.R_below HO471.out bgo_) (by decide)) hk (fun _ h => h.2)) (fun _ h => h.1)); replace HK := m_ (KeepBut.trans kp_ hk (.inl rfl)); replace HB := m_ (hb); replace HI0 := m_ (hi); clear hi hb hk))
            go_ret
            exact ⟨_, er_, (Kd.R_below HO471.out bgo_), IsS131.gs_, IsS131.hs_, kp_⟩
          ·rw [if_neg c40] at H
           have c40b0 := decide_eq_false c40
           clear c40
           have H' := m_ H
           clear H
           go_wp2_with (first | ((with_reducible refine gate_builtin (b := .append) (xs := #[.tmp 74, .tmp 76]) rfl ?_); at_builtin; refine Kd.R_append (Kd.int .i64) w.heap.size rfl (.tmp 74) (.tmp 76) 29 2 (.int .i64 0) 8 rfl Try.underlying29 info2 rfl (by decide) (by omega) (.slice Ao20 x5_2.length co20) x5_2 x8_17 [.int .i64 x8_17] (fun _ => True) (fun _ => False) rfl rfl ?aP (fun _ hk => hk.elim) ?aF ?aO (Below.refl _ _) ?aS ?aL ?_; (case aP => exact rfl); (case aF => exact (fun _ _ => trivial)); (case aO => exact (Kd.R_below HO_5.out bgo_)); (case aS => exact (keep_size (w := w) (g := g) (row := none) kp_)); (case aL => have := LMc36.out; omega); intro v470 w59 ho hb hg hat; rw [← Ny469.out] at ho; replace BK447 := m_ (blk_grown (blk_below BK447.out bgo_) hg (Kd.R_ne HO_5.out BK447.out (by decide))); replace HB := m_ (below_weaken IsS131.hs_ HL.out hb); replace HI0 := m_ (IsS131.grown IsS131.gs_ hg (IsS131.own_ne HI0.out HO_5.out (by decide))); replace HK := m_ (KeepBut.trans kp_ (KeepBut.of_grown hg g) (Kd.R_base2 HO_5.out)); have HO471 := m_ (ho); clear HO_5; clear ho hb hg hat; have hnb60 := NB447_0.out; have hnc60 := NB0_447.out; have hcz61_0 := bc0_ BK447.out; have hcz61_1 := bc1_ BK447.out; have hfz61_0 := blk_frozen BK447.out 0; have hfz61_1 := blk_frozen BK447.out 1; obtain ⟨Ao62, co62, eo62⟩ := Kd.R_slice HO471.out; subst eo62) | ((with_reducible refine gate_callee (f := 192) rfl ?_); refine gl_ (some 80) Try.func192 #[.agg #[.int .i64 a1_0, .slice A1_1 l1_1.length c1_1], .slice Ao62 y469.length co62] ?_; (with_reducible refine (spec_l02Closed.calls kj17 a1_0 _ _ l1_1 _ _ y469 true _ ?side1 ?side2 ?side3 ?side4 A37.out).mono ?_); (case side1 => exact Kd.C_foot_now HR1_1.out kp_); (case side2 => exact HC1_1.out); (case side3 => exact Kd.C_below (Kd.R_reads' HO471.out).2.2 bgo_); (case side4 => exact (Kd.R_reads' HO471.out).2.1); rintro e w63 ⟨rfl, hb⟩; refine ⟨_, rfl, ?_⟩; replace HO471 := m_ (Kd.R_below (Kd.R_below HO471.out bgo_) hb); replace BK447 := m_ (bb_ BK447.out hb); replace HK := m_ (KeepBut.trans kp_ (KeepBut.of_below hb g none) (.inl rfl)); replace HB := m_ (below_step IsS131.hs_ hb); replace HI0 := m_ (IsS131.below IsS131.gs_ hb); clear hb) | (go_at_call 171; (with_reducible refine (spec_l01Next.calls g s0_0 t462 t463 3 t473 t474 t475 w0 _ ?side1 ?side2 A39.out).mono ?_); (case side1 => exact IsS131.gs_); (case side2 => exact IsS131.hs_); rintro e w64 ⟨rfl, hi, hb, hk⟩; replace BK447 := m_ (KeepBut.blk hk (blk_below BK447.out bgo_) NB447_0.out (by simp)); replace HO471 := m_ (Kd.R_mono (Kd.R_keep (IsS131.apart (show IsS131 w0 _ g s0_0 t462 t463 from IsS131.gs_) (Kd.R_below HO471.out bgo_) (by decide)) hk (fun _ h => h.2)) (fun _ h => h.1)); replace HK := m_ (KeepBut.trans kp_ hk (.inl rfl)); replace HB := m_ (hb); replace HI0 := m_ (hi); clear hi hb hk))
           go_roundg kj17
           case measure => have := HJ2.out; have := HK2.out; have := HJ17.out; omega
           case rel => exact ⟨(y469), (wrap64 (x7_2 - 1)), (t474), (t475), es_, H', ⟨by have := HJ2.out; have := HK2.out; have := HJ17.out; omega⟩, ⟨Kd.R_below HO471.out bgo_⟩, ⟨blk_below BK447.out bgo_⟩, ⟨IsS131.gs_⟩, ⟨kp_⟩, ⟨IsS131.hs_⟩⟩
         ·replace c38 := Bool.eq_false_iff.mpr c38
          subst c38
          have H1 : (spec_l02Walk.l0 kj17 y469 (wrap64 (2 * (l1_1.length : Int))) (wrap64 (x7_2 - 1)) s0_0 t462 t463 a1_0 l1_1) = some (r1, r2, r3) := by rw [if_neg (show ¬ (false = true) by decide)] at H; exact H
          clear H
          have H := H1
          clear H1
          have H' := m_ H
          clear H
          go_wp2_with (first | ((with_reducible refine gate_builtin (b := .append) (xs := #[.tmp 74, .tmp 76]) rfl ?_); at_builtin; refine Kd.R_append (Kd.int .i64) w.heap.size rfl (.tmp 74) (.tmp 76) 29 2 (.int .i64 0) 8 rfl Try.underlying29 info2 rfl (by decide) (by omega) (.slice Ao20 x5_2.length co20) x5_2 x8_17 [.int .i64 x8_17] (fun _ => True) (fun _ => False) rfl rfl ?aP (fun _ hk => hk.elim) ?aF ?aO (Below.refl _ _) ?aS ?aL ?_; (case aP => exact rfl); (case aF => exact (fun _ _ => trivial)); (case aO => exact (Kd.R_below HO_5.out bgo_)); (case aS => exact (keep_size (w := w) (g := g) (row := none) kp_)); (case aL => have := LMc36.out; omega); intro v470 w65 ho hb hg hat; rw [← Ny469.out] at ho; replace BK447 := m_ (blk_grown (blk_below BK447.out bgo_) hg (Kd.R_ne HO_5.out BK447.out (by decide))); replace HB := m_ (below_weaken IsS131.hs_ HL.out hb); replace HI0 := m_ (IsS131.grown IsS131.gs_ hg (IsS131.own_ne HI0.out HO_5.out (by decide))); replace HK := m_ (KeepBut.trans kp_ (KeepBut.of_grown hg g) (Kd.R_base2 HO_5.out)); have HO471 := m_ (ho); clear HO_5; clear ho hb hg hat; have hnb66 := NB447_0.out; have hnc66 := NB0_447.out; have hcz67_0 := bc0_ BK447.out; have hcz67_1 := bc1_ BK447.out; have hfz67_0 := blk_frozen BK447.out 0; have hfz67_1 := blk_frozen BK447.out 1; obtain ⟨Ao68, co68, eo68⟩ := Kd.R_slice HO471.out; subst eo68) | ((with_reducible refine gate_callee (f := 192) rfl ?_); refine gl_ (some 80) Try.func192 #[.agg #[.int .i64 a1_0, .slice A1_1 l1_1.length c1_1], .slice Ao68 y469.length co68] ?_; (with_reducible refine (spec_l02Closed.calls kj17 a1_0 _ _ l1_1 _ _ y469 false _ ?side1 ?side2 ?side3 ?side4 A37.out).mono ?_); (case side1 => exact Kd.C_foot_now HR1_1.out kp_); (case side2 => exact HC1_1.out); (case side3 => exact Kd.C_below (Kd.R_reads' HO471.out).2.2 bgo_); (case side4 => exact (Kd.R_reads' HO471.out).2.1); rintro e w69 ⟨rfl, hb⟩; refine ⟨_, rfl, ?_⟩; replace HO471 := m_ (Kd.R_below (Kd.R_below HO471.out bgo_) hb); replace BK447 := m_ (bb_ BK447.out hb); replace HK := m_ (KeepBut.trans kp_ (KeepBut.of_below hb g none) (.inl rfl)); replace HB := m_ (below_step IsS131.hs_ hb); replace HI0 := m_ (IsS131.below IsS131.gs_ hb); clear hb))
          go_roundg kj17
          case measure => have := HJ2.out; have := HK2.out; have := HJ17.out; omega
          case rel => exact ⟨(y469), (wrap64 (x7_2 - 1)), (t462), (t463), es_, H', ⟨by have := HJ2.out; have := HK2.out; have := HJ17.out; omega⟩, ⟨Kd.R_below HO471.out bgo_⟩, ⟨blk_below BK447.out bgo_⟩, ⟨IsS131.gs_⟩, ⟨kp_⟩, ⟨IsS131.hs_⟩⟩
      ·rw [if_neg c16] at H
       have c16b0 := decide_eq_false c16
       clear c16
       obtain ⟨⟨t455, t456, t457⟩, A70, H⟩ := bnd_ H
       dsimp only at H
       by_cases c71 : t455 = 0
       ·rw [if_pos c71] at H
        have c71b0 : (t455 == 0) = true := beq_iff_eq.mpr c71
        have c71b1 : (t455 != 0) = false := bne_eq_false_iff_eq.mpr c71
        clear c71
        obtain ⟨c72, H⟩ := itn_ H
        have LMc72 := m_ c72
        clear c72
        obtain ⟨y458, Ny458, H⟩ : ∃ y458 : List Int, Aside0 (y458 = (x5_2 ++ [(wrap64 (2 * (l1_1.length : Int)))])) ∧ (some (y458, t456, t457)) = some (r1, r2, r3) := ⟨_, ⟨rfl⟩, H⟩
        simp only [Option.some.injEq, Prod.mk.injEq] at H
        obtain ⟨rfl, rfl, rfl⟩ := H
        go_wp2_with (first | ((with_reducible refine gate_callee (f := 171) rfl ?_); refine gl_ (some 87) Try.func171 #[.pointer (some ⟨g, 0, none⟩), .int .i64 24] ?_; (with_reducible refine (spec_l01Next.calls g s0_0 x1001_2 x1002_2 24 t455 t456 t457 w0 _ ?side1 ?side2 A70.out).mono ?_); (case side1 => exact IsS131.gs_); (case side2 => exact IsS131.hs_); rintro e w73 ⟨rfl, hi, hb, hk⟩; refine ⟨_, rfl, ?_⟩; replace HO_5 := m_ (Kd.R_mono (Kd.R_keep (IsS131.apart (show IsS131 w0 _ g s0_0 x1001_2 x1002_2 from IsS131.gs_) (Kd.R_below HO_5.out bgo_) (by decide)) hk (fun _ h => h.2)) (fun _ h => h.1)); replace BK447 := m_ (KeepBut.blk hk (blk_below BK447.out bgo_) NB447_0.out (by simp)); replace HK := m_ (KeepBut.trans kp_ hk (.inl rfl)); replace HB := m_ (hb); replace HI0 := m_ (hi); clear hi hb hk) | ((with_reducible refine gate_builtin (b := .append) (xs := #[.tmp 89, .tmp 91]) rfl ?_); at_builtin; refine Kd.R_append (Kd.int .i64) w.heap.size rfl (.tmp 89) (.tmp 91) 29 2 (.int .i64 0) 8 rfl Try.underlying29 info2 rfl (by decide) (by omega) u5 x5_2 (wrap64 (2 * (l1_1.length : Int))) [.int .i64 (wrap64 (2 * (l1_1.length : Int)))] (fun _ => True) (fun _ => False) rfl rfl ?aP (fun _ hk => hk.elim) ?aF ?aO (Below.refl _ _) ?aS ?aL ?_; (case aP => exact rfl); (case aF => exact (fun _ _ => trivial)); (case aO => exact (Kd.R_below HO_5.out bgo_)); (case aS => exact (keep_size (w := w) (g := g) (row := none) kp_)); (case aL => have := LMc72.out; omega); intro v459 w74 ho hb hg hat; rw [← Ny458.out] at ho; replace BK447 := m_ (blk_grown (blk_below BK447.out bgo_) hg (Kd.R_ne HO_5.out BK447.out (by decide))); replace HB := m_ (below_weaken IsS131.hs_ HL.out hb); replace HI0 := m_ (IsS131.grown IsS131.gs_ hg (IsS131.own_ne HI0.out HO_5.out (by decide))); replace HK := m_ (KeepBut.trans kp_ (KeepBut.of_grown hg g) (Kd.R_base2 HO_5.out)); have HO460 := m_ (ho); clear HO_5; clear ho hb hg hat))
        go_ret
        exact ⟨_, er_, (Kd.R_below HO460.out bgo_), IsS131.gs_, IsS131.hs_, kp_⟩
       ·rw [if_neg c71] at H
        have c71b0 : (t455 == 0) = false := beq_eq_false_iff_ne.mpr c71
        have c71b1 : (t455 != 0) = true := bne_iff_ne.mpr c71
        simp only [Option.some.injEq, Prod.mk.injEq] at H
        obtain ⟨rfl, rfl, rfl⟩ := H
        go_wp2_with (first | ((with_reducible refine gate_callee (f := 171) rfl ?_); refine gl_ (some 87) Try.func171 #[.pointer (some ⟨g, 0, none⟩), .int .i64 24] ?_; (with_reducible refine (spec_l01Next.calls g s0_0 x1001_2 x1002_2 24 t455 t456 t457 w0 _ ?side1 ?side2 A70.out).mono ?_); (case side1 => exact IsS131.gs_); (case side2 => exact IsS131.hs_); rintro e w75 ⟨rfl, hi, hb, hk⟩; refine ⟨_, rfl, ?_⟩; replace HO_5 := m_ (Kd.R_mono (Kd.R_keep (IsS131.apart (show IsS131 w0 _ g s0_0 x1001_2 x1002_2 from IsS131.gs_) (Kd.R_below HO_5.out bgo_) (by decide)) hk (fun _ h => h.2)) (fun _ h => h.1)); replace BK447 := m_ (KeepBut.blk hk (blk_below BK447.out bgo_) NB447_0.out (by simp)); replace HK := m_ (KeepBut.trans kp_ hk (.inl rfl)); replace HB := m_ (hb); replace HI0 := m_ (hi); clear hi hb hk))
        go_ret
        exact ⟨_, er_, (Kd.R_below HO_5.out bgo_), IsS131.gs_, IsS131.hs_, kp_⟩

/-! ### spec_DrawPermutationOfWalk: function 10 -/
def spec_DrawPermutationOfWalk.f (k : Nat) (l0 : List Int) : Option (Int × (List (List Int)) × Int × (List (List Int)) × List Int) := (spec_l01From.f k l0).bind fun bt483 => ((spec_l04Draw.f k bt483.1 bt483.2.1 bt483.2.2).bind fun bt487 => ((spec_l02Walk.f k bt483.1 bt487.2.2.2.2.1 bt487.2.2.2.2.2 bt487.1 bt487.2.1).bind fun bt498 => (some (bt487.1, bt487.2.1, bt487.2.2.1, bt487.2.2.2.1, bt498.1))))
set_option maxHeartbeats 8000000 in
set_option maxRecDepth 100000 in
theorem spec_DrawPermutationOfWalk.calls (k : Nat) (A0 : Option Addr) (c0 : Nat) (l0 : List Int) (r1 : Int) (r2 : List (List Int)) (r3 : Int) (r4 : List (List Int)) (r5 : List Int) (w : World) (hr0 : Kd.C (Kd.int .u8) w A0 l0.length l0) (hc0 : l0.length ≤ c0) (h : spec_DrawPermutationOfWalk.f k l0 = some (r1, r2, r3, r4, r5)) :
  Calls Try.prog 10 #[.slice A0 l0.length c0] w fun e w' => ∃ v1_ v3_ v4_ : Value, e = .returned (.tuple #[.agg #[.int .i64 r1, v1_, .int .i64 r3, v3_], v4_]) ∧ Kd.V (Kd.slice 2 (Kd.int .i64)) 29 w' w.heap.size (fun k_ => (w.heap.size ≤ k_) ∧ some k_ ≠ (v3_ : Value).ownBlock ∧ some k_ ≠ (v4_ : Value).ownBlock) v1_ r2 ∧ Kd.N (Kd.slice 2 (Kd.int .i64)) 29 w' w.heap.size (fun k_ => (w.heap.size ≤ k_) ∧ some k_ ≠ (v4_ : Value).ownBlock) v3_ r4 ∧ Kd.R (Kd.int .i64) 2 w' w.heap.size (fun k_ => (w.heap.size ≤ k_)) v4_ r5 ∧ Below w.heap.size w w' := by
 have hu28 := Try.underlying28
 have hu26 := Try.underlying26
 have HR0 := m_ hr0
 have HC0 := m_ hc0
 clear hr0 hc0
 have HB := m_ (Below.refl w.heap.size w)
 have H : ((spec_l01From.f k l0).bind fun bt483 => ((spec_l04Draw.f k bt483.1 bt483.2.1 bt483.2.2).bind fun bt487 => ((spec_l02Walk.f k bt483.1 bt487.2.2.2.2.1 bt487.2.2.2.2.2 bt487.1 bt487.2.1).bind fun bt498 => (some (bt487.1, bt487.2.1, bt487.2.2.1, bt487.2.2.2.1, bt498.1))))) = some (r1, r2, r3, r4, r5) := h
 clear h
 obtain ⟨⟨t483, t484, t485⟩, A2, H⟩ := bnd_ H
 dsimp only at H
 obtain ⟨⟨t487, t488, t491, t492, t495, t496⟩, A3, H⟩ := bnd_ H
 dsimp only at H
 obtain ⟨⟨t498, t501, t502⟩, A4, H⟩ := bnd_ H
 dsimp only at H
 simp only [Option.some.injEq, Prod.mk.injEq] at H
 obtain ⟨rfl, rfl, rfl, rfl, rfl⟩ := H
 go_enter Try.func10, Try.ntmps10
 try go_wp2_with (first | ((with_reducible refine gate_dst (N := 2) rfl ?_); refine bx_ (N := 2) (cs := #[.int .i64 0, .slice none 0 0, .int .i64 0, .slice none 0 0]) (t := 28) ?_; intro gb482 hg w5 hbox hb; have BK482 := m_ (hbox); have GW482 := m_ ((by rw [hg]; exact (below_size hb_) : w.heap.size ≤ gb482)); have GE482 := m_ ((by rw [hg]; exact (below_size hb_) : w.heap.size ≤ gb482)); replace HB := m_ (below_step hb_ hb); clear hb hbox hg) | ((with_reducible refine gate_callee (f := 102) rfl ?_); refine gl_ (some 7) Try.func102 #[.slice A0 l0.length c0] ?_; (with_reducible refine (spec_l01From.calls k _ _ l0 t483 t484 t485 w _ ?side1 ?side2 ?side3 A2.out).mono ?_); (case side1 => repeat (first | (with_reducible first | exact HB.out | apply below_alloc | apply pw_below_drewN | apply below_drew1 | refine below_set ?_ GE482.out) | exact HB.out)); (case side2 => exact HR0.out); (case side3 => exact HC0.out); rintro e w6 ⟨g486, rfl, hi, hb, hb2⟩; refine ⟨_, rfl, ?_⟩; replace HB := m_ (hb); have HI486 := m_ (hi); have NB486_482 := m_ (IsS131.ne_blk hi (blk_below (blk_below BK482.out bgo_) hb2) (by decide)); have NB482_486 := m_ (Ne.symm (IsS131.ne_blk hi (blk_below (blk_below BK482.out bgo_) hb2) (by decide))); replace BK482 := m_ (blk_below (blk_below BK482.out bgo_) hb2); clear hi hb hb2) | ((with_reducible refine gate_callee (f := 103) rfl ?_); refine gl_ (some 9) Try.func103 #[.pointer (some ⟨g486, 0, none⟩)] ?_; (with_reducible refine (spec_l04Draw.calls k g486 t483 t484 t485 t487 t488 t491 t492 t495 t496 w _ ?side1 ?side2 A3.out).mono ?_); (case side1 => exact IsS131.gs_); (case side2 => exact IsS131.hs_); rintro e w7 ⟨v489, v493, rfl, ho0, ho1, hi, hb, hk⟩; refine ⟨_, rfl, ?_⟩; have HO490 := m_ (Kd.V_lower (Kd.V_mono (ok' := fun k_ => (w.heap.size ≤ k_) ∧ some k_ ≠ (v493 : Value).ownBlock ∧ k_ ≠ gb482 ∧ k_ ≠ g486) ho0 (fun k_ hk_ => ⟨(Nat.le_trans (below_size IsS131.hs_) hk_.1), hk_.2, (Kd.freshB (g := gb482) (o := .cells #[.int .i64 0, .slice none 0 0, .int .i64 0, .slice none 0 0] 28 (0, 0)) (blk_below BK482.out bgo_) k_ hk_.1), (IsS131.fresh IsS131.gs_ k_ hk_.1)⟩)) (below_size IsS131.hs_)); have HO494 := m_ (Kd.N_lower (Kd.N_mono (ok' := fun k_ => (w.heap.size ≤ k_) ∧ k_ ≠ gb482 ∧ k_ ≠ g486) ho1 (fun k_ hk_ => ⟨(Nat.le_trans (below_size IsS131.hs_) hk_), (Kd.freshB (g := gb482) (o := .cells #[.int .i64 0, .slice none 0 0, .int .i64 0, .slice none 0 0] 28 (0, 0)) (blk_below BK482.out bgo_) k_ hk_), (IsS131.fresh IsS131.gs_ k_ hk_)⟩)) (below_size IsS131.hs_)); replace BK482 := m_ (KeepBut.blk hk (blk_below BK482.out bgo_) NB482_486.out (by simp)); replace HB := m_ (hb); replace HI486 := m_ (hi); clear hi hb hk; (try clear ho0); (try clear ho1)) | ((with_reducible refine gate_dst (N := 5) rfl ?_); refine bx_ (N := 5) (cs := #[.int .i64 0, .slice none 0 0, .int .i64 0, .slice none 0 0]) (t := 28) ?_; intro gb497 hg w8 hbox hb; replace HO490 := m_ (Kd.V_below (Kd.V_elderB (Kd.V_below HO490.out bgo_) gb497 (Nat.le_of_eq hg.symm)) hb); replace HO494 := m_ (Kd.N_below (Kd.N_elderB (Kd.N_below HO494.out bgo_) gb497 (Nat.le_of_eq hg.symm)) hb); have BK497 := m_ (hbox); have GW497 := m_ ((by rw [hg]; exact (below_size IsS131.hs_) : w.heap.size ≤ gb497)); have GE497 := m_ ((by rw [hg]; exact (below_size IsS131.hs_) : w.heap.size ≤ gb497)); replace HB := m_ (below_step IsS131.hs_ hb); have NB482_497 := m_ ((by rw [hg]; exact Nat.ne_of_lt (blk_lt (blk_below BK482.out bgo_)) : gb482 ≠ gb497)); have NB497_482 := m_ NB482_497.out.symm; replace BK482 := m_ (bb_ BK482.out hb); have NB486_497 := m_ ((by rw [hg]; exact Nat.ne_of_lt (IsS131.lt (show IsS131 w _ g486 t483 t495 t496 from IsS131.gs_)) : g486 ≠ gb497)); have NB497_486 := m_ NB486_497.out.symm; replace HI486 := m_ (IsS131.below IsS131.gs_ hb); clear hb hbox hg; have hnb9 := NB497_482.out; have hnc9 := NB482_497.out; have hnb10 := NB497_486.out; have hnc10 := NB486_497.out; have hcz11_0 := bc0_ BK497.out; have hcz11_1 := bc1_ BK497.out; have hcz11_2 := bc2_ BK497.out; have hcz11_3 := bc3_ BK497.out; have hfz11_0 := blk_frozen BK497.out 0; have hfz11_1 := blk_frozen BK497.out 1; have hfz11_2 := blk_frozen BK497.out 2; have hfz11_3 := blk_frozen BK497.out 3; obtain ⟨Ao12, co12, eo12⟩ := Kd.V_slice HO490.out; subst eo12; obtain ⟨Ao13, co13, eo13⟩ := Kd.N_slice HO494.out; subst eo13))
 have n0_ : Aside0 (Kd.V (Kd.slice 2 (Kd.int .i64)) 29 ((((w8.setCell ⟨gb497, 0, none⟩ (.int .i64 t487)).setCell ⟨gb497, 1, none⟩ (.slice Ao12 t488.length co12)).setCell ⟨gb497, 2, none⟩ (.int .i64 t491)).setCell ⟨gb497, 3, none⟩ (.slice Ao13 t492.length co13)) w.heap.size (fun k_ => (w.heap.size ≤ k_) ∧ some k_ ≠ (.slice Ao13 t492.length co13 : Value).ownBlock ∧ k_ ≠ gb482 ∧ k_ ≠ g486 ∧ k_ ≠ gb497) (.slice Ao12 t488.length co12) t488) := ⟨by (with_reducible repeat (first | apply Kd.V_alloc | apply Kd.V_drewN | apply Kd.V_drew)); exact Kd.V_mono (Kd.V_far (p := ⟨gb497, 3, none⟩) (Kd.V_far (p := ⟨gb497, 2, none⟩) (Kd.V_far (p := ⟨gb497, 1, none⟩) (Kd.V_far (p := ⟨gb497, 0, none⟩) (Kd.V_mono HO490.out (fun k_ hk => (⟨hk, hk.2⟩ : _ ∧ k_ ≠ gb497))) (fun _ hk => hk.2) (.int .i64 t487)) (fun _ hk => hk.2) (.slice Ao12 t488.length co12)) (fun _ hk => hk.2) (.int .i64 t491)) (fun _ hk => hk.2) (.slice Ao13 t492.length co13)) (fun _ hk => ⟨hk.1.1.1, ⟨hk.1.1.2.1, ⟨hk.1.1.2.2.1, ⟨hk.1.1.2.2.2, hk.1.2⟩⟩⟩⟩)⟩
 have n1_ : Aside0 (Kd.N (Kd.slice 2 (Kd.int .i64)) 29 ((((w8.setCell ⟨gb497, 0, none⟩ (.int .i64 t487)).setCell ⟨gb497, 1, none⟩ (.slice Ao12 t488.length co12)).setCell ⟨gb497, 2, none⟩ (.int .i64 t491)).setCell ⟨gb497, 3, none⟩ (.slice Ao13 t492.length co13)) w.heap.size (fun k_ => (w.heap.size ≤ k_) ∧ k_ ≠ gb482 ∧ k_ ≠ g486 ∧ k_ ≠ gb497) (.slice Ao13 t492.length co13) t492) := ⟨by (with_reducible repeat (first | apply Kd.N_alloc | apply Kd.N_drewN | apply Kd.N_drew)); exact Kd.N_mono (Kd.N_far (p := ⟨gb497, 3, none⟩) (Kd.N_far (p := ⟨gb497, 2, none⟩) (Kd.N_far (p := ⟨gb497, 1, none⟩) (Kd.N_far (p := ⟨gb497, 0, none⟩) (Kd.N_mono HO494.out (fun k_ hk => (⟨hk, hk.2⟩ : _ ∧ k_ ≠ gb497))) (fun _ hk => hk.2) (.int .i64 t487)) (fun _ hk => hk.2) (.slice Ao12 t488.length co12)) (fun _ hk => hk.2) (.int .i64 t491)) (fun _ hk => hk.2) (.slice Ao13 t492.length co13)) (fun _ hk => ⟨hk.1.1.1, ⟨hk.1.1.2.1, ⟨hk.1.1.2.2, hk.1.2⟩⟩⟩)⟩
 have n2_ : Aside0 (((((w8.setCell ⟨gb497, 0, none⟩ (.int .i64 t487)).setCell ⟨gb497, 1, none⟩ (.slice Ao12 t488.length co12)).setCell ⟨gb497, 2, none⟩ (.int .i64 t491)).setCell ⟨gb497, 3, none⟩ (.slice Ao13 t492.length co13)).heap[gb482]? = some (.cells #[.int .i64 0, .slice none 0 0, .int .i64 0, .slice none 0 0] 28 (0, 0))) := ⟨bk_⟩
 have n3_ : Aside0 (((((w8.setCell ⟨gb497, 0, none⟩ (.int .i64 t487)).setCell ⟨gb497, 1, none⟩ (.slice Ao12 t488.length co12)).setCell ⟨gb497, 2, none⟩ (.int .i64 t491)).setCell ⟨gb497, 3, none⟩ (.slice Ao13 t492.length co13)).heap[gb497]? = some (.cells #[.int .i64 t487, .slice Ao12 t488.length co12, .int .i64 t491, .slice Ao13 t492.length co13] 28 (0, 0))) := ⟨by (with_reducible repeat (first | refine blk_drewN ?_ _ | refine blk_drew ?_ | refine blk_alloc ?_ _)); refine blk_put (cs := #[.int .i64 t487, .slice Ao12 t488.length co12, .int .i64 t491, .slice none 0 0]) ?_ 3 _ rfl; (with_reducible repeat (first | refine blk_drewN ?_ _ | refine blk_drew ?_ | refine blk_alloc ?_ _)); refine blk_put (cs := #[.int .i64 t487, .slice Ao12 t488.length co12, .int .i64 0, .slice none 0 0]) ?_ 2 _ rfl; (with_reducible repeat (first | refine blk_drewN ?_ _ | refine blk_drew ?_ | refine blk_alloc ?_ _)); refine blk_put (cs := #[.int .i64 t487, .slice none 0 0, .int .i64 0, .slice none 0 0]) ?_ 1 _ rfl; (with_reducible repeat (first | refine blk_drewN ?_ _ | refine blk_drew ?_ | refine blk_alloc ?_ _)); refine blk_put (cs := #[.int .i64 0, .slice none 0 0, .int .i64 0, .slice none 0 0]) ?_ 0 _ rfl; (with_reducible repeat (first | refine blk_drewN ?_ _ | refine blk_drew ?_ | refine blk_alloc ?_ _)); exact BK497.out⟩
 have n4_ : Aside0 (IsS131 w ((((w8.setCell ⟨gb497, 0, none⟩ (.int .i64 t487)).setCell ⟨gb497, 1, none⟩ (.slice Ao12 t488.length co12)).setCell ⟨gb497, 2, none⟩ (.int .i64 t491)).setCell ⟨gb497, 3, none⟩ (.slice Ao13 t492.length co13)) g486 t483 t495 t496) := ⟨IsS131.gs_⟩
 have n5_ : Aside0 (Below w.heap.size w ((((w8.setCell ⟨gb497, 0, none⟩ (.int .i64 t487)).setCell ⟨gb497, 1, none⟩ (.slice Ao12 t488.length co12)).setCell ⟨gb497, 2, none⟩ (.int .i64 t491)).setCell ⟨gb497, 3, none⟩ (.slice Ao13 t492.length co13))) := ⟨IsS131.hs_⟩
 (try clear HO490)
 (try clear HO494)
 (try clear BK482)
 (try clear BK497)
 (try clear HI486)
 (try clear HB)
 generalize ((((w8.setCell ⟨gb497, 0, none⟩ (.int .i64 t487)).setCell ⟨gb497, 1, none⟩ (.slice Ao12 t488.length co12)).setCell ⟨gb497, 2, none⟩ (.int .i64 t491)).setCell ⟨gb497, 3, none⟩ (.slice Ao13 t492.length co13)) = w14 at n0_ n1_ n2_ n3_ n4_ n5_ ⊢
 have HO490 := n0_
 have HO494 := n1_
 have BK482 := n2_
 have BK497 := n3_
 have HI486 := n4_
 have HB := n5_
 clear n0_ n1_ n2_ n3_ n4_ n5_
 replace HO490 := m_ (Kd.V_drew HO490.out)
 replace HO494 := m_ (Kd.N_drew HO494.out)
 replace BK482 := m_ (blk_drew BK482.out)
 replace BK497 := m_ (blk_drew BK497.out)
 replace HI486 := m_ (IsS131.drew HI486.out)
 replace HB := m_ (below_drew1 HB.out)
 refine start_ (n := 7) (S := fun w' => w'.cell? ⟨gb497, 0, none⟩ = some (.int .i64 t487) ∧ w'.cell? ⟨gb497, 1, none⟩ = some (.slice Ao12 t488.length co12) ∧ w'.cell? ⟨gb497, 2, none⟩ = some (.int .i64 t491) ∧ w'.cell? ⟨gb497, 3, none⟩ = some (.slice Ao13 t492.length co13)) (ds := []) #[false, false, false, false, false, false, false] (by kernel_rfl) rfl rfl ⟨bc0_ BK497.out, bc1_ BK497.out, bc2_ BK497.out, bc3_ BK497.out⟩ (fun hHeld => ?_)
 generalize w14.drew = w15 at HO490 HO494 BK482 BK497 HI486 HB hHeld ⊢
 refine pure_ (i := 1) (N := some 11) (v := ?_) (a' := ?_) #[false, true, false, false, false, false, false] rfl rfl (by kernel_rfl) (fun _ _ _ h => h) (Or.inl ⟨by rfl, ?_⟩) ?_ ?_
 rotate_left
 ·intro w'
  go_simp
  with_reducible rfl
 rotate_left
 ·simp only [Act.put, nf_]
  rfl
 refine pure_ (i := 2) (N := some 12) (v := ?_) (a' := ?_) #[false, true, true, false, false, false, false] rfl rfl (by kernel_rfl) (fun _ _ _ h => h) (Or.inl ⟨by rfl, ?_⟩) ?_ ?_
 rotate_left
 ·intro w'
  go_simp
  with_reducible rfl
 rotate_left
 ·simp only [Act.put, nf_]
  rfl
 refine take_ (i := 0) (N := some 10) (v := ?_) (a' := ?_) #[true, true, true, false, false, false, false] rfl rfl (by kernel_rfl) (fun _ _ _ h => h) (Or.inl ⟨by rfl, ?_⟩) hHeld ?_ ?_
 rotate_left
 ·rintro w' ⟨s0, s1, s2, s3⟩
  go_simp
  with_reducible rfl
 rotate_left
 ·simp only [Act.put, nf_]
  rfl
 refine take_ (i := 3) (N := some 13) (v := ?_) (a' := ?_) #[true, true, true, true, false, false, false] rfl rfl (by kernel_rfl) (fun _ _ _ h => h) (Or.inl ⟨by rfl, ?_⟩) hHeld ?_ ?_
 rotate_left
 ·rintro w' ⟨s0, s1, s2, s3⟩
  go_simp
  with_reducible rfl
 rotate_left
 ·simp only [Act.put, nf_]
  rfl
 refine one_ (i := 4) (N := some 14) #[true, true, true, true, true, false, false] rfl rfl (by kernel_rfl) (by decide) (fun K hK => ?_)
 refine goes_ Try.func104 (by kernel_rfl) rfl #[.pointer (some ⟨g486, 0, none⟩), .agg #[.int .i64 t487, .slice Ao12 t488.length co12]] (by rfl) rfl rfl arg_ ?_
 with_reducible refine (spec_l02Walk.calls k g486 t483 t495 t496 t487 _ _ t488 t498 t501 t502 w _ ?side1 ?side2 ?side3 ?side4 A4.out).mono ?_
 (case side1 => exact IsS131.gs_)
 (case side2 => exact IsS131.hs_)
 (case side3 => exact Kd.C_foot_ownV (e := 29) (base := 0) (Kd.V_mono (ok := fun k_ => (((w.heap.size ≤ k_)) ∧ (some k_ ≠ (.slice Ao13 t492.length co13 : Value).ownBlock ∧ (k_ ≠ gb482 ∧ (k_ ≠ g486 ∧ k_ ≠ gb497))))) (Kd.V_below HO490.out bgo_) (fun k_ hk_ => (⟨hk_, hk_.2.2.2.1⟩ : _ ∧ k_ ≠ g486))) (fun _ h_ => h_.2))
 (case side4 => exact (Kd.V_reads' HO490.out).2.1)
 rintro e w16 ⟨v499, rfl, ho0, hi, hb, hk⟩
 refine ⟨_, rfl, ?_⟩
 replace BK482 := m_ (KeepBut.blk hk (blk_below BK482.out bgo_) NB482_486.out (by simp))
 replace HO490 := m_ (Kd.V_mono (Kd.V_told (Kd.V_oldK (Kd.V_mono (ok := fun k_ => (((w.heap.size ≤ k_)) ∧ (some k_ ≠ (.slice Ao13 t492.length co13 : Value).ownBlock ∧ (k_ ≠ gb482 ∧ (k_ ≠ g486 ∧ k_ ≠ gb497))))) (Kd.V_below HO490.out bgo_) (fun k_ hk_ => (⟨hk_, hk_.2.2.2.1⟩ : _ ∧ k_ ≠ g486))) hk) (Kd.R_base ho0)) (fun _ h_ => h_.1))
 replace HO494 := m_ (Kd.N_mono (Kd.N_told (Kd.N_oldK (Kd.N_mono (ok := fun k_ => (((w.heap.size ≤ k_)) ∧ (k_ ≠ gb482 ∧ (k_ ≠ g486 ∧ k_ ≠ gb497)))) (Kd.N_below HO494.out bgo_) (fun k_ hk_ => (⟨hk_, hk_.2.2.1⟩ : _ ∧ k_ ≠ g486))) hk) (Kd.R_base ho0)) (fun _ h_ => h_.1))
 replace BK497 := m_ (KeepBut.blk hk (blk_below BK497.out bgo_) NB497_486.out (by simp))
 have HO500 := m_ (Kd.R_lower (Kd.R_newM (M := fun k_ => (w.heap.size ≤ k_)) ho0 (below_size IsS131.hs_) (fun k_ h_ => h_)) (below_size IsS131.hs_))
 replace HB := m_ (hb)
 replace HI486 := m_ (hi)
 (try clear ho0)
 refine hK.out _ _ ⟨bc0_ BK497.out, bc1_ BK497.out, bc2_ BK497.out, bc3_ BK497.out⟩ (fun hHeld => ?_)
 clear hK K
 refine nm_ ?_
 refine one_ (i := 5) (N := none) #[true, true, true, true, true, true, false] rfl rfl (by kernel_rfl) (by decide) (fun K hK => ?_)
 have hs17 : w16.cell? ⟨gb482, 0, none⟩ = some (.int .i64 0) := bc0_ BK482.out
 have hfs17 := blk_frozen BK482.out 0
 have hns17_1 := NB497_482.out
 have hms17_1 := NB482_497.out
 have hs18 : w16.cell? ⟨gb482, 1, none⟩ = some (.slice none 0 0) := bc1_ BK482.out
 have hfs18 := blk_frozen BK482.out 1
 have hns18_1 := NB497_482.out
 have hms18_1 := NB482_497.out
 have hs19 : w16.cell? ⟨gb482, 2, none⟩ = some (.int .i64 0) := bc2_ BK482.out
 have hfs19 := blk_frozen BK482.out 2
 have hns19_1 := NB497_482.out
 have hms19_1 := NB482_497.out
 have hs20 : w16.cell? ⟨gb482, 3, none⟩ = some (.slice none 0 0) := bc3_ BK482.out
 have hfs20 := blk_frozen BK482.out 3
 have hns20_1 := NB497_482.out
 have hms20_1 := NB482_497.out
 refine skip_ (w1 := ?_) (by rfl) rfl ?_ ?_
 rotate_left
 ·go_simp
  rfl
 refine hK.out _ _ ⟨((cell_far (p := ⟨gb482, _, none⟩) NB497_482.out _).trans (((cell_far (p := ⟨gb482, _, none⟩) NB497_482.out _).trans (((cell_far (p := ⟨gb482, _, none⟩) NB497_482.out _).trans (((cell_far (p := ⟨gb482, _, none⟩) NB497_482.out _).trans (hHeld.1)))))))), ((cell_far (p := ⟨gb482, _, none⟩) NB497_482.out _).trans (((cell_far (p := ⟨gb482, _, none⟩) NB497_482.out _).trans (((cell_far (p := ⟨gb482, _, none⟩) NB497_482.out _).trans (((cell_far (p := ⟨gb482, _, none⟩) NB497_482.out _).trans (hHeld.2.1)))))))), ((cell_far (p := ⟨gb482, _, none⟩) NB497_482.out _).trans (((cell_far (p := ⟨gb482, _, none⟩) NB497_482.out _).trans (((cell_far (p := ⟨gb482, _, none⟩) NB497_482.out _).trans (((cell_far (p := ⟨gb482, _, none⟩) NB497_482.out _).trans (hHeld.2.2.1)))))))), ((cell_far (p := ⟨gb482, _, none⟩) NB497_482.out _).trans (((cell_far (p := ⟨gb482, _, none⟩) NB497_482.out _).trans (((cell_far (p := ⟨gb482, _, none⟩) NB497_482.out _).trans (((cell_far (p := ⟨gb482, _, none⟩) NB497_482.out _).trans (hHeld.2.2.2))))))))⟩ (fun hHeld => ?_)
 clear hK K
 refine pure_ (i := 6) (N := some 3) (v := ?_) (a' := ?_) #[true, true, true, true, true, true, true] rfl rfl (by kernel_rfl) (fun _ _ _ h => h) (Or.inl ⟨by rfl, ?_⟩) ?_ ?_
 rotate_left
 ·intro w'
  go_simp
  with_reducible rfl
 rotate_left
 ·simp only [Act.put, nf_]
  rfl
 refine done_ (by kernel_rfl) ?_
 try go_wp2
 refine bodyPost_ret (results_ct rfl _ _ gb482 28 #[.int .i64 t487, .slice Ao12 t488.length co12, .int .i64 t491, .slice Ao13 t492.length co13] (0, 0) _ rfl (by (with_reducible repeat (first | refine blk_drewN ?_ _ | refine blk_drew ?_ | refine blk_alloc ?_ _)); refine blk_put (cs := #[.int .i64 t487, .slice Ao12 t488.length co12, .int .i64 t491, .slice none 0 0]) ?_ 3 _ rfl; (with_reducible repeat (first | refine blk_drewN ?_ _ | refine blk_drew ?_ | refine blk_alloc ?_ _)); refine blk_put (cs := #[.int .i64 t487, .slice Ao12 t488.length co12, .int .i64 0, .slice none 0 0]) ?_ 2 _ rfl; (with_reducible repeat (first | refine blk_drewN ?_ _ | refine blk_drew ?_ | refine blk_alloc ?_ _)); refine blk_put (cs := #[.int .i64 t487, .slice none 0 0, .int .i64 0, .slice none 0 0]) ?_ 1 _ rfl; (with_reducible repeat (first | refine blk_drewN ?_ _ | refine blk_drew ?_ | refine blk_alloc ?_ _)); refine blk_put (cs := #[.int .i64 0, .slice none 0 0, .int .i64 0, .slice none 0 0]) ?_ 0 _ rfl; (with_reducible repeat (first | refine blk_drewN ?_ _ | refine blk_drew ?_ | refine blk_alloc ?_ _)); exact BK482.out) Try.underlying28 rfl (by kernel_rfl)) rfl ?_
 exact ⟨_, _, _, er_, by (with_reducible repeat (first | apply Kd.V_alloc | apply Kd.V_drewN | apply Kd.V_drew)); exact Kd.V_mono (Kd.V_far (p := ⟨gb482, 3, none⟩) (Kd.V_far (p := ⟨gb482, 2, none⟩) (Kd.V_far (p := ⟨gb482, 1, none⟩) (Kd.V_far (p := ⟨gb482, 0, none⟩) (Kd.V_mono HO490.out (fun k_ hk => (⟨hk, hk.1.2.2.1⟩ : _ ∧ k_ ≠ gb482))) (fun _ hk => hk.2) (.int .i64 t487)) (fun _ hk => hk.2) (.slice Ao12 t488.length co12)) (fun _ hk => hk.2) (.int .i64 t491)) (fun _ hk => hk.2) (.slice Ao13 t492.length co13)) (fun _ hk => ⟨hk.1.1.1, ⟨hk.1.1.2.1, hk.1.2⟩⟩), by (with_reducible repeat (first | apply Kd.N_alloc | apply Kd.N_drewN | apply Kd.N_drew)); exact Kd.N_mono (Kd.N_far (p := ⟨gb482, 3, none⟩) (Kd.N_far (p := ⟨gb482, 2, none⟩) (Kd.N_far (p := ⟨gb482, 1, none⟩) (Kd.N_far (p := ⟨gb482, 0, none⟩) (Kd.N_mono HO494.out (fun k_ hk => (⟨hk, hk.1.2.1⟩ : _ ∧ k_ ≠ gb482))) (fun _ hk => hk.2) (.int .i64 t487)) (fun _ hk => hk.2) (.slice Ao12 t488.length co12)) (fun _ hk => hk.2) (.int .i64 t491)) (fun _ hk => hk.2) (.slice Ao13 t492.length co13)) (fun _ hk => ⟨hk.1.1.1, hk.1.2⟩), by (with_reducible repeat (first | apply Kd.R_alloc | apply Kd.R_drewN | apply Kd.R_drew)); exact Kd.R_mono (Kd.R_far (p := ⟨gb482, 3, none⟩) (Kd.R_far (p := ⟨gb482, 2, none⟩) (Kd.R_far (p := ⟨gb482, 1, none⟩) (Kd.R_far (p := ⟨gb482, 0, none⟩) (Kd.R_types HO500.out BK482.out (by decide)) (fun _ hk => hk.2) (.int .i64 t487)) (fun _ hk => hk.2) (.slice Ao12 t488.length co12)) (fun _ hk => hk.2) (.int .i64 t491)) (fun _ hk => hk.2) (.slice Ao13 t492.length co13)) (fun _ hk => hk.1.1), IsS131.hs_⟩

/-! ### impl_within: function 106 -/
def impl_within.f (a0 : Int) (a1 : Int) (a2 : Int) : Option (Bool) := if a0 ≥ a1 then (some (decide (a0 ≤ a2))) else (some false)
set_option maxHeartbeats 8000000 in
set_option maxRecDepth 100000 in
theorem impl_within.calls (a0 : Int) (a1 : Int) (a2 : Int) (r : Bool) (w : World) (h : impl_within.f a0 a1 a2 = some r) :
  Calls Try.prog 106 #[.int .i64 a0, .int .i64 a1, .int .i64 a2] w fun e w' => e = .returned (.bool r) ∧ Drawn0 w w' := by
 have H : (if a0 ≥ a1 then (some (decide (a0 ≤ a2))) else (some false)) = some r := h
 clear h
 by_cases c4 : a0 ≥ a1
 ·rw [if_pos c4] at H
  have c4b0 := decide_eq_true c4
  clear c4
  obtain rfl := Option.some.inj H
  go_enter Try.func106, Try.ntmps106
  go_wp2
  go_ret
  exact ⟨es_, by repeat (first | exact Drawn0.refl _ | apply Drawn0.step)⟩
 ·rw [if_neg c4] at H
  have c4b0 := decide_eq_false c4
  clear c4
  obtain rfl := Option.some.inj H
  go_enter Try.func106, Try.ntmps106
  go_wp2
  go_ret
  exact ⟨es_, by repeat (first | exact Drawn0.refl _ | apply Drawn0.step)⟩

/-! ### impl_IsGraph: function 136 -/
def impl_IsGraph.l0 : Nat → List (List Int) → Int → Int → Int → List (List Int) → Option (Bool)
 | 0, _, _, _, _, _ => none
 | k + 1, x6, x7, x8, x504000, x504001 => if x8 < x7 then (if 0 ≤ x8 then (if x8 < (x6.length : Int) then (if ((rd_L2 x6 x8).length : Int) = 2 then (if 0 < ((rd_L2 x6 x8).length : Int) then ((impl_within.f (rd (rd_L2 x6 x8) 0) 0 (wrap64 (x504000 - 1))).bind fun t507 => (if t507 = true then (if 1 < ((rd_L2 x6 x8).length : Int) then ((impl_within.f (rd (rd_L2 x6 x8) 1) 0 (wrap64 (x504000 - 1))).bind fun t509 => (if t509 = true then (impl_IsGraph.l0 k x6 x7 (wrap64 (x8 + 1)) x504000 x504001) else (some false))) else (none)) else (some false))) else (none)) else (some false)) else (none)) else (none)) else ((impl_within.f x504000 1 8).bind fun t504 => (if t504 = true then (some (decide ((x504001.length : Int) ≤ 10))) else (some false)))
def impl_IsGraph.f (k : Nat) (a0_0 : Int) (l0_1 : List (List Int)) : Option (Bool) := impl_IsGraph.l0 k l0_1 (l0_1.length : Int) 0 a0_0 l0_1
set_option maxHeartbeats 8000000 in
set_option maxRecDepth 100000 in
theorem impl_IsGraph.calls (k : Nat) (a0_0 : Int) (A0_1 : Option Addr) (c0_1 : Nat) (l0_1 : List (List Int)) (r : Bool) (w : World) (hr0_1 : Kd.C (Kd.slice 2 (Kd.int .i64)) w A0_1 l0_1.length l0_1) (hc0_1 : l0_1.length ≤ c0_1) (h : impl_IsGraph.f k a0_0 l0_1 = some r) :
  Calls Try.prog 136 #[.agg #[.int .i64 a0_0, .slice A0_1 l0_1.length c0_1]] w fun e w' => e = .returned (.bool r) ∧ Below w.heap.size w w' := by
 have hu26 := Try.underlying26
 have HR0_1 := m_ hr0_1
 have HC0_1 := m_ hc0_1
 clear hr0_1 hc0_1
 have HB := m_ (Below.refl w.heap.size w)
 have H : (impl_IsGraph.l0 k l0_1 (l0_1.length : Int) 0 a0_0 l0_1) = some r := h
 clear h
 have H' := m_ H
 clear H
 go_enter Try.func136, Try.ntmps136
 go_wp2_with (first | ((with_reducible refine gate_dst (N := 1) rfl ?_); (try (refine gate_guard (by rfl) ?_; dsimp only)); refine bx_ (N := 1) (cs := #[.int .i64 a0_0, .slice A0_1 l0_1.length c0_1]) (t := 26) ?_; intro gb503 hg w2 hbox hb; have BK503 := m_ (hbox); have GW503 := m_ ((by rw [hg]; exact (below_size hb_) : w.heap.size ≤ gb503)); have GE503 := m_ ((by rw [hg]; exact (below_size hb_) : w.heap.size ≤ gb503)); replace HB := m_ (below_step hb_ hb); clear hb hbox hg; have hcz3_0 := bc0_ BK503.out; have hcz3_1 := bc1_ BK503.out; have hfz3_0 := blk_frozen BK503.out 0; have hfz3_1 := blk_frozen BK503.out 1))
 repeat (go_quiet (first | ((with_reducible refine gate_dst (N := 1) rfl ?_); (try (refine gate_guard (by rfl) ?_; dsimp only)); refine bx_ (N := 1) (cs := #[.int .i64 a0_0, .slice A0_1 l0_1.length c0_1]) (t := 26) ?_; intro gb503 hg w2 hbox hb; have BK503 := m_ (hbox); have GW503 := m_ ((by rw [hg]; exact (below_size hb_) : w.heap.size ≤ gb503)); have GE503 := m_ ((by rw [hg]; exact (below_size hb_) : w.heap.size ≤ gb503)); replace HB := m_ (below_step hb_ hb); clear hb hbox hg; have hcz3_0 := bc0_ BK503.out; have hcz3_1 := bc1_ BK503.out; have hfz3_0 := blk_frozen BK503.out 0; have hfz3_1 := blk_frozen BK503.out 1)); try go_wp2_with (first | ((with_reducible refine gate_dst (N := 1) rfl ?_); (try (refine gate_guard (by rfl) ?_; dsimp only)); refine bx_ (N := 1) (cs := #[.int .i64 a0_0, .slice A0_1 l0_1.length c0_1]) (t := 26) ?_; intro gb503 hg w2 hbox hb; have BK503 := m_ (hbox); have GW503 := m_ ((by rw [hg]; exact (below_size hb_) : w.heap.size ≤ gb503)); have GE503 := m_ ((by rw [hg]; exact (below_size hb_) : w.heap.size ≤ gb503)); replace HB := m_ (below_step hb_ hb); clear hb hbox hg; have hcz3_0 := bc0_ BK503.out; have hcz3_1 := bc1_ BK503.out; have hfz3_0 := blk_frozen BK503.out 0; have hfz3_1 := blk_frozen BK503.out 1)))
 go_loopg [8] k (fun kq v8 w' => ∃ (x8_1 : Int), v8 = .int .i64 x8_1 ∧ Aside0 (impl_IsGraph.l0 kq l0_1 (l0_1.length : Int) x8_1 a0_0 l0_1 = some r) ∧ Aside0 (kq ≤ k) ∧ Aside0 (w'.heap[gb503]? = some (.cells #[.int .i64 a0_0, (.slice A0_1 l0_1.length c0_1)] 26 (0, 0))) ∧ Aside0 (Below w.heap.size w w'))
 case atStart => exact ⟨(0), es_, H', ⟨Nat.le_refl _⟩, ⟨blk_below BK503.out bgo_⟩, ⟨hbs_⟩⟩
 case round =>
  clear H'
  obtain ⟨x8_1, rfl, HA, HK1, BK503, HB⟩ := hrel
  cases gk with
  | zero => exact absurd HA.out (by simp [impl_IsGraph.l0])
  | succ k1 =>
   have H := HA.out
   clear HA
   simp only [impl_IsGraph.l0] at H
   by_cases c4 : x8_1 < (l0_1.length : Int)
   ·rw [if_pos c4] at H
    have c4b0 := decide_eq_true c4
    clear c4
    obtain ⟨c5, H⟩ := itn_ H
    have c5b0 := decide_eq_true c5
    clear c5
    obtain ⟨c6, H⟩ := itn_ H
    have c6b0 := decide_eq_true c6
    clear c6
    by_cases c7 : ((rd_L2 l0_1 x8_1).length : Int) = 2
    ·rw [if_pos c7] at H
     have c7b0 : (((rd_L2 l0_1 x8_1).length : Int) == 2) = true := beq_iff_eq.mpr c7
     have c7b1 : (((rd_L2 l0_1 x8_1).length : Int) != 2) = false := bne_eq_false_iff_eq.mpr c7
     clear c7
     obtain ⟨c8, H⟩ := itn_ H
     have c8b0 := decide_eq_true c8
     have c8b1 : decide (0 < (rd_L2 l0_1 x8_1).length) = true := decide_eq_true (by omega)
     clear c8
     obtain ⟨t507, A9, H⟩ := bnd_ H
     by_cases c10 : t507 = true
     ·subst c10
      have H1 : (if 1 < ((rd_L2 l0_1 x8_1).length : Int) then ((impl_within.f (rd (rd_L2 l0_1 x8_1) 1) 0 (wrap64 (a0_0 - 1))).bind fun t509 => (if t509 = true then (impl_IsGraph.l0 k1 l0_1 (l0_1.length : Int) (wrap64 (x8_1 + 1)) a0_0 l0_1) else (some false))) else (none)) = some r := by rw [if_pos rfl] at H; exact H
      clear H
      have H := H1
      clear H1
      obtain ⟨c11, H⟩ := itn_ H
      have c11b0 := decide_eq_true c11
      have c11b1 : decide (1 < (rd_L2 l0_1 x8_1).length) = true := decide_eq_true (by omega)
      clear c11
      obtain ⟨t509, A12, H⟩ := bnd_ H
      by_cases c13 : t509 = true
      ·subst c13
       have H1 : (impl_IsGraph.l0 k1 l0_1 (l0_1.length : Int) (wrap64 (x8_1 + 1)) a0_0 l0_1) = some r := by rw [if_pos rfl] at H; exact H
       clear H
       have H := H1
       clear H1
       have H' := m_ H
       clear H
       have p505 : 0 ≤ (x8_1 : Int) := od_
       have q505 : x8_1 < (l0_1.length : Int) := od_
       obtain ⟨ad505, A505_0, c505_0, e505, hx505_0, hl505_0, hi505_0⟩ := at_L2 HR0_1.out x8_1 p505 q505
       cases e505
       (try replace hx505_0 := (HB.out.cell (World.block_lt_of_cell? w _ hx505_0)).trans hx505_0)
       have HR505_0 := m_ hi505_0
       have HC505_0 := m_ hl505_0
       clear hi505_0 hl505_0
       replace p505 := eq_true p505
       replace q505 := eq_true q505
       have p506 : 0 ≤ (0 : Int) := (by omega)
       have q506 : 0 < ((rd_L2 l0_1 x8_1).length : Int) := od_
       obtain ⟨ad506, e506, hx506_0⟩ := Kd.at_int HR505_0.out 0 p506 q506
       cases e506
       have qi506 : (0 < (rd_L2 l0_1 x8_1).length) = True := eq_true (by omega)
       (try rw [show ((0 : Int)).toNat = 0 from rfl] at hx506_0)
       (try rw [Addr.add_zero'] at hx506_0)
       (try replace hx506_0 := (HB.out.cell (World.block_lt_of_cell? w _ hx506_0)).trans hx506_0)
       replace p506 := eq_true p506
       replace q506 := eq_true q506
       have hcz14_0 := bc0_ BK503.out
       have hcz14_1 := bc1_ BK503.out
       have hfz14_0 := blk_frozen BK503.out 0
       have hfz14_1 := blk_frozen BK503.out 1
       have p508 : 0 ≤ (1 : Int) := (by omega)
       have q508 : 1 < ((rd_L2 l0_1 x8_1).length : Int) := od_
       obtain ⟨ad508, e508, hx508_0⟩ := Kd.at_int HR505_0.out 1 p508 q508
       obtain rfl : ad506 = ad508 := (by injection e508)
       (try simp only [show (1 : Int).toNat = 1 from rfl, Nat.reduceMul, Nat.reduceEqDiff, Go.Addr.add, ↓reduceIte] at hx508_0)
       have qi508 : (1 < (rd_L2 l0_1 x8_1).length) = True := eq_true (by omega)
       (try rw [show ((1 : Int)).toNat = 1 from rfl] at hx508_0)
       (try replace hx508_0 := (HB.out.cell (World.block_lt_of_cell? w _ hx508_0)).trans hx508_0)
       replace p508 := eq_true p508
       replace q508 := eq_true q508
       go_wp2_with (first | (go_at_call 106; (with_reducible refine (impl_within.calls (rd (rd_L2 l0_1 x8_1) 0) 0 (wrap64 (a0_0 - 1)) true _ A9.out).mono ?_); rintro e w' ⟨rfl, ⟨nd, rfl⟩⟩; (try first | exact ⟨rfl, _, World.drewN_drewN _ _ _⟩ | exact ⟨rfl, _, Eq.trans (World.drewN_drewN _ _ _) (congrArg (World.drewN _) (Nat.add_assoc _ _ _))⟩)) | (go_at_call 106; (with_reducible refine (impl_within.calls (rd (rd_L2 l0_1 x8_1) 1) 0 (wrap64 (a0_0 - 1)) true _ A12.out).mono ?_); rintro e w' ⟨rfl, ⟨nd, rfl⟩⟩; (try first | exact ⟨rfl, _, World.drewN_drewN _ _ _⟩ | exact ⟨rfl, _, Eq.trans (World.drewN_drewN _ _ _) (congrArg (World.drewN _) (Nat.add_assoc _ _ _))⟩)))
       repeat (go_quiet (first | (go_at_call 106; (with_reducible refine (impl_within.calls (rd (rd_L2 l0_1 x8_1) 0) 0 (wrap64 (a0_0 - 1)) true _ A9.out).mono ?_); rintro e w' ⟨rfl, ⟨nd, rfl⟩⟩; (try first | exact ⟨rfl, _, World.drewN_drewN _ _ _⟩ | exact ⟨rfl, _, Eq.trans (World.drewN_drewN _ _ _) (congrArg (World.drewN _) (Nat.add_assoc _ _ _))⟩)) | (go_at_call 106; (with_reducible refine (impl_within.calls (rd (rd_L2 l0_1 x8_1) 1) 0 (wrap64 (a0_0 - 1)) true _ A12.out).mono ?_); rintro e w' ⟨rfl, ⟨nd, rfl⟩⟩; (try first | exact ⟨rfl, _, World.drewN_drewN _ _ _⟩ | exact ⟨rfl, _, Eq.trans (World.drewN_drewN _ _ _) (congrArg (World.drewN _) (Nat.add_assoc _ _ _))⟩))); try go_wp2_with (first | (go_at_call 106; (with_reducible refine (impl_within.calls (rd (rd_L2 l0_1 x8_1) 0) 0 (wrap64 (a0_0 - 1)) true _ A9.out).mono ?_); rintro e w' ⟨rfl, ⟨nd, rfl⟩⟩; (try first | exact ⟨rfl, _, World.drewN_drewN _ _ _⟩ | exact ⟨rfl, _, Eq.trans (World.drewN_drewN _ _ _) (congrArg (World.drewN _) (Nat.add_assoc _ _ _))⟩)) | (go_at_call 106; (with_reducible refine (impl_within.calls (rd (rd_L2 l0_1 x8_1) 1) 0 (wrap64 (a0_0 - 1)) true _ A12.out).mono ?_); rintro e w' ⟨rfl, ⟨nd, rfl⟩⟩; (try first | exact ⟨rfl, _, World.drewN_drewN _ _ _⟩ | exact ⟨rfl, _, Eq.trans (World.drewN_drewN _ _ _) (congrArg (World.drewN _) (Nat.add_assoc _ _ _))⟩))))
       go_roundg k1
       case measure => have := HK1.out; omega
       case rel => exact ⟨(wrap64 (x8_1 + 1)), es_, H', ⟨by have := HK1.out; omega⟩, ⟨blk_below BK503.out bgo_⟩, ⟨hbs_⟩⟩
      ·replace c13 := Bool.eq_false_iff.mpr c13
       subst c13
       have H1 : (some false) = some r := by rw [if_neg (show ¬ (false = true) by decide)] at H; exact H
       clear H
       have H := H1
       clear H1
       obtain rfl := Option.some.inj H
       have p505 : 0 ≤ (x8_1 : Int) := od_
       have q505 : x8_1 < (l0_1.length : Int) := od_
       obtain ⟨ad505, A505_0, c505_0, e505, hx505_0, hl505_0, hi505_0⟩ := at_L2 HR0_1.out x8_1 p505 q505
       cases e505
       (try replace hx505_0 := (HB.out.cell (World.block_lt_of_cell? w _ hx505_0)).trans hx505_0)
       have HR505_0 := m_ hi505_0
       have HC505_0 := m_ hl505_0
       clear hi505_0 hl505_0
       replace p505 := eq_true p505
       replace q505 := eq_true q505
       have p506 : 0 ≤ (0 : Int) := (by omega)
       have q506 : 0 < ((rd_L2 l0_1 x8_1).length : Int) := od_
       obtain ⟨ad506, e506, hx506_0⟩ := Kd.at_int HR505_0.out 0 p506 q506
       cases e506
       have qi506 : (0 < (rd_L2 l0_1 x8_1).length) = True := eq_true (by omega)
       (try rw [show ((0 : Int)).toNat = 0 from rfl] at hx506_0)
       (try rw [Addr.add_zero'] at hx506_0)
       (try replace hx506_0 := (HB.out.cell (World.block_lt_of_cell? w _ hx506_0)).trans hx506_0)
       replace p506 := eq_true p506
       replace q506 := eq_true q506
       have hcz15_0 := bc0_ BK503.out
       have hcz15_1 := bc1_ BK503.out
       have hfz15_0 := blk_frozen BK503.out 0
       have hfz15_1 := blk_frozen BK503.out 1
       have p508 : 0 ≤ (1 : Int) := (by omega)
       have q508 : 1 < ((rd_L2 l0_1 x8_1).length : Int) := od_
       obtain ⟨ad508, e508, hx508_0⟩ := Kd.at_int HR505_0.out 1 p508 q508
       obtain rfl : ad506 = ad508 := (by injection e508)
       (try simp only [show (1 : Int).toNat = 1 from rfl, Nat.reduceMul, Nat.reduceEqDiff, Go.Addr.add, ↓reduceIte] at hx508_0)
       have qi508 : (1 < (rd_L2 l0_1 x8_1).length) = True := eq_true (by omega)
       (try rw [show ((1 : Int)).toNat = 1 from rfl] at hx508_0)
       (try replace hx508_0 := (HB.out.cell (World.block_lt_of_cell? w _ hx508_0)).trans hx508_0)
       replace p508 := eq_true p508
       replace q508 := eq_true q508
       go_wp2_with (first | (go_at_call 106; (with_reducible refine (impl_within.calls (rd (rd_L2 l0_1 x8_1) 0) 0 (wrap64 (a0_0 - 1)) true _ A9.out).mono ?_); rintro e w' ⟨rfl, ⟨nd, rfl⟩⟩; (try first | exact ⟨rfl, _, World.drewN_drewN _ _ _⟩ | exact ⟨rfl, _, Eq.trans (World.drewN_drewN _ _ _) (congrArg (World.drewN _) (Nat.add_assoc _ _ _))⟩)) | (go_at_call 106; (with_reducible refine (impl_within.calls (rd (rd_L2 l0_1 x8_1) 1) 0 (wrap64 (a0_0 - 1)) false _ A12.out).mono ?_); rintro e w' ⟨rfl, ⟨nd, rfl⟩⟩; (try first | exact ⟨rfl, _, World.drewN_drewN _ _ _⟩ | exact ⟨rfl, _, Eq.trans (World.drewN_drewN _ _ _) (congrArg (World.drewN _) (Nat.add_assoc _ _ _))⟩)))
       repeat (go_quiet (first | (go_at_call 106; (with_reducible refine (impl_within.calls (rd (rd_L2 l0_1 x8_1) 0) 0 (wrap64 (a0_0 - 1)) true _ A9.out).mono ?_); rintro e w' ⟨rfl, ⟨nd, rfl⟩⟩; (try first | exact ⟨rfl, _, World.drewN_drewN _ _ _⟩ | exact ⟨rfl, _, Eq.trans (World.drewN_drewN _ _ _) (congrArg (World.drewN _) (Nat.add_assoc _ _ _))⟩)) | (go_at_call 106; (with_reducible refine (impl_within.calls (rd (rd_L2 l0_1 x8_1) 1) 0 (wrap64 (a0_0 - 1)) false _ A12.out).mono ?_); rintro e w' ⟨rfl, ⟨nd, rfl⟩⟩; (try first | exact ⟨rfl, _, World.drewN_drewN _ _ _⟩ | exact ⟨rfl, _, Eq.trans (World.drewN_drewN _ _ _) (congrArg (World.drewN _) (Nat.add_assoc _ _ _))⟩))); try go_wp2_with (first | (go_at_call 106; (with_reducible refine (impl_within.calls (rd (rd_L2 l0_1 x8_1) 0) 0 (wrap64 (a0_0 - 1)) true _ A9.out).mono ?_); rintro e w' ⟨rfl, ⟨nd, rfl⟩⟩; (try first | exact ⟨rfl, _, World.drewN_drewN _ _ _⟩ | exact ⟨rfl, _, Eq.trans (World.drewN_drewN _ _ _) (congrArg (World.drewN _) (Nat.add_assoc _ _ _))⟩)) | (go_at_call 106; (with_reducible refine (impl_within.calls (rd (rd_L2 l0_1 x8_1) 1) 0 (wrap64 (a0_0 - 1)) false _ A12.out).mono ?_); rintro e w' ⟨rfl, ⟨nd, rfl⟩⟩; (try first | exact ⟨rfl, _, World.drewN_drewN _ _ _⟩ | exact ⟨rfl, _, Eq.trans (World.drewN_drewN _ _ _) (congrArg (World.drewN _) (Nat.add_assoc _ _ _))⟩))))
       go_ret
       exact ⟨er_, hbs_⟩
     ·replace c10 := Bool.eq_false_iff.mpr c10
      subst c10
      have H1 : (some false) = some r := by rw [if_neg (show ¬ (false = true) by decide)] at H; exact H
      clear H
      have H := H1
      clear H1
      obtain rfl := Option.some.inj H
      have p505 : 0 ≤ (x8_1 : Int) := od_
      have q505 : x8_1 < (l0_1.length : Int) := od_
      obtain ⟨ad505, A505_0, c505_0, e505, hx505_0, hl505_0, hi505_0⟩ := at_L2 HR0_1.out x8_1 p505 q505
      cases e505
      (try replace hx505_0 := (HB.out.cell (World.block_lt_of_cell? w _ hx505_0)).trans hx505_0)
      have HR505_0 := m_ hi505_0
      have HC505_0 := m_ hl505_0
      clear hi505_0 hl505_0
      replace p505 := eq_true p505
      replace q505 := eq_true q505
      have p506 : 0 ≤ (0 : Int) := (by omega)
      have q506 : 0 < ((rd_L2 l0_1 x8_1).length : Int) := od_
      obtain ⟨ad506, e506, hx506_0⟩ := Kd.at_int HR505_0.out 0 p506 q506
      cases e506
      have qi506 : (0 < (rd_L2 l0_1 x8_1).length) = True := eq_true (by omega)
      (try rw [show ((0 : Int)).toNat = 0 from rfl] at hx506_0)
      (try rw [Addr.add_zero'] at hx506_0)
      (try replace hx506_0 := (HB.out.cell (World.block_lt_of_cell? w _ hx506_0)).trans hx506_0)
      replace p506 := eq_true p506
      replace q506 := eq_true q506
      have hcz16_0 := bc0_ BK503.out
      have hcz16_1 := bc1_ BK503.out
      have hfz16_0 := blk_frozen BK503.out 0
      have hfz16_1 := blk_frozen BK503.out 1
      go_wp2_with (first | (go_at_call 106; (with_reducible refine (impl_within.calls (rd (rd_L2 l0_1 x8_1) 0) 0 (wrap64 (a0_0 - 1)) false _ A9.out).mono ?_); rintro e w' ⟨rfl, ⟨nd, rfl⟩⟩; (try first | exact ⟨rfl, _, World.drewN_drewN _ _ _⟩ | exact ⟨rfl, _, Eq.trans (World.drewN_drewN _ _ _) (congrArg (World.drewN _) (Nat.add_assoc _ _ _))⟩)))
      repeat (go_quiet (first | (go_at_call 106; (with_reducible refine (impl_within.calls (rd (rd_L2 l0_1 x8_1) 0) 0 (wrap64 (a0_0 - 1)) false _ A9.out).mono ?_); rintro e w' ⟨rfl, ⟨nd, rfl⟩⟩; (try first | exact ⟨rfl, _, World.drewN_drewN _ _ _⟩ | exact ⟨rfl, _, Eq.trans (World.drewN_drewN _ _ _) (congrArg (World.drewN _) (Nat.add_assoc _ _ _))⟩))); try go_wp2_with (first | (go_at_call 106; (with_reducible refine (impl_within.calls (rd (rd_L2 l0_1 x8_1) 0) 0 (wrap64 (a0_0 - 1)) false _ A9.out).mono ?_); rintro e w' ⟨rfl, ⟨nd, rfl⟩⟩; (try first | exact ⟨rfl, _, World.drewN_drewN _ _ _⟩ | exact ⟨rfl, _, Eq.trans (World.drewN_drewN _ _ _) (congrArg (World.drewN _) (Nat.add_assoc _ _ _))⟩))))
      go_ret
      exact ⟨er_, hbs_⟩
    ·rw [if_neg c7] at H
     have c7b0 : (((rd_L2 l0_1 x8_1).length : Int) == 2) = false := beq_eq_false_iff_ne.mpr c7
     have c7b1 : (((rd_L2 l0_1 x8_1).length : Int) != 2) = true := bne_iff_ne.mpr c7
     obtain rfl := Option.some.inj H
     have p505 : 0 ≤ (x8_1 : Int) := od_
     have q505 : x8_1 < (l0_1.length : Int) := od_
     obtain ⟨ad505, A505_0, c505_0, e505, hx505_0, hl505_0, hi505_0⟩ := at_L2 HR0_1.out x8_1 p505 q505
     cases e505
     (try replace hx505_0 := (HB.out.cell (World.block_lt_of_cell? w _ hx505_0)).trans hx505_0)
     have HR505_0 := m_ hi505_0
     have HC505_0 := m_ hl505_0
     clear hi505_0 hl505_0
     replace p505 := eq_true p505
     replace q505 := eq_true q505
     go_wp2
     repeat (go_quiet (fail); try go_wp2)
     go_ret
     exact ⟨er_, hbs_⟩
   ·rw [if_neg c4] at H
    have c4b0 := decide_eq_false c4
    clear c4
    obtain ⟨t504, A17, H⟩ := bnd_ H
    by_cases c18 : t504 = true
    ·subst c18
     have H1 : (some (decide ((l0_1.length : Int) ≤ 10))) = some r := by rw [if_pos rfl] at H; exact H
     clear H
     have H := H1
     clear H1
     obtain rfl := Option.some.inj H
     have hcz19_0 := bc0_ BK503.out
     have hcz19_1 := bc1_ BK503.out
     have hfz19_0 := blk_frozen BK503.out 0
     have hfz19_1 := blk_frozen BK503.out 1
     go_wp2_with (first | (go_at_call 106; (with_reducible refine (impl_within.calls a0_0 1 8 true _ A17.out).mono ?_); rintro e w' ⟨rfl, ⟨nd, rfl⟩⟩; (try first | exact ⟨rfl, _, World.drewN_drewN _ _ _⟩ | exact ⟨rfl, _, Eq.trans (World.drewN_drewN _ _ _) (congrArg (World.drewN _) (Nat.add_assoc _ _ _))⟩)))
     repeat (go_quiet (first | (go_at_call 106; (with_reducible refine (impl_within.calls a0_0 1 8 true _ A17.out).mono ?_); rintro e w' ⟨rfl, ⟨nd, rfl⟩⟩; (try first | exact ⟨rfl, _, World.drewN_drewN _ _ _⟩ | exact ⟨rfl, _, Eq.trans (World.drewN_drewN _ _ _) (congrArg (World.drewN _) (Nat.add_assoc _ _ _))⟩))); try go_wp2_with (first | (go_at_call 106; (with_reducible refine (impl_within.calls a0_0 1 8 true _ A17.out).mono ?_); rintro e w' ⟨rfl, ⟨nd, rfl⟩⟩; (try first | exact ⟨rfl, _, World.drewN_drewN _ _ _⟩ | exact ⟨rfl, _, Eq.trans (World.drewN_drewN _ _ _) (congrArg (World.drewN _) (Nat.add_assoc _ _ _))⟩))))
     go_ret
     exact ⟨er_, hbs_⟩
    ·replace c18 := Bool.eq_false_iff.mpr c18
     subst c18
     have H1 : (some false) = some r := by rw [if_neg (show ¬ (false = true) by decide)] at H; exact H
     clear H
     have H := H1
     clear H1
     obtain rfl := Option.some.inj H
     have hcz20_0 := bc0_ BK503.out
     have hcz20_1 := bc1_ BK503.out
     have hfz20_0 := blk_frozen BK503.out 0
     have hfz20_1 := blk_frozen BK503.out 1
     go_wp2_with (first | (go_at_call 106; (with_reducible refine (impl_within.calls a0_0 1 8 false _ A17.out).mono ?_); rintro e w' ⟨rfl, ⟨nd, rfl⟩⟩; (try first | exact ⟨rfl, _, World.drewN_drewN _ _ _⟩ | exact ⟨rfl, _, Eq.trans (World.drewN_drewN _ _ _) (congrArg (World.drewN _) (Nat.add_assoc _ _ _))⟩)))
     repeat (go_quiet (first | (go_at_call 106; (with_reducible refine (impl_within.calls a0_0 1 8 false _ A17.out).mono ?_); rintro e w' ⟨rfl, ⟨nd, rfl⟩⟩; (try first | exact ⟨rfl, _, World.drewN_drewN _ _ _⟩ | exact ⟨rfl, _, Eq.trans (World.drewN_drewN _ _ _) (congrArg (World.drewN _) (Nat.add_assoc _ _ _))⟩))); try go_wp2_with (first | (go_at_call 106; (with_reducible refine (impl_within.calls a0_0 1 8 false _ A17.out).mono ?_); rintro e w' ⟨rfl, ⟨nd, rfl⟩⟩; (try first | exact ⟨rfl, _, World.drewN_drewN _ _ _⟩ | exact ⟨rfl, _, Eq.trans (World.drewN_drewN _ _ _) (congrArg (World.drewN _) (Nat.add_assoc _ _ _))⟩))))
     go_ret
     exact ⟨er_, hbs_⟩

/-! ### impl_Graph_size: function 204 -/
def impl_Graph_size.f (a0_0 : Int) (l0_1 : List (List Int)) : Option (Int) := some (l0_1.length : Int)
set_option maxHeartbeats 8000000 in
set_option maxRecDepth 100000 in
theorem impl_Graph_size.calls (a0_0 : Int) (A0_1 : Option Addr) (c0_1 : Nat) (l0_1 : List (List Int)) (r : Int) (w : World) (hr0_1 : Kd.C (Kd.slice 2 (Kd.int .i64)) w A0_1 l0_1.length l0_1) (hc0_1 : l0_1.length ≤ c0_1) (h : impl_Graph_size.f a0_0 l0_1 = some r) :
  Calls Try.prog 204 #[.agg #[.int .i64 a0_0, .slice A0_1 l0_1.length c0_1]] w fun e w' => e = .returned (.int .i64 r) ∧ Below w.heap.size w w' := by
 have hu26 := Try.underlying26
 have HR0_1 := m_ hr0_1
 have HC0_1 := m_ hc0_1
 clear hr0_1 hc0_1
 have HB := m_ (Below.refl w.heap.size w)
 have H : (some (l0_1.length : Int)) = some r := h
 clear h
 obtain rfl := Option.some.inj H
 go_enter Try.func204, Try.ntmps204
 go_wp2_with (first | ((with_reducible refine gate_dst (N := 1) rfl ?_); refine bx_ (N := 1) (cs := #[.int .i64 a0_0, .slice A0_1 l0_1.length c0_1]) (t := 26) ?_; intro gb510 hg w2 hbox hb; have BK510 := m_ (hbox); have GW510 := m_ ((by rw [hg]; exact (below_size hb_) : w.heap.size ≤ gb510)); have GE510 := m_ ((by rw [hg]; exact (below_size hb_) : w.heap.size ≤ gb510)); replace HB := m_ (below_step hb_ hb); clear hb hbox hg; have hcz3_0 := bc0_ BK510.out; have hcz3_1 := bc1_ BK510.out; have hfz3_0 := blk_frozen BK510.out 0; have hfz3_1 := blk_frozen BK510.out 1))
 go_ret
 exact ⟨er_, hbs_⟩

-- NOT PRINTED: function 239 (slices_IndexFunc_int64_int64_239)

-- NOT PRINTED: function 205 (slices_ContainsFunc_int64_int64_205)

/-! ### slices_Index_int64_int64: function 109 -/
def slices_Index_int64_int64.l0 : Nat → List Int → Int → Int → Int → Option (Int)
 | 0, _, _, _, _ => none
 | k + 1, x0, x1, x7, x8 => if x8 < x7 then (if 0 ≤ x8 then (if x8 < (x0.length : Int) then (if x1 = (rd x0 x8) then (some x8) else (slices_Index_int64_int64.l0 k x0 x1 x7 (wrap64 (x8 + 1)))) else (none)) else (none)) else (some (-1))
def slices_Index_int64_int64.f (k : Nat) (l0 : List Int) (a1 : Int) : Option (Int) := slices_Index_int64_int64.l0 k l0 a1 (l0.length : Int) 0
set_option maxHeartbeats 8000000 in
set_option maxRecDepth 100000 in
theorem slices_Index_int64_int64.calls (k : Nat) (A0 : Option Addr) (c0 : Nat) (l0 : List Int) (a1 : Int) (r : Int) (w : World) (hr0 : Kd.C (Kd.int .i64) w A0 l0.length l0) (hc0 : l0.length ≤ c0) (h : slices_Index_int64_int64.f k l0 a1 = some r) :
  Calls Try.prog 109 #[.slice A0 l0.length c0, .int .i64 a1] w fun e w' => e = .returned (.int .i64 r) ∧ Drawn0 w w' := by
 have HR0 := m_ hr0
 have HC0 := m_ hc0
 clear hr0 hc0
 have H : (slices_Index_int64_int64.l0 k l0 a1 (l0.length : Int) 0) = some r := h
 clear h
 have H' := m_ H
 clear H
 go_enter Try.func109, Try.ntmps109
 go_wp2
 go_loopg [8] k (fun kq v8 w' => ∃ (x8_1 : Int), v8 = .int .i64 x8_1 ∧ Aside0 (slices_Index_int64_int64.l0 kq l0 a1 (l0.length : Int) x8_1 = some r) ∧ Aside0 (kq ≤ k) ∧ Drawn0 w w')
 case atStart => exact ⟨(0), es_, H', ⟨Nat.le_refl _⟩, by repeat (first | exact Drawn0.refl _ | apply Drawn0.step)⟩
 case round =>
  clear H'
  obtain ⟨x8_1, rfl, HA, HK1, ⟨m1, rfl⟩⟩ := hrel
  cases gk with
  | zero => exact absurd HA.out (by simp [slices_Index_int64_int64.l0])
  | succ k1 =>
   have H := HA.out
   clear HA
   simp only [slices_Index_int64_int64.l0] at H
   by_cases c3 : x8_1 < (l0.length : Int)
   ·rw [if_pos c3] at H
    have c3b0 := decide_eq_true c3
    clear c3
    obtain ⟨c4, H⟩ := itn_ H
    have c4b0 := decide_eq_true c4
    clear c4
    obtain ⟨c5, H⟩ := itn_ H
    have c5b0 := decide_eq_true c5
    clear c5
    by_cases c6 : a1 = (rd l0 x8_1)
    ·rw [if_pos c6] at H
     have c6b0 : (a1 == (rd l0 x8_1)) = true := beq_iff_eq.mpr c6
     have c6b1 : (a1 != (rd l0 x8_1)) = false := bne_eq_false_iff_eq.mpr c6
     clear c6
     obtain rfl := Option.some.inj H
     have p511 : 0 ≤ (x8_1 : Int) := od_
     have q511 : x8_1 < (l0.length : Int) := od_
     obtain ⟨ad511, e511, hx511_0⟩ := Kd.at_int HR0.out x8_1 p511 q511
     cases e511
     replace p511 := eq_true p511
     replace q511 := eq_true q511
     go_wp2
     go_ret
     exact ⟨es_, by repeat (first | exact Drawn0.refl _ | apply Drawn0.step)⟩
    ·rw [if_neg c6] at H
     have c6b0 : (a1 == (rd l0 x8_1)) = false := beq_eq_false_iff_ne.mpr c6
     have c6b1 : (a1 != (rd l0 x8_1)) = true := bne_iff_ne.mpr c6
     have H' := m_ H
     clear H
     have p511 : 0 ≤ (x8_1 : Int) := od_
     have q511 : x8_1 < (l0.length : Int) := od_
     obtain ⟨ad511, e511, hx511_0⟩ := Kd.at_int HR0.out x8_1 p511 q511
     cases e511
     replace p511 := eq_true p511
     replace q511 := eq_true q511
     go_wp2
     go_roundg k1
     case measure => have := HK1.out; omega
     case rel => exact ⟨(wrap64 (x8_1 + 1)), es_, H', ⟨by have := HK1.out; omega⟩, by repeat (first | exact Drawn0.refl _ | apply Drawn0.step)⟩
   ·rw [if_neg c3] at H
    have c3b0 := decide_eq_false c3
    clear c3
    obtain rfl := Option.some.inj H
    go_wp2
    go_ret
    exact ⟨es_, by repeat (first | exact Drawn0.refl _ | apply Drawn0.step)⟩

/-! ### slices_Contains_int64_int64: function 240 -/
def slices_Contains_int64_int64.f (k : Nat) (l0 : List Int) (a1 : Int) : Option (Bool) := (slices_Index_int64_int64.f k l0 a1).bind fun t512 => (some (decide (t512 ≥ 0)))
set_option maxHeartbeats 8000000 in
set_option maxRecDepth 100000 in
theorem slices_Contains_int64_int64.calls (k : Nat) (A0 : Option Addr) (c0 : Nat) (l0 : List Int) (a1 : Int) (r : Bool) (w : World) (hr0 : Kd.C (Kd.int .i64) w A0 l0.length l0) (hc0 : l0.length ≤ c0) (h : slices_Contains_int64_int64.f k l0 a1 = some r) :
  Calls Try.prog 240 #[.slice A0 l0.length c0, .int .i64 a1] w fun e w' => e = .returned (.bool r) ∧ Drawn0 w w' := by
 have HR0 := m_ hr0
 have HC0 := m_ hc0
 clear hr0 hc0
 have H : ((slices_Index_int64_int64.f k l0 a1).bind fun t512 => (some (decide (t512 ≥ 0)))) = some r := h
 clear h
 obtain ⟨t512, A3, H⟩ := bnd_ H
 obtain rfl := Option.some.inj H
 go_enter Try.func240, Try.ntmps240
 go_wp2_with (first | ((with_reducible refine gate_callee (f := 109) rfl ?_); refine gl_ (some 7) Try.func109 #[.slice A0 l0.length c0, .int .i64 a1] ?_; (with_reducible refine (slices_Index_int64_int64.calls k _ _ l0 a1 t512 _ ?side1 ?side2 A3.out).mono ?_); (case side1 => exact Kd.C_below HR0.out bgo_); (case side2 => exact HC0.out); rintro e w' ⟨rfl, ⟨nd, rfl⟩⟩; refine ⟨_, rfl, ?_⟩))
 go_ret
 exact ⟨es_, by repeat (first | exact Drawn0.refl _ | apply Drawn0.step)⟩

/-! ### impl_isOrder: function 207 -/
def impl_isOrder.l0 : Nat → List Int → Int → Int → Int → Option (Bool)
 | 0, _, _, _, _ => none
 | k + 1, x0, x1, x6, x7 => if x7 < x6 then ((slices_Contains_int64_int64.f k x0 x7).bind fun t513 => (if t513 = true then (impl_isOrder.l0 k x0 x1 x6 (wrap64 (x7 + 1))) else (some false))) else (some ((x0.length : Int) == x1))
def impl_isOrder.f (k : Nat) (l0 : List Int) (a1 : Int) : Option (Bool) := impl_isOrder.l0 k l0 a1 a1 0
set_option maxHeartbeats 8000000 in
set_option maxRecDepth 100000 in
theorem impl_isOrder.calls (k : Nat) (A0 : Option Addr) (c0 : Nat) (l0 : List Int) (a1 : Int) (r : Bool) (w : World) (hr0 : Kd.C (Kd.int .i64) w A0 l0.length l0) (hc0 : l0.length ≤ c0) (h : impl_isOrder.f k l0 a1 = some r) :
  Calls Try.prog 207 #[.slice A0 l0.length c0, .int .i64 a1] w fun e w' => e = .returned (.bool r) ∧ Drawn0 w w' := by
 have HR0 := m_ hr0
 have HC0 := m_ hc0
 clear hr0 hc0
 have H : (impl_isOrder.l0 k l0 a1 a1 0) = some r := h
 clear h
 have H' := m_ H
 clear H
 go_enter Try.func207, Try.ntmps207
 go_wp2
 go_loopg [7] k (fun kq v7 w' => ∃ (x7_1 : Int), v7 = .int .i64 x7_1 ∧ Aside0 (impl_isOrder.l0 kq l0 a1 a1 x7_1 = some r) ∧ Aside0 (kq ≤ k) ∧ Drawn0 w w')
 case atStart => exact ⟨(0), es_, H', ⟨Nat.le_refl _⟩, by repeat (first | exact Drawn0.refl _ | apply Drawn0.step)⟩
 case round =>
  clear H'
  obtain ⟨x7_1, rfl, HA, HK1, ⟨m1, rfl⟩⟩ := hrel
  cases gk with
  | zero => exact absurd HA.out (by simp [impl_isOrder.l0])
  | succ k1 =>
   have H := HA.out
   clear HA
   simp only [impl_isOrder.l0] at H
   by_cases c3 : x7_1 < a1
   ·rw [if_pos c3] at H
    have c3b0 := decide_eq_true c3
    clear c3
    obtain ⟨t513, A4, H⟩ := bnd_ H
    by_cases c5 : t513 = true
    ·subst c5
     have H1 : (impl_isOrder.l0 k1 l0 a1 a1 (wrap64 (x7_1 + 1))) = some r := by rw [if_pos rfl] at H; exact H
     clear H
     have H := H1
     clear H1
     have H' := m_ H
     clear H
     go_wp2_with (first | ((with_reducible refine gate_callee (f := 240) rfl ?_); refine gl_ (some 12) Try.func240 #[.slice A0 l0.length c0, .int .i64 x7_1] ?_; (with_reducible refine (slices_Contains_int64_int64.calls k1 _ _ l0 x7_1 true _ ?side1 ?side2 A4.out).mono ?_); (case side1 => exact Kd.C_below HR0.out bgo_); (case side2 => exact HC0.out); rintro e w' ⟨rfl, ⟨nd, rfl⟩⟩; refine ⟨_, rfl, ?_⟩))
     go_roundg k1
     case measure => have := HK1.out; omega
     case rel => exact ⟨(wrap64 (x7_1 + 1)), es_, H', ⟨by have := HK1.out; omega⟩, by repeat (first | exact Drawn0.refl _ | apply Drawn0.step)⟩
    ·replace c5 := Bool.eq_false_iff.mpr c5
     subst c5
     have H1 : (some false) = some r := by rw [if_neg (show ¬ (false = true) by decide)] at H; exact H
     clear H
     have H := H1
     clear H1
     obtain rfl := Option.some.inj H
     go_wp2_with (first | ((with_reducible refine gate_callee (f := 240) rfl ?_); refine gl_ (some 12) Try.func240 #[.slice A0 l0.length c0, .int .i64 x7_1] ?_; (with_reducible refine (slices_Contains_int64_int64.calls k1 _ _ l0 x7_1 false _ ?side1 ?side2 A4.out).mono ?_); (case side1 => exact Kd.C_below HR0.out bgo_); (case side2 => exact HC0.out); rintro e w' ⟨rfl, ⟨nd, rfl⟩⟩; refine ⟨_, rfl, ?_⟩))
     go_ret
     exact ⟨es_, by repeat (first | exact Drawn0.refl _ | apply Drawn0.step)⟩
   ·rw [if_neg c3] at H
    have c3b0 := decide_eq_false c3
    clear c3
    obtain rfl := Option.some.inj H
    go_wp2
    go_ret
    exact ⟨es_, by repeat (first | exact Drawn0.refl _ | apply Drawn0.step)⟩

-- NOT PRINTED: function 206 (impl_IsCover_1)

/-! ### impl_IsCover_1: function 100002 -/
def impl_IsCover_1.f (k : Nat) (l0 : List Int) (a1_0 : Int) (l1_1 : List (List Int)) (a1_2 : Int) (l1_3 : List (List Int)) : Option (Bool) := (impl_isOrder.f k l0 a1_2).bind fun t522 => (some (!t522))
set_option maxHeartbeats 8000000 in
set_option maxRecDepth 100000 in
theorem impl_IsCover_1.calls (k : Nat) (A0 : Option Addr) (c0 : Nat) (l0 : List Int) (gq1_0 : Nat) (a1_0 : Int) (A1_1 : Option Addr) (c1_1 : Nat) (l1_1 : List (List Int)) (a1_2 : Int) (A1_3 : Option Addr) (c1_3 : Nat) (l1_3 : List (List Int)) (r : Bool) (w : World) (hr0 : Kd.C (Kd.int .i64) w A0 l0.length l0) (hc0 : l0.length ≤ c0) (hbgq1_0 : w.heap[gq1_0]? = some (.cells #[.int .i64 a1_0, .slice A1_1 l1_1.length c1_1, .int .i64 a1_2, .slice A1_3 l1_3.length c1_3] 28 (0, 0))) (hr1_1 : Kd.C (Kd.slice 2 (Kd.int .i64)) w A1_1 l1_1.length l1_1) (hc1_1 : l1_1.length ≤ c1_1) (hr1_3 : Kd.C (Kd.slice 2 (Kd.int .i64)) w A1_3 l1_3.length l1_3) (hc1_3 : l1_3.length ≤ c1_3) (h : impl_IsCover_1.f k l0 a1_0 l1_1 a1_2 l1_3 = some r) :
  Calls Try.prog 206 #[.slice A0 l0.length c0, .pointer (some ⟨gq1_0, 0, none⟩)] w fun e w' => e = .returned (.bool r) ∧ Below w.heap.size w w' := by
 have HR0 := m_ hr0
 have HC0 := m_ hc0
 clear hr0 hc0
 have HR1_1 := m_ hr1_1
 have HC1_1 := m_ hc1_1
 clear hr1_1 hc1_1
 have HR1_3 := m_ hr1_3
 have HC1_3 := m_ hc1_3
 clear hr1_3 hc1_3
 have BK521 := m_ hbgq1_0
 clear hbgq1_0
 have HB := m_ (Below.refl w.heap.size w)
 have H : ((impl_isOrder.f k l0 a1_2).bind fun t522 => (some (!t522))) = some r := h
 clear h
 obtain ⟨t522, A3, H⟩ := bnd_ H
 obtain rfl := Option.some.inj H
 have hcz4_0 := bc0_ BK521.out
 have hcz4_1 := bc1_ BK521.out
 have hcz4_2 := bc2_ BK521.out
 have hcz4_3 := bc3_ BK521.out
 have hfz4_0 := blk_frozen BK521.out 0
 have hfz4_1 := blk_frozen BK521.out 1
 have hfz4_2 := blk_frozen BK521.out 2
 have hfz4_3 := blk_frozen BK521.out 3
 go_enter Try.func206, Try.ntmps206
 go_wp2_with (first | ((with_reducible refine gate_callee (f := 207) rfl ?_); refine gl_ (some 7) Try.func207 #[.slice A0 l0.length c0, .int .i64 a1_2] ?_; (with_reducible refine (impl_isOrder.calls k _ _ l0 a1_2 t522 _ ?side1 ?side2 A3.out).mono ?_); (case side1 => exact Kd.C_below HR0.out bgo_); (case side2 => exact HC0.out); rintro e w' ⟨rfl, ⟨nd, rfl⟩⟩; refine ⟨_, rfl, ?_⟩))
 go_ret
 exact ⟨er_, hbs_⟩

/-! ### slices_IndexFunc_int64_int64_239_at_IsCover_1: function 100001 -/
def slices_IndexFunc_int64_int64_239_at_IsCover_1.l0 : Nat → List (List Int) → Int → Int → Int → List (List Int) → Int → List (List Int) → Option (Int)
 | 0, _, _, _, _, _, _, _ => none
 | k + 1, x0, x7, x8, x524000, x524001, x524002, x524003 => if x8 < x7 then (if 0 ≤ x8 then (if x8 < (x0.length : Int) then ((impl_IsCover_1.f k (rd_L2 x0 x8) x524000 x524001 x524002 x524003).bind fun t525 => (if t525 = true then (some x8) else (slices_IndexFunc_int64_int64_239_at_IsCover_1.l0 k x0 x7 (wrap64 (x8 + 1)) x524000 x524001 x524002 x524003))) else (none)) else (none)) else (some (-1))
def slices_IndexFunc_int64_int64_239_at_IsCover_1.f (k : Nat) (l0 : List (List Int)) (a1_0 : Int) (l1_1 : List (List Int)) (a1_2 : Int) (l1_3 : List (List Int)) : Option (Int) := slices_IndexFunc_int64_int64_239_at_IsCover_1.l0 k l0 (l0.length : Int) 0 a1_0 l1_1 a1_2 l1_3
set_option maxHeartbeats 8000000 in
set_option maxRecDepth 100000 in
theorem slices_IndexFunc_int64_int64_239_at_IsCover_1.calls (k : Nat) (A0 : Option Addr) (c0 : Nat) (l0 : List (List Int)) (gq1_0 : Nat) (a1_0 : Int) (A1_1 : Option Addr) (c1_1 : Nat) (l1_1 : List (List Int)) (a1_2 : Int) (A1_3 : Option Addr) (c1_3 : Nat) (l1_3 : List (List Int)) (r : Int) (w : World) (hr0 : Kd.C (Kd.slice 2 (Kd.int .i64)) w A0 l0.length l0) (hc0 : l0.length ≤ c0) (hbgq1_0 : w.heap[gq1_0]? = some (.cells #[.int .i64 a1_0, .slice A1_1 l1_1.length c1_1, .int .i64 a1_2, .slice A1_3 l1_3.length c1_3] 28 (0, 0))) (hr1_1 : Kd.C (Kd.slice 2 (Kd.int .i64)) w A1_1 l1_1.length l1_1) (hc1_1 : l1_1.length ≤ c1_1) (hr1_3 : Kd.C (Kd.slice 2 (Kd.int .i64)) w A1_3 l1_3.length l1_3) (hc1_3 : l1_3.length ≤ c1_3) (h : slices_IndexFunc_int64_int64_239_at_IsCover_1.f k l0 a1_0 l1_1 a1_2 l1_3 = some r) :
  Calls Try.prog 239 #[.slice A0 l0.length c0, .func (.func 206) #[] #[.pointer (some ⟨gq1_0, 0, none⟩)]] w fun e w' => e = .returned (.int .i64 r) ∧ Below w.heap.size w w' := by
 have HR0 := m_ hr0
 have HC0 := m_ hc0
 clear hr0 hc0
 have HR1_1 := m_ hr1_1
 have HC1_1 := m_ hc1_1
 clear hr1_1 hc1_1
 have HR1_3 := m_ hr1_3
 have HC1_3 := m_ hc1_3
 clear hr1_3 hc1_3
 have BK523 := m_ hbgq1_0
 clear hbgq1_0
 have HB := m_ (Below.refl w.heap.size w)
 have H : (slices_IndexFunc_int64_int64_239_at_IsCover_1.l0 k l0 (l0.length : Int) 0 a1_0 l1_1 a1_2 l1_3) = some r := h
 clear h
 have H' := m_ H
 clear H
 go_enter Try.func239, Try.ntmps239
 go_wp2
 go_loopg [8] k (fun kq v8 w' => ∃ (x8_1 : Int), v8 = .int .i64 x8_1 ∧ Aside0 (slices_IndexFunc_int64_int64_239_at_IsCover_1.l0 kq l0 (l0.length : Int) x8_1 a1_0 l1_1 a1_2 l1_3 = some r) ∧ Aside0 (kq ≤ k) ∧ Aside0 (w'.heap[gq1_0]? = some (.cells #[.int .i64 a1_0, (.slice A1_1 l1_1.length c1_1), .int .i64 a1_2, (.slice A1_3 l1_3.length c1_3)] 28 (0, 0))) ∧ Aside0 (Below w.heap.size w w'))
 case atStart => exact ⟨(0), es_, H', ⟨Nat.le_refl _⟩, ⟨blk_below BK523.out bgo_⟩, ⟨hbs_⟩⟩
 case round =>
  clear H'
  obtain ⟨x8_1, rfl, HA, HK1, BK523, HB⟩ := hrel
  cases gk with
  | zero => exact absurd HA.out (by simp [slices_IndexFunc_int64_int64_239_at_IsCover_1.l0])
  | succ k1 =>
   have H := HA.out
   clear HA
   simp only [slices_IndexFunc_int64_int64_239_at_IsCover_1.l0] at H
   by_cases c3 : x8_1 < (l0.length : Int)
   ·rw [if_pos c3] at H
    have c3b0 := decide_eq_true c3
    clear c3
    obtain ⟨c4, H⟩ := itn_ H
    have c4b0 := decide_eq_true c4
    clear c4
    obtain ⟨c5, H⟩ := itn_ H
    have c5b0 := decide_eq_true c5
    clear c5
    obtain ⟨t525, A6, H⟩ := bnd_ H
    by_cases c7 : t525 = true
    ·subst c7
     have H1 : (some x8_1) = some r := by rw [if_pos rfl] at H; exact H
     clear H
     have H := H1
     clear H1
     obtain rfl := Option.some.inj H
     have p524 : 0 ≤ (x8_1 : Int) := od_
     have q524 : x8_1 < (l0.length : Int) := od_
     obtain ⟨ad524, A524_0, c524_0, e524, hx524_0, hl524_0, hi524_0⟩ := at_L2 HR0.out x8_1 p524 q524
     cases e524
     (try replace hx524_0 := (HB.out.cell (World.block_lt_of_cell? w _ hx524_0)).trans hx524_0)
     have HR524_0 := m_ hi524_0
     have HC524_0 := m_ hl524_0
     clear hi524_0 hl524_0
     replace p524 := eq_true p524
     replace q524 := eq_true q524
     go_wp2_with (first | ((with_reducible refine gate_fn (t := 11) rfl ?_); refine goesF_ (some 16) rfl rfl Try.func206 (by kernel_rfl) rfl (lb := #[.pointer (some ⟨gq1_0, 0, none⟩)]) #[.slice A524_0 (rd_L2 l0 x8_1).length c524_0, .pointer (some ⟨gq1_0, 0, none⟩)] rfl (by first | rfl | (simp; done)) (by (try simp only [List.map_toArray, List.map_cons, List.map_nil, List.append_toArray, List.cons_append, List.nil_append]); first | done | rfl | (simp only [List.length_drop, List.length_take]; rfl)) ?_; (with_reducible refine (impl_IsCover_1.calls k1 _ _ (rd_L2 l0 x8_1) gq1_0 a1_0 A1_1 c1_1 l1_1 a1_2 A1_3 c1_3 l1_3 true _ ?side1 ?side2 ?side3 ?side4 ?side5 ?side6 ?side7 A6.out).mono ?_); (case side1 => exact Kd.C_below (Kd.C_below HR524_0.out HB.out) bgo_); (case side2 => exact HC524_0.out); (case side3 => exact (blk_below BK523.out bgo_)); (case side4 => exact Kd.C_below (Kd.C_below HR1_1.out HB.out) bgo_); (case side5 => exact HC1_1.out); (case side6 => exact Kd.C_below (Kd.C_below HR1_3.out HB.out) bgo_); (case side7 => exact HC1_3.out); rintro e w8 ⟨rfl, hb⟩; refine ⟨_, rfl, ?_⟩; replace BK523 := m_ (bb_ BK523.out hb); replace HB := m_ (below_step hbs_ hb); clear hb))
     go_ret
     exact ⟨er_, hbs_⟩
    ·replace c7 := Bool.eq_false_iff.mpr c7
     subst c7
     have H1 : (slices_IndexFunc_int64_int64_239_at_IsCover_1.l0 k1 l0 (l0.length : Int) (wrap64 (x8_1 + 1)) a1_0 l1_1 a1_2 l1_3) = some r := by rw [if_neg (show ¬ (false = true) by decide)] at H; exact H
     clear H
     have H := H1
     clear H1
     have H' := m_ H
     clear H
     have p524 : 0 ≤ (x8_1 : Int) := od_
     have q524 : x8_1 < (l0.length : Int) := od_
     obtain ⟨ad524, A524_0, c524_0, e524, hx524_0, hl524_0, hi524_0⟩ := at_L2 HR0.out x8_1 p524 q524
     cases e524
     (try replace hx524_0 := (HB.out.cell (World.block_lt_of_cell? w _ hx524_0)).trans hx524_0)
     have HR524_0 := m_ hi524_0
     have HC524_0 := m_ hl524_0
     clear hi524_0 hl524_0
     replace p524 := eq_true p524
     replace q524 := eq_true q524
     go_wp2_with (first | ((with_reducible refine gate_fn (t := 11) rfl ?_); refine goesF_ (some 16) rfl rfl Try.func206 (by kernel_rfl) rfl (lb := #[.pointer (some ⟨gq1_0, 0, none⟩)]) #[.slice A524_0 (rd_L2 l0 x8_1).length c524_0, .pointer (some ⟨gq1_0, 0, none⟩)] rfl (by first | rfl | (simp; done)) (by (try simp only [List.map_toArray, List.map_cons, List.map_nil, List.append_toArray, List.cons_append, List.nil_append]); first | done | rfl | (simp only [List.length_drop, List.length_take]; rfl)) ?_; (with_reducible refine (impl_IsCover_1.calls k1 _ _ (rd_L2 l0 x8_1) gq1_0 a1_0 A1_1 c1_1 l1_1 a1_2 A1_3 c1_3 l1_3 false _ ?side1 ?side2 ?side3 ?side4 ?side5 ?side6 ?side7 A6.out).mono ?_); (case side1 => exact Kd.C_below (Kd.C_below HR524_0.out HB.out) bgo_); (case side2 => exact HC524_0.out); (case side3 => exact (blk_below BK523.out bgo_)); (case side4 => exact Kd.C_below (Kd.C_below HR1_1.out HB.out) bgo_); (case side5 => exact HC1_1.out); (case side6 => exact Kd.C_below (Kd.C_below HR1_3.out HB.out) bgo_); (case side7 => exact HC1_3.out); rintro e w9 ⟨rfl, hb⟩; refine ⟨_, rfl, ?_⟩; replace BK523 := m_ (bb_ BK523.out hb); replace HB := m_ (below_step hbs_ hb); clear hb))
     go_roundg k1
     case measure => have := HK1.out; omega
     case rel => exact ⟨(wrap64 (x8_1 + 1)), es_, H', ⟨by have := HK1.out; omega⟩, ⟨blk_below BK523.out bgo_⟩, ⟨hbs_⟩⟩
   ·rw [if_neg c3] at H
    have c3b0 := decide_eq_false c3
    clear c3
    obtain rfl := Option.some.inj H
    go_wp2
    go_ret
    exact ⟨er_, hbs_⟩

/-! ### slices_ContainsFunc_int64_int64_205_at_IsCover_1: function 100000 -/
def slices_ContainsFunc_int64_int64_205_at_IsCover_1.f (k : Nat) (l0 : List (List Int)) (a1_0 : Int) (l1_1 : List (List Int)) (a1_2 : Int) (l1_3 : List (List Int)) : Option (Bool) := (slices_IndexFunc_int64_int64_239_at_IsCover_1.f k l0 a1_0 l1_1 a1_2 l1_3).bind fun t527 => (some (decide (t527 ≥ 0)))
set_option maxHeartbeats 8000000 in
set_option maxRecDepth 100000 in
theorem slices_ContainsFunc_int64_int64_205_at_IsCover_1.calls (k : Nat) (A0 : Option Addr) (c0 : Nat) (l0 : List (List Int)) (gq1_0 : Nat) (a1_0 : Int) (A1_1 : Option Addr) (c1_1 : Nat) (l1_1 : List (List Int)) (a1_2 : Int) (A1_3 : Option Addr) (c1_3 : Nat) (l1_3 : List (List Int)) (r : Bool) (w : World) (hr0 : Kd.C (Kd.slice 2 (Kd.int .i64)) w A0 l0.length l0) (hc0 : l0.length ≤ c0) (hbgq1_0 : w.heap[gq1_0]? = some (.cells #[.int .i64 a1_0, .slice A1_1 l1_1.length c1_1, .int .i64 a1_2, .slice A1_3 l1_3.length c1_3] 28 (0, 0))) (hr1_1 : Kd.C (Kd.slice 2 (Kd.int .i64)) w A1_1 l1_1.length l1_1) (hc1_1 : l1_1.length ≤ c1_1) (hr1_3 : Kd.C (Kd.slice 2 (Kd.int .i64)) w A1_3 l1_3.length l1_3) (hc1_3 : l1_3.length ≤ c1_3) (h : slices_ContainsFunc_int64_int64_205_at_IsCover_1.f k l0 a1_0 l1_1 a1_2 l1_3 = some r) :
  Calls Try.prog 205 #[.slice A0 l0.length c0, .func (.func 206) #[] #[.pointer (some ⟨gq1_0, 0, none⟩)]] w fun e w' => e = .returned (.bool r) ∧ Below w.heap.size w w' := by
 have HR0 := m_ hr0
 have HC0 := m_ hc0
 clear hr0 hc0
 have HR1_1 := m_ hr1_1
 have HC1_1 := m_ hc1_1
 clear hr1_1 hc1_1
 have HR1_3 := m_ hr1_3
 have HC1_3 := m_ hc1_3
 clear hr1_3 hc1_3
 have BK526 := m_ hbgq1_0
 clear hbgq1_0
 have HB := m_ (Below.refl w.heap.size w)
 have H : ((slices_IndexFunc_int64_int64_239_at_IsCover_1.f k l0 a1_0 l1_1 a1_2 l1_3).bind fun t527 => (some (decide (t527 ≥ 0)))) = some r := h
 clear h
 obtain ⟨t527, A3, H⟩ := bnd_ H
 obtain rfl := Option.some.inj H
 go_enter Try.func205, Try.ntmps205
 go_wp2_with (first | ((with_reducible refine gate_callee (f := 239) rfl ?_); refine gl_ (some 7) Try.func239 #[.slice A0 l0.length c0, .func (.func 206) #[] #[.pointer (some ⟨gq1_0, 0, none⟩)]] ?_; (with_reducible refine (slices_IndexFunc_int64_int64_239_at_IsCover_1.calls k _ _ l0 gq1_0 a1_0 A1_1 c1_1 l1_1 a1_2 A1_3 c1_3 l1_3 t527 _ ?side1 ?side2 ?side3 ?side4 ?side5 ?side6 ?side7 A3.out).mono ?_); (case side1 => exact Kd.C_below HR0.out bgo_); (case side2 => exact HC0.out); (case side3 => exact (blk_below BK526.out bgo_)); (case side4 => exact Kd.C_below HR1_1.out bgo_); (case side5 => exact HC1_1.out); (case side6 => exact Kd.C_below HR1_3.out bgo_); (case side7 => exact HC1_3.out); rintro e w4 ⟨rfl, hb⟩; refine ⟨_, rfl, ?_⟩; replace BK526 := m_ (bb_ BK526.out hb); replace HB := m_ (below_step hbs_ hb); clear hb))
 go_ret
 exact ⟨er_, hbs_⟩

/-! ### impl_IsCover: function 105 -/
def impl_IsCover.f (k : Nat) (a0_0 : Int) (l0_1 : List (List Int)) (a0_2 : Int) (l0_3 : List (List Int)) : Option (Bool) := (impl_IsGraph.f k a0_0 l0_1).bind fun t529 => (if t529 = true then ((impl_within.f a0_2 1 4).bind fun t530 => (if t530 = true then ((impl_Graph_size.f a0_0 l0_1).bind fun t531 => (if (l0_3.length : Int) = t531 then ((slices_ContainsFunc_int64_int64_205_at_IsCover_1.f k l0_3 a0_0 l0_1 a0_2 l0_3).bind fun t532 => (some (!t532))) else (some false))) else (some false))) else (some false))
def impl_IsCover.T1 : Bool × List (List Nat × List Nat) := (true, [([], []), ([0], [0]), ([1], [1]), ([2], [2]), ([3, 2], [3]), ([4], [4]), ([5, 4], [4, 5]), ([6, 4, 4], [4, 6]), ([7, 4], [4, 7]), ([4, 8], [4, 8]), ([9, 7], [9]), ([10], [10]), ([11, 10], [10, 11]), ([12, 10], [10, 12]), ([10], [10]), ([14, 10], [10, 14]), ([15, 10, 10], [10, 15]), ([13, 16, 10], [10, 13, 16]), ([10, 17], [10, 17])])
def impl_IsCover.B1 : List Nat := [0, 1, 3, 7, 15, 31, 63, 127, 255, 511, 1023, 2047, 4095, 8191, 2047, 18431, 51199, 131071, 262143]
theorem impl_IsCover.tab1 : rtab .any (opsOf Try.f105 1) = impl_IsCover.T1 := by kernel_rfl
theorem impl_IsCover.bits1 : waitsOk impl_IsCover.T1.2 impl_IsCover.B1 = true := by kernel_rfl
set_option maxHeartbeats 8000000 in
set_option maxRecDepth 100000 in
theorem impl_IsCover.calls (k : Nat) (a0_0 : Int) (A0_1 : Option Addr) (c0_1 : Nat) (l0_1 : List (List Int)) (a0_2 : Int) (A0_3 : Option Addr) (c0_3 : Nat) (l0_3 : List (List Int)) (r : Bool) (w : World) (hr0_1 : Kd.C (Kd.slice 2 (Kd.int .i64)) w A0_1 l0_1.length l0_1) (hc0_1 : l0_1.length ≤ c0_1) (hr0_3 : Kd.C (Kd.slice 2 (Kd.int .i64)) w A0_3 l0_3.length l0_3) (hc0_3 : l0_3.length ≤ c0_3) (h : impl_IsCover.f k a0_0 l0_1 a0_2 l0_3 = some r) :
  Calls Try.prog 105 #[.agg #[.int .i64 a0_0, .slice A0_1 l0_1.length c0_1, .int .i64 a0_2, .slice A0_3 l0_3.length c0_3]] w fun e w' => e = .returned (.bool r) ∧ Below w.heap.size w w' := by
 have hu28 := Try.underlying28
 have hu26 := Try.underlying26
 have HR0_1 := m_ hr0_1
 have HC0_1 := m_ hc0_1
 clear hr0_1 hc0_1
 have HR0_3 := m_ hr0_3
 have HC0_3 := m_ hc0_3
 clear hr0_3 hc0_3
 have HB := m_ (Below.refl w.heap.size w)
 have H : ((impl_IsGraph.f k a0_0 l0_1).bind fun t529 => (if t529 = true then ((impl_within.f a0_2 1 4).bind fun t530 => (if t530 = true then ((impl_Graph_size.f a0_0 l0_1).bind fun t531 => (if (l0_3.length : Int) = t531 then ((slices_ContainsFunc_int64_int64_205_at_IsCover_1.f k l0_3 a0_0 l0_1 a0_2 l0_3).bind fun t532 => (some (!t532))) else (some false))) else (some false))) else (some false))) = some r := h
 clear h
 obtain ⟨t529, A2, H⟩ := bnd_ H
 by_cases c3 : t529 = true
 ·subst c3
  have H1 : ((impl_within.f a0_2 1 4).bind fun t530 => (if t530 = true then ((impl_Graph_size.f a0_0 l0_1).bind fun t531 => (if (l0_3.length : Int) = t531 then ((slices_ContainsFunc_int64_int64_205_at_IsCover_1.f k l0_3 a0_0 l0_1 a0_2 l0_3).bind fun t532 => (some (!t532))) else (some false))) else (some false))) = some r := by rw [if_pos rfl] at H; exact H
  clear H
  have H := H1
  clear H1
  obtain ⟨t530, A4, H⟩ := bnd_ H
  by_cases c5 : t530 = true
  ·subst c5
   have H1 : ((impl_Graph_size.f a0_0 l0_1).bind fun t531 => (if (l0_3.length : Int) = t531 then ((slices_ContainsFunc_int64_int64_205_at_IsCover_1.f k l0_3 a0_0 l0_1 a0_2 l0_3).bind fun t532 => (some (!t532))) else (some false))) = some r := by rw [if_pos rfl] at H; exact H
   clear H
   have H := H1
   clear H1
   obtain ⟨t531, A6, H⟩ := bnd_ H
   by_cases c7 : (l0_3.length : Int) = t531
   ·rw [if_pos c7] at H
    have c7b0 : ((l0_3.length : Int) == t531) = true := beq_iff_eq.mpr c7
    have c7b1 : ((l0_3.length : Int) != t531) = false := bne_eq_false_iff_eq.mpr c7
    clear c7
    obtain ⟨t532, A8, H⟩ := bnd_ H
    obtain rfl := Option.some.inj H
    go_enter Try.func105, Try.ntmps105
    try go_wp2_with (first | ((with_reducible refine gate_dst (N := 1) rfl ?_); (try (refine gate_guard (by rfl) ?_; dsimp only)); refine bx_ (N := 1) (cs := #[.int .i64 a0_0, .slice A0_1 l0_1.length c0_1, .int .i64 a0_2, .slice A0_3 l0_3.length c0_3]) (t := 28) ?_; intro gb528 hg w9 hbox hb; have BK528 := m_ (hbox); have GW528 := m_ ((by rw [hg]; exact (below_size hb_) : w.heap.size ≤ gb528)); have GE528 := m_ ((by rw [hg]; exact (below_size hb_) : w.heap.size ≤ gb528)); replace HB := m_ (below_step hb_ hb); clear hb hbox hg))
    replace BK528 := m_ (blk_drew BK528.out)
    replace HB := m_ (below_drew1 HB.out)
    refine start_ (n := 19) (S := fun w' => w'.cell? ⟨gb528, 0, none⟩ = some (.int .i64 a0_0) ∧ w'.cell? ⟨gb528, 1, none⟩ = some (.slice A0_1 l0_1.length c0_1) ∧ w'.cell? ⟨gb528, 2, none⟩ = some (.int .i64 a0_2) ∧ w'.cell? ⟨gb528, 3, none⟩ = some (.slice A0_3 l0_3.length c0_3)) (ds := []) #[false, false, false, false, false, false, false, false, false, false, false, false, false, false, false, false, false, false, false] (by kernel_rfl) rfl rfl ⟨bc0_ BK528.out, bc1_ BK528.out, bc2_ BK528.out, bc3_ BK528.out⟩ (fun hHeld => ?_); refine with_tabW impl_IsCover.tab1 impl_IsCover.bits1 (fun HT_ HW_ => ?_)
    generalize w9.drew = w10 at BK528 HB hHeld ⊢
    refine pk_ 0 19 3 1 ?_
    refine tk_ 1 19 4 3 hHeld ?_
    refine on_ 2 19 (some 5) 7 (fun K hK => ?_)
    refine goes_ Try.func136 (by kernel_rfl) rfl #[.agg #[.int .i64 a0_0, .slice A0_1 l0_1.length c0_1]] (by rfl) rfl rfl arg_ ?_
    with_reducible refine (impl_IsGraph.calls k a0_0 _ _ l0_1 true _ ?side1 ?side2 A2.out).mono ?_
    (case side1 => exact Kd.C_below (Kd.C_below HR0_1.out HB.out) bgo_)
    (case side2 => exact HC0_1.out)
    rintro e w11 ⟨rfl, hb⟩
    refine ⟨_, rfl, ?_⟩
    replace BK528 := m_ (bb_ BK528.out hb)
    replace HB := m_ (below_step hbs_ hb)
    refine hK.out _ _ ⟨bc0_ BK528.out, bc1_ BK528.out, bc2_ BK528.out, bc3_ BK528.out⟩ (fun hHeld => ?_)
    clear hK K
    refine nm_ ?_
    refine pk_ 3 19 6 15 ?_
    refine pk_ 4 19 7 31 ?_
    refine pk_ 5 19 8 63 ?_
    refine tk_ 6 19 9 127 hHeld ?_
    refine on_ 7 19 (some 10) 255 (fun K hK => ?_)
    refine goes_ Try.func106 (by kernel_rfl) rfl #[.int .i64 a0_2, .int .i64 1, .int .i64 4] (by rfl) rfl rfl arg_ ?_
    with_reducible refine (impl_within.calls a0_2 1 4 true _ A4.out).mono ?_
    rintro e w' ⟨rfl, ⟨nd, rfl⟩⟩
    refine ⟨_, rfl, ?_⟩
    refine hK.out _ _ ⟨bc0_ BK528.out, bc1_ BK528.out, bc2_ BK528.out, bc3_ BK528.out⟩ (fun hHeld => ?_)
    clear hK K
    refine nm_ ?_
    refine pk_ 8 19 11 511 ?_
    refine pk_ 9 19 12 1023 ?_
    refine pk_ 10 19 13 2047 ?_
    refine pk_ 11 19 14 4095 ?_
    refine pk_ 14 19 17 20479 ?_
    refine tk_ 12 19 15 24575 hHeld ?_
    refine pk_ 13 19 16 32767 ?_
    refine tk_ 15 19 18 65535 hHeld ?_
    refine on_ 16 19 (some 19) 131071 (fun K hK => ?_)
    refine goes_ Try.func204 (by kernel_rfl) rfl #[.agg #[.int .i64 a0_0, .slice A0_1 l0_1.length c0_1]] (by rfl) rfl rfl arg_ ?_
    with_reducible refine (impl_Graph_size.calls a0_0 _ _ l0_1 t531 _ ?side1 ?side2 A6.out).mono ?_
    (case side1 => exact Kd.C_below (Kd.C_below HR0_1.out hbs_) bgo_)
    (case side2 => exact HC0_1.out)
    rintro e w12 ⟨rfl, hb⟩
    refine ⟨_, rfl, ?_⟩
    replace BK528 := m_ (bb_ BK528.out hb)
    replace HB := m_ (below_step hbs_ hb)
    refine hK.out _ _ ⟨bc0_ BK528.out, bc1_ BK528.out, bc2_ BK528.out, bc3_ BK528.out⟩ (fun hHeld => ?_)
    clear hK K
    refine nm_ ?_
    refine pk_ 17 19 20 262143 ?_
    refine pk_ 18 19 21 524287 ?_
    refine done_ (done_of HT_.out (by kernel_rfl)) ?_
    have hcz13_0 := bc0_ BK528.out
    have hcz13_1 := bc1_ BK528.out
    have hcz13_2 := bc2_ BK528.out
    have hcz13_3 := bc3_ BK528.out
    have hfz13_0 := blk_frozen BK528.out 0
    have hfz13_1 := blk_frozen BK528.out 1
    have hfz13_2 := blk_frozen BK528.out 2
    have hfz13_3 := blk_frozen BK528.out 3
    try go_wp2_with (first | ((with_reducible refine gate_callee (f := 205) rfl ?_); refine gl_ (some 25) Try.func205 #[.slice A0_3 l0_3.length c0_3, .func (.func 206) #[] #[.pointer (some ⟨gb528, 0, none⟩)]] ?_; (with_reducible refine (slices_ContainsFunc_int64_int64_205_at_IsCover_1.calls k _ _ l0_3 gb528 a0_0 A0_1 c0_1 l0_1 a0_2 A0_3 c0_3 l0_3 t532 _ ?side1 ?side2 ?side3 ?side4 ?side5 ?side6 ?side7 A8.out).mono ?_); (case side1 => exact Kd.C_below (Kd.C_below HR0_3.out HB.out) bgo_); (case side2 => exact HC0_3.out); (case side3 => exact (blk_below BK528.out bgo_)); (case side4 => exact Kd.C_below (Kd.C_below HR0_1.out HB.out) bgo_); (case side5 => exact HC0_1.out); (case side6 => exact Kd.C_below (Kd.C_below HR0_3.out HB.out) bgo_); (case side7 => exact HC0_3.out); rintro e w14 ⟨rfl, hb⟩; refine ⟨_, rfl, ?_⟩; replace BK528 := m_ (bb_ BK528.out hb); replace HB := m_ (below_step hbs_ hb); clear hb))
    go_ret
    exact ⟨er_, hbs_⟩
   ·rw [if_neg c7] at H
    have c7b0 : ((l0_3.length : Int) == t531) = false := beq_eq_false_iff_ne.mpr c7
    have c7b1 : ((l0_3.length : Int) != t531) = true := bne_iff_ne.mpr c7
    obtain rfl := Option.some.inj H
    go_enter Try.func105, Try.ntmps105
    try go_wp2_with (first | ((with_reducible refine gate_dst (N := 1) rfl ?_); (try (refine gate_guard (by rfl) ?_; dsimp only)); refine bx_ (N := 1) (cs := #[.int .i64 a0_0, .slice A0_1 l0_1.length c0_1, .int .i64 a0_2, .slice A0_3 l0_3.length c0_3]) (t := 28) ?_; intro gb528 hg w15 hbox hb; have BK528 := m_ (hbox); have GW528 := m_ ((by rw [hg]; exact (below_size hb_) : w.heap.size ≤ gb528)); have GE528 := m_ ((by rw [hg]; exact (below_size hb_) : w.heap.size ≤ gb528)); replace HB := m_ (below_step hb_ hb); clear hb hbox hg))
    replace BK528 := m_ (blk_drew BK528.out)
    replace HB := m_ (below_drew1 HB.out)
    refine start_ (n := 19) (S := fun w' => w'.cell? ⟨gb528, 0, none⟩ = some (.int .i64 a0_0) ∧ w'.cell? ⟨gb528, 1, none⟩ = some (.slice A0_1 l0_1.length c0_1) ∧ w'.cell? ⟨gb528, 2, none⟩ = some (.int .i64 a0_2) ∧ w'.cell? ⟨gb528, 3, none⟩ = some (.slice A0_3 l0_3.length c0_3)) (ds := []) #[false, false, false, false, false, false, false, false, false, false, false, false, false, false, false, false, false, false, false] (by kernel_rfl) rfl rfl ⟨bc0_ BK528.out, bc1_ BK528.out, bc2_ BK528.out, bc3_ BK528.out⟩ (fun hHeld => ?_); refine with_tabW impl_IsCover.tab1 impl_IsCover.bits1 (fun HT_ HW_ => ?_)
    generalize w15.drew = w16 at BK528 HB hHeld ⊢
    refine pk_ 0 19 3 1 ?_
    refine tk_ 1 19 4 3 hHeld ?_
    refine on_ 2 19 (some 5) 7 (fun K hK => ?_)
    refine goes_ Try.func136 (by kernel_rfl) rfl #[.agg #[.int .i64 a0_0, .slice A0_1 l0_1.length c0_1]] (by rfl) rfl rfl arg_ ?_
    with_reducible refine (impl_IsGraph.calls k a0_0 _ _ l0_1 true _ ?side1 ?side2 A2.out).mono ?_
    (case side1 => exact Kd.C_below (Kd.C_below HR0_1.out HB.out) bgo_)
    (case side2 => exact HC0_1.out)
    rintro e w17 ⟨rfl, hb⟩
    refine ⟨_, rfl, ?_⟩
    replace BK528 := m_ (bb_ BK528.out hb)
    replace HB := m_ (below_step hbs_ hb)
    refine hK.out _ _ ⟨bc0_ BK528.out, bc1_ BK528.out, bc2_ BK528.out, bc3_ BK528.out⟩ (fun hHeld => ?_)
    clear hK K
    refine nm_ ?_
    refine pk_ 3 19 6 15 ?_
    refine pk_ 4 19 7 31 ?_
    refine pk_ 5 19 8 63 ?_
    refine tk_ 6 19 9 127 hHeld ?_
    refine on_ 7 19 (some 10) 255 (fun K hK => ?_)
    refine goes_ Try.func106 (by kernel_rfl) rfl #[.int .i64 a0_2, .int .i64 1, .int .i64 4] (by rfl) rfl rfl arg_ ?_
    with_reducible refine (impl_within.calls a0_2 1 4 true _ A4.out).mono ?_
    rintro e w' ⟨rfl, ⟨nd, rfl⟩⟩
    refine ⟨_, rfl, ?_⟩
    refine hK.out _ _ ⟨bc0_ BK528.out, bc1_ BK528.out, bc2_ BK528.out, bc3_ BK528.out⟩ (fun hHeld => ?_)
    clear hK K
    refine nm_ ?_
    refine pk_ 8 19 11 511 ?_
    refine pk_ 9 19 12 1023 ?_
    refine pk_ 10 19 13 2047 ?_
    refine pk_ 11 19 14 4095 ?_
    refine pk_ 14 19 17 20479 ?_
    refine tk_ 12 19 15 24575 hHeld ?_
    refine pk_ 13 19 16 32767 ?_
    refine tk_ 15 19 18 65535 hHeld ?_
    refine on_ 16 19 (some 19) 131071 (fun K hK => ?_)
    refine goes_ Try.func204 (by kernel_rfl) rfl #[.agg #[.int .i64 a0_0, .slice A0_1 l0_1.length c0_1]] (by rfl) rfl rfl arg_ ?_
    with_reducible refine (impl_Graph_size.calls a0_0 _ _ l0_1 t531 _ ?side1 ?side2 A6.out).mono ?_
    (case side1 => exact Kd.C_below (Kd.C_below HR0_1.out hbs_) bgo_)
    (case side2 => exact HC0_1.out)
    rintro e w18 ⟨rfl, hb⟩
    refine ⟨_, rfl, ?_⟩
    replace BK528 := m_ (bb_ BK528.out hb)
    replace HB := m_ (below_step hbs_ hb)
    refine hK.out _ _ ⟨bc0_ BK528.out, bc1_ BK528.out, bc2_ BK528.out, bc3_ BK528.out⟩ (fun hHeld => ?_)
    clear hK K
    refine nm_ ?_
    refine pk_ 17 19 20 262143 ?_
    refine pk_ 18 19 21 524287 ?_
    refine done_ (done_of HT_.out (by kernel_rfl)) ?_
    try go_wp2
    go_ret
    exact ⟨er_, hbs_⟩
  ·replace c5 := Bool.eq_false_iff.mpr c5
   subst c5
   have H1 : (some false) = some r := by rw [if_neg (show ¬ (false = true) by decide)] at H; exact H
   clear H
   have H := H1
   clear H1
   obtain rfl := Option.some.inj H
   go_enter Try.func105, Try.ntmps105
   try go_wp2_with (first | ((with_reducible refine gate_dst (N := 1) rfl ?_); (try (refine gate_guard (by rfl) ?_; dsimp only)); refine bx_ (N := 1) (cs := #[.int .i64 a0_0, .slice A0_1 l0_1.length c0_1, .int .i64 a0_2, .slice A0_3 l0_3.length c0_3]) (t := 28) ?_; intro gb528 hg w19 hbox hb; have BK528 := m_ (hbox); have GW528 := m_ ((by rw [hg]; exact (below_size hb_) : w.heap.size ≤ gb528)); have GE528 := m_ ((by rw [hg]; exact (below_size hb_) : w.heap.size ≤ gb528)); replace HB := m_ (below_step hb_ hb); clear hb hbox hg))
   replace BK528 := m_ (blk_drew BK528.out)
   replace HB := m_ (below_drew1 HB.out)
   refine start_ (n := 19) (S := fun w' => w'.cell? ⟨gb528, 0, none⟩ = some (.int .i64 a0_0) ∧ w'.cell? ⟨gb528, 1, none⟩ = some (.slice A0_1 l0_1.length c0_1) ∧ w'.cell? ⟨gb528, 2, none⟩ = some (.int .i64 a0_2) ∧ w'.cell? ⟨gb528, 3, none⟩ = some (.slice A0_3 l0_3.length c0_3)) (ds := []) #[false, false, false, false, false, false, false, false, false, false, false, false, false, false, false, false, false, false, false] (by kernel_rfl) rfl rfl ⟨bc0_ BK528.out, bc1_ BK528.out, bc2_ BK528.out, bc3_ BK528.out⟩ (fun hHeld => ?_); refine with_tabW impl_IsCover.tab1 impl_IsCover.bits1 (fun HT_ HW_ => ?_)
   generalize w19.drew = w20 at BK528 HB hHeld ⊢
   refine pk_ 0 19 3 1 ?_
   refine tk_ 1 19 4 3 hHeld ?_
   refine on_ 2 19 (some 5) 7 (fun K hK => ?_)
   refine goes_ Try.func136 (by kernel_rfl) rfl #[.agg #[.int .i64 a0_0, .slice A0_1 l0_1.length c0_1]] (by rfl) rfl rfl arg_ ?_
   with_reducible refine (impl_IsGraph.calls k a0_0 _ _ l0_1 true _ ?side1 ?side2 A2.out).mono ?_
   (case side1 => exact Kd.C_below (Kd.C_below HR0_1.out HB.out) bgo_)
   (case side2 => exact HC0_1.out)
   rintro e w21 ⟨rfl, hb⟩
   refine ⟨_, rfl, ?_⟩
   replace BK528 := m_ (bb_ BK528.out hb)
   replace HB := m_ (below_step hbs_ hb)
   refine hK.out _ _ ⟨bc0_ BK528.out, bc1_ BK528.out, bc2_ BK528.out, bc3_ BK528.out⟩ (fun hHeld => ?_)
   clear hK K
   refine nm_ ?_
   refine pk_ 3 19 6 15 ?_
   refine pk_ 4 19 7 31 ?_
   refine pk_ 5 19 8 63 ?_
   refine tk_ 6 19 9 127 hHeld ?_
   refine on_ 7 19 (some 10) 255 (fun K hK => ?_)
   refine goes_ Try.func106 (by kernel_rfl) rfl #[.int .i64 a0_2, .int .i64 1, .int .i64 4] (by rfl) rfl rfl arg_ ?_
   with_reducible refine (impl_within.calls a0_2 1 4 false _ A4.out).mono ?_
   rintro e w' ⟨rfl, ⟨nd, rfl⟩⟩
   refine ⟨_, rfl, ?_⟩
   refine hK.out _ _ ⟨bc0_ BK528.out, bc1_ BK528.out, bc2_ BK528.out, bc3_ BK528.out⟩ (fun hHeld => ?_)
   clear hK K
   refine nm_ ?_
   refine pk_ 8 19 11 511 ?_
   refine pk_ 9 19 12 1023 ?_
   refine pk_ 10 19 13 2047 ?_
   refine pu_ 11 19 14 4095 ?_
   refine pu_ 12 19 15 8191 ?_
   refine pu_ 13 19 16 16383 ?_
   refine pu_ 14 19 17 32767 ?_
   refine pu_ 15 19 18 65535 ?_
   refine pu_ 16 19 19 131071 ?_
   refine pu_ 17 19 20 262143 ?_
   refine pk_ 18 19 21 524287 ?_
   refine done_ (done_of HT_.out (by kernel_rfl)) ?_
   try go_wp2
   go_ret
   exact ⟨er_, hbs_⟩
 ·replace c3 := Bool.eq_false_iff.mpr c3
  subst c3
  have H1 : (some false) = some r := by rw [if_neg (show ¬ (false = true) by decide)] at H; exact H
  clear H
  have H := H1
  clear H1
  obtain rfl := Option.some.inj H
  go_enter Try.func105, Try.ntmps105
  try go_wp2_with (first | ((with_reducible refine gate_dst (N := 1) rfl ?_); (try (refine gate_guard (by rfl) ?_; dsimp only)); refine bx_ (N := 1) (cs := #[.int .i64 a0_0, .slice A0_1 l0_1.length c0_1, .int .i64 a0_2, .slice A0_3 l0_3.length c0_3]) (t := 28) ?_; intro gb528 hg w22 hbox hb; have BK528 := m_ (hbox); have GW528 := m_ ((by rw [hg]; exact (below_size hb_) : w.heap.size ≤ gb528)); have GE528 := m_ ((by rw [hg]; exact (below_size hb_) : w.heap.size ≤ gb528)); replace HB := m_ (below_step hb_ hb); clear hb hbox hg))
  replace BK528 := m_ (blk_drew BK528.out)
  replace HB := m_ (below_drew1 HB.out)
  refine start_ (n := 19) (S := fun w' => w'.cell? ⟨gb528, 0, none⟩ = some (.int .i64 a0_0) ∧ w'.cell? ⟨gb528, 1, none⟩ = some (.slice A0_1 l0_1.length c0_1) ∧ w'.cell? ⟨gb528, 2, none⟩ = some (.int .i64 a0_2) ∧ w'.cell? ⟨gb528, 3, none⟩ = some (.slice A0_3 l0_3.length c0_3)) (ds := []) #[false, false, false, false, false, false, false, false, false, false, false, false, false, false, false, false, false, false, false] (by kernel_rfl) rfl rfl ⟨bc0_ BK528.out, bc1_ BK528.out, bc2_ BK528.out, bc3_ BK528.out⟩ (fun hHeld => ?_); refine with_tabW impl_IsCover.tab1 impl_IsCover.bits1 (fun HT_ HW_ => ?_)
  generalize w22.drew = w23 at BK528 HB hHeld ⊢
  refine pk_ 0 19 3 1 ?_
  refine tk_ 1 19 4 3 hHeld ?_
  refine on_ 2 19 (some 5) 7 (fun K hK => ?_)
  refine goes_ Try.func136 (by kernel_rfl) rfl #[.agg #[.int .i64 a0_0, .slice A0_1 l0_1.length c0_1]] (by rfl) rfl rfl arg_ ?_
  with_reducible refine (impl_IsGraph.calls k a0_0 _ _ l0_1 false _ ?side1 ?side2 A2.out).mono ?_
  (case side1 => exact Kd.C_below (Kd.C_below HR0_1.out HB.out) bgo_)
  (case side2 => exact HC0_1.out)
  rintro e w24 ⟨rfl, hb⟩
  refine ⟨_, rfl, ?_⟩
  replace BK528 := m_ (bb_ BK528.out hb)
  replace HB := m_ (below_step hbs_ hb)
  refine hK.out _ _ ⟨bc0_ BK528.out, bc1_ BK528.out, bc2_ BK528.out, bc3_ BK528.out⟩ (fun hHeld => ?_)
  clear hK K
  refine nm_ ?_
  refine pk_ 3 19 6 15 ?_
  refine pk_ 4 19 7 31 ?_
  refine pu_ 5 19 8 63 ?_
  refine pu_ 6 19 9 127 ?_
  refine pu_ 7 19 10 255 ?_
  refine pu_ 8 19 11 511 ?_
  refine pk_ 9 19 12 1023 ?_
  refine pk_ 10 19 13 2047 ?_
  refine pu_ 11 19 14 4095 ?_
  refine pu_ 12 19 15 8191 ?_
  refine pu_ 13 19 16 16383 ?_
  refine pu_ 14 19 17 32767 ?_
  refine pu_ 15 19 18 65535 ?_
  refine pu_ 16 19 19 131071 ?_
  refine pu_ 17 19 20 262143 ?_
  refine pk_ 18 19 21 524287 ?_
  refine done_ (done_of HT_.out (by kernel_rfl)) ?_
  try go_wp2
  go_ret
  exact ⟨er_, hbs_⟩

/-! ### impl_Graph_areDirected_1: function 100005 -/
def impl_Graph_areDirected_1.f (a0 : Int) (a1_0 : Int) (l1_1 : List (List Int)) : Option (Bool) := (impl_Graph_size.f a1_0 l1_1).bind fun t538 => ((impl_within.f a0 0 (wrap64 ((wrap64 (2 * t538)) - 1))).bind fun t539 => (some (!t539)))
set_option maxHeartbeats 8000000 in
set_option maxRecDepth 100000 in
theorem impl_Graph_areDirected_1.calls (a0 : Int) (gq1_0 : Nat) (a1_0 : Int) (A1_1 : Option Addr) (c1_1 : Nat) (l1_1 : List (List Int)) (r : Bool) (w : World) (hbgq1_0 : w.heap[gq1_0]? = some (.cells #[.int .i64 a1_0, .slice A1_1 l1_1.length c1_1] 26 (0, 0))) (hr1_1 : Kd.C (Kd.slice 2 (Kd.int .i64)) w A1_1 l1_1.length l1_1) (hc1_1 : l1_1.length ≤ c1_1) (h : impl_Graph_areDirected_1.f a0 a1_0 l1_1 = some r) :
  Calls Try.prog 208 #[.int .i64 a0, .pointer (some ⟨gq1_0, 0, none⟩)] w fun e w' => e = .returned (.bool r) ∧ Below w.heap.size w w' := by
 have hu26 := Try.underlying26
 have HR1_1 := m_ hr1_1
 have HC1_1 := m_ hc1_1
 clear hr1_1 hc1_1
 have BK537 := m_ hbgq1_0
 clear hbgq1_0
 have HB := m_ (Below.refl w.heap.size w)
 have H : ((impl_Graph_size.f a1_0 l1_1).bind fun t538 => ((impl_within.f a0 0 (wrap64 ((wrap64 (2 * t538)) - 1))).bind fun t539 => (some (!t539)))) = some r := h
 clear h
 obtain ⟨t538, A3, H⟩ := bnd_ H
 obtain ⟨t539, A4, H⟩ := bnd_ H
 obtain rfl := Option.some.inj H
 have hcz5_0 := bc0_ BK537.out
 have hcz5_1 := bc1_ BK537.out
 have hfz5_0 := blk_frozen BK537.out 0
 have hfz5_1 := blk_frozen BK537.out 1
 go_enter Try.func208, Try.ntmps208
 go_wp2_with (first | ((with_reducible refine gate_callee (f := 204) rfl ?_); refine gl_ (some 6) Try.func204 #[.agg #[.int .i64 a1_0, .slice A1_1 l1_1.length c1_1]] ?_; (with_reducible refine (impl_Graph_size.calls a1_0 _ _ l1_1 t538 _ ?side1 ?side2 A3.out).mono ?_); (case side1 => exact Kd.C_below HR1_1.out bgo_); (case side2 => exact HC1_1.out); rintro e w6 ⟨rfl, hb⟩; refine ⟨_, rfl, ?_⟩; replace BK537 := m_ (bb_ BK537.out hb); replace HB := m_ (below_step hbs_ hb); clear hb) | ((with_reducible refine gate_callee (f := 106) rfl ?_); refine gl_ (some 9) Try.func106 #[.int .i64 a0, .int .i64 0, .int .i64 (wrap64 ((wrap64 (2 * t538)) - 1))] ?_; (with_reducible refine (impl_within.calls a0 0 (wrap64 ((wrap64 (2 * t538)) - 1)) t539 _ A4.out).mono ?_); rintro e w' ⟨rfl, ⟨nd, rfl⟩⟩; refine ⟨_, rfl, ?_⟩))
 go_ret
 exact ⟨er_, hbs_⟩

/-! ### slices_IndexFunc_int64_int64_231_at_Graph_areDirected_1: function 100004 -/
def slices_IndexFunc_int64_int64_231_at_Graph_areDirected_1.l0 : Nat → List Int → Int → Int → Int → List (List Int) → Option (Int)
 | 0, _, _, _, _, _ => none
 | k + 1, x0, x7, x8, x541000, x541001 => if x8 < x7 then (if 0 ≤ x8 then (if x8 < (x0.length : Int) then ((impl_Graph_areDirected_1.f (rd x0 x8) x541000 x541001).bind fun t542 => (if t542 = true then (some x8) else (slices_IndexFunc_int64_int64_231_at_Graph_areDirected_1.l0 k x0 x7 (wrap64 (x8 + 1)) x541000 x541001))) else (none)) else (none)) else (some (-1))
def slices_IndexFunc_int64_int64_231_at_Graph_areDirected_1.f (k : Nat) (l0 : List Int) (a1_0 : Int) (l1_1 : List (List Int)) : Option (Int) := slices_IndexFunc_int64_int64_231_at_Graph_areDirected_1.l0 k l0 (l0.length : Int) 0 a1_0 l1_1
set_option maxHeartbeats 8000000 in
set_option maxRecDepth 100000 in
theorem slices_IndexFunc_int64_int64_231_at_Graph_areDirected_1.calls (k : Nat) (A0 : Option Addr) (c0 : Nat) (l0 : List Int) (gq1_0 : Nat) (a1_0 : Int) (A1_1 : Option Addr) (c1_1 : Nat) (l1_1 : List (List Int)) (r : Int) (w : World) (hr0 : Kd.C (Kd.int .i64) w A0 l0.length l0) (hc0 : l0.length ≤ c0) (hbgq1_0 : w.heap[gq1_0]? = some (.cells #[.int .i64 a1_0, .slice A1_1 l1_1.length c1_1] 26 (0, 0))) (hr1_1 : Kd.C (Kd.slice 2 (Kd.int .i64)) w A1_1 l1_1.length l1_1) (hc1_1 : l1_1.length ≤ c1_1) (h : slices_IndexFunc_int64_int64_231_at_Graph_areDirected_1.f k l0 a1_0 l1_1 = some r) :
  Calls Try.prog 231 #[.slice A0 l0.length c0, .func (.func 208) #[] #[.pointer (some ⟨gq1_0, 0, none⟩)]] w fun e w' => e = .returned (.int .i64 r) ∧ Below w.heap.size w w' := by
 have HR0 := m_ hr0
 have HC0 := m_ hc0
 clear hr0 hc0
 have HR1_1 := m_ hr1_1
 have HC1_1 := m_ hc1_1
 clear hr1_1 hc1_1
 have BK540 := m_ hbgq1_0
 clear hbgq1_0
 have HB := m_ (Below.refl w.heap.size w)
 have H : (slices_IndexFunc_int64_int64_231_at_Graph_areDirected_1.l0 k l0 (l0.length : Int) 0 a1_0 l1_1) = some r := h
 clear h
 have H' := m_ H
 clear H
 go_enter Try.func231, Try.ntmps231
 go_wp2
 go_loopg [8] k (fun kq v8 w' => ∃ (x8_1 : Int), v8 = .int .i64 x8_1 ∧ Aside0 (slices_IndexFunc_int64_int64_231_at_Graph_areDirected_1.l0 kq l0 (l0.length : Int) x8_1 a1_0 l1_1 = some r) ∧ Aside0 (kq ≤ k) ∧ Aside0 (w'.heap[gq1_0]? = some (.cells #[.int .i64 a1_0, (.slice A1_1 l1_1.length c1_1)] 26 (0, 0))) ∧ Aside0 (Below w.heap.size w w'))
 case atStart => exact ⟨(0), es_, H', ⟨Nat.le_refl _⟩, ⟨blk_below BK540.out bgo_⟩, ⟨hbs_⟩⟩
 case round =>
  clear H'
  obtain ⟨x8_1, rfl, HA, HK1, BK540, HB⟩ := hrel
  cases gk with
  | zero => exact absurd HA.out (by simp [slices_IndexFunc_int64_int64_231_at_Graph_areDirected_1.l0])
  | succ k1 =>
   have H := HA.out
   clear HA
   simp only [slices_IndexFunc_int64_int64_231_at_Graph_areDirected_1.l0] at H
   by_cases c3 : x8_1 < (l0.length : Int)
   ·rw [if_pos c3] at H
    have c3b0 := decide_eq_true c3
    clear c3
    obtain ⟨c4, H⟩ := itn_ H
    have c4b0 := decide_eq_true c4
    clear c4
    obtain ⟨c5, H⟩ := itn_ H
    have c5b0 := decide_eq_true c5
    clear c5
    obtain ⟨t542, A6, H⟩ := bnd_ H
    by_cases c7 : t542 = true
    ·subst c7
     have H1 : (some x8_1) = some r := by rw [if_pos rfl] at H; exact H
     clear H
     have H := H1
     clear H1
     obtain rfl := Option.some.inj H
     have p541 : 0 ≤ (x8_1 : Int) := od_
     have q541 : x8_1 < (l0.length : Int) := od_
     obtain ⟨ad541, e541, hx541_0⟩ := Kd.at_int HR0.out x8_1 p541 q541
     cases e541
     (try replace hx541_0 := (HB.out.cell (World.block_lt_of_cell? w _ hx541_0)).trans hx541_0)
     replace p541 := eq_true p541
     replace q541 := eq_true q541
     go_wp2_with (first | ((with_reducible refine gate_fn (t := 11) rfl ?_); refine goesF_ (some 16) rfl rfl Try.func208 (by kernel_rfl) rfl (lb := #[.pointer (some ⟨gq1_0, 0, none⟩)]) #[.int .i64 (rd l0 x8_1), .pointer (some ⟨gq1_0, 0, none⟩)] rfl (by first | rfl | (simp; done)) (by (try simp only [List.map_toArray, List.map_cons, List.map_nil, List.append_toArray, List.cons_append, List.nil_append]); first | done | rfl | (simp only [List.length_drop, List.length_take]; rfl)) ?_; (with_reducible refine (impl_Graph_areDirected_1.calls (rd l0 x8_1) gq1_0 a1_0 A1_1 c1_1 l1_1 true _ ?side1 ?side2 ?side3 A6.out).mono ?_); (case side1 => exact (blk_below BK540.out bgo_)); (case side2 => exact Kd.C_below (Kd.C_below HR1_1.out HB.out) bgo_); (case side3 => exact HC1_1.out); rintro e w8 ⟨rfl, hb⟩; refine ⟨_, rfl, ?_⟩; replace BK540 := m_ (bb_ BK540.out hb); replace HB := m_ (below_step hbs_ hb); clear hb))
     go_ret
     exact ⟨er_, hbs_⟩
    ·replace c7 := Bool.eq_false_iff.mpr c7
     subst c7
     have H1 : (slices_IndexFunc_int64_int64_231_at_Graph_areDirected_1.l0 k1 l0 (l0.length : Int) (wrap64 (x8_1 + 1)) a1_0 l1_1) = some r := by rw [if_neg (show ¬ (false = true) by decide)] at H; exact H
     clear H
     have H := H1
     clear H1
     have H' := m_ H
     clear H
     have p541 : 0 ≤ (x8_1 : Int) := od_
     have q541 : x8_1 < (l0.length : Int) := od_
     obtain ⟨ad541, e541, hx541_0⟩ := Kd.at_int HR0.out x8_1 p541 q541
     cases e541
     (try replace hx541_0 := (HB.out.cell (World.block_lt_of_cell? w _ hx541_0)).trans hx541_0)
     replace p541 := eq_true p541
     replace q541 := eq_true q541
     go_wp2_with (first | ((with_reducible refine gate_fn (t := 11) rfl ?_); refine goesF_ (some 16) rfl rfl Try.func208 (by kernel_rfl) rfl (lb := #[.pointer (some ⟨gq1_0, 0, none⟩)]) #[.int .i64 (rd l0 x8_1), .pointer (some ⟨gq1_0, 0, none⟩)] rfl (by first | rfl | (simp; done)) (by (try simp only [List.map_toArray, List.map_cons, List.map_nil, List.append_toArray, List.cons_append, List.nil_append]); first | done | rfl | (simp only [List.length_drop, List.length_take]; rfl)) ?_; (with_reducible refine (impl_Graph_areDirected_1.calls (rd l0 x8_1) gq1_0 a1_0 A1_1 c1_1 l1_1 false _ ?side1 ?side2 ?side3 A6.out).mono ?_); (case side1 => exact (blk_below BK540.out bgo_)); (case side2 => exact Kd.C_below (Kd.C_below HR1_1.out HB.out) bgo_); (case side3 => exact HC1_1.out); rintro e w9 ⟨rfl, hb⟩; refine ⟨_, rfl, ?_⟩; replace BK540 := m_ (bb_ BK540.out hb); replace HB := m_ (below_step hbs_ hb); clear hb))
     go_roundg k1
     case measure => have := HK1.out; omega
     case rel => exact ⟨(wrap64 (x8_1 + 1)), es_, H', ⟨by have := HK1.out; omega⟩, ⟨blk_below BK540.out bgo_⟩, ⟨hbs_⟩⟩
   ·rw [if_neg c3] at H
    have c3b0 := decide_eq_false c3
    clear c3
    obtain rfl := Option.some.inj H
    go_wp2
    go_ret
    exact ⟨er_, hbs_⟩

/-! ### slices_ContainsFunc_int64_int64_176_at_Graph_areDirected_1: function 100003 -/
def slices_ContainsFunc_int64_int64_176_at_Graph_areDirected_1.f (k : Nat) (l0 : List Int) (a1_0 : Int) (l1_1 : List (List Int)) : Option (Bool) := (slices_IndexFunc_int64_int64_231_at_Graph_areDirected_1.f k l0 a1_0 l1_1).bind fun t544 => (some (decide (t544 ≥ 0)))
set_option maxHeartbeats 8000000 in
set_option maxRecDepth 100000 in
theorem slices_ContainsFunc_int64_int64_176_at_Graph_areDirected_1.calls (k : Nat) (A0 : Option Addr) (c0 : Nat) (l0 : List Int) (gq1_0 : Nat) (a1_0 : Int) (A1_1 : Option Addr) (c1_1 : Nat) (l1_1 : List (List Int)) (r : Bool) (w : World) (hr0 : Kd.C (Kd.int .i64) w A0 l0.length l0) (hc0 : l0.length ≤ c0) (hbgq1_0 : w.heap[gq1_0]? = some (.cells #[.int .i64 a1_0, .slice A1_1 l1_1.length c1_1] 26 (0, 0))) (hr1_1 : Kd.C (Kd.slice 2 (Kd.int .i64)) w A1_1 l1_1.length l1_1) (hc1_1 : l1_1.length ≤ c1_1) (h : slices_ContainsFunc_int64_int64_176_at_Graph_areDirected_1.f k l0 a1_0 l1_1 = some r) :
  Calls Try.prog 176 #[.slice A0 l0.length c0, .func (.func 208) #[] #[.pointer (some ⟨gq1_0, 0, none⟩)]] w fun e w' => e = .returned (.bool r) ∧ Below w.heap.size w w' := by
 have HR0 := m_ hr0
 have HC0 := m_ hc0
 clear hr0 hc0
 have HR1_1 := m_ hr1_1
 have HC1_1 := m_ hc1_1
 clear hr1_1 hc1_1
 have BK543 := m_ hbgq1_0
 clear hbgq1_0
 have HB := m_ (Below.refl w.heap.size w)
 have H : ((slices_IndexFunc_int64_int64_231_at_Graph_areDirected_1.f k l0 a1_0 l1_1).bind fun t544 => (some (decide (t544 ≥ 0)))) = some r := h
 clear h
 obtain ⟨t544, A3, H⟩ := bnd_ H
 obtain rfl := Option.some.inj H
 go_enter Try.func176, Try.ntmps176
 go_wp2_with (first | ((with_reducible refine gate_callee (f := 231) rfl ?_); refine gl_ (some 7) Try.func231 #[.slice A0 l0.length c0, .func (.func 208) #[] #[.pointer (some ⟨gq1_0, 0, none⟩)]] ?_; (with_reducible refine (slices_IndexFunc_int64_int64_231_at_Graph_areDirected_1.calls k _ _ l0 gq1_0 a1_0 A1_1 c1_1 l1_1 t544 _ ?side1 ?side2 ?side3 ?side4 ?side5 A3.out).mono ?_); (case side1 => exact Kd.C_below HR0.out bgo_); (case side2 => exact HC0.out); (case side3 => exact (blk_below BK543.out bgo_)); (case side4 => exact Kd.C_below HR1_1.out bgo_); (case side5 => exact HC1_1.out); rintro e w4 ⟨rfl, hb⟩; refine ⟨_, rfl, ?_⟩; replace BK543 := m_ (bb_ BK543.out hb); replace HB := m_ (below_step hbs_ hb); clear hb))
 go_ret
 exact ⟨er_, hbs_⟩

/-! ### impl_Graph_areDirected: function 107 -/
def impl_Graph_areDirected.f (k : Nat) (a0_0 : Int) (l0_1 : List (List Int)) (l1 : List Int) : Option (Bool) := (slices_ContainsFunc_int64_int64_176_at_Graph_areDirected_1.f k l1 a0_0 l0_1).bind fun t546 => (some (!t546))
set_option maxHeartbeats 8000000 in
set_option maxRecDepth 100000 in
theorem impl_Graph_areDirected.calls (k : Nat) (a0_0 : Int) (A0_1 : Option Addr) (c0_1 : Nat) (l0_1 : List (List Int)) (A1 : Option Addr) (c1 : Nat) (l1 : List Int) (r : Bool) (w : World) (hr0_1 : Kd.C (Kd.slice 2 (Kd.int .i64)) w A0_1 l0_1.length l0_1) (hc0_1 : l0_1.length ≤ c0_1) (hr1 : Kd.C (Kd.int .i64) w A1 l1.length l1) (hc1 : l1.length ≤ c1) (h : impl_Graph_areDirected.f k a0_0 l0_1 l1 = some r) :
  Calls Try.prog 107 #[.agg #[.int .i64 a0_0, .slice A0_1 l0_1.length c0_1], .slice A1 l1.length c1] w fun e w' => e = .returned (.bool r) ∧ Below w.heap.size w w' := by
 have hu26 := Try.underlying26
 have HR0_1 := m_ hr0_1
 have HC0_1 := m_ hc0_1
 clear hr0_1 hc0_1
 have HR1 := m_ hr1
 have HC1 := m_ hc1
 clear hr1 hc1
 have HB := m_ (Below.refl w.heap.size w)
 have H : ((slices_ContainsFunc_int64_int64_176_at_Graph_areDirected_1.f k l1 a0_0 l0_1).bind fun t546 => (some (!t546))) = some r := h
 clear h
 obtain ⟨t546, A3, H⟩ := bnd_ H
 obtain rfl := Option.some.inj H
 go_enter Try.func107, Try.ntmps107
 go_wp2_with (first | ((with_reducible refine gate_dst (N := 2) rfl ?_); refine bx_ (N := 2) (cs := #[.int .i64 a0_0, .slice A0_1 l0_1.length c0_1]) (t := 26) ?_; intro gb545 hg w4 hbox hb; have BK545 := m_ (hbox); have GW545 := m_ ((by rw [hg]; exact (below_size hb_) : w.heap.size ≤ gb545)); have GE545 := m_ ((by rw [hg]; exact (below_size hb_) : w.heap.size ≤ gb545)); replace HB := m_ (below_step hb_ hb); clear hb hbox hg) | ((with_reducible refine gate_callee (f := 176) rfl ?_); refine gl_ (some 7) Try.func176 #[.slice A1 l1.length c1, .func (.func 208) #[] #[.pointer (some ⟨gb545, 0, none⟩)]] ?_; (with_reducible refine (slices_ContainsFunc_int64_int64_176_at_Graph_areDirected_1.calls k _ _ l1 gb545 a0_0 A0_1 c0_1 l0_1 t546 _ ?side1 ?side2 ?side3 ?side4 ?side5 A3.out).mono ?_); (case side1 => exact Kd.C_below (Kd.C_below HR1.out HB.out) bgo_); (case side2 => exact HC1.out); (case side3 => exact (blk_below BK545.out bgo_)); (case side4 => exact Kd.C_below (Kd.C_below HR0_1.out HB.out) bgo_); (case side5 => exact HC0_1.out); rintro e w5 ⟨rfl, hb⟩; refine ⟨_, rfl, ?_⟩; replace BK545 := m_ (bb_ BK545.out hb); replace HB := m_ (below_step hbs_ hb); clear hb))
 go_ret
 exact ⟨er_, hbs_⟩

/-! ### impl_Graph_ends: function 108 -/
def impl_Graph_ends.f (a0_0 : Int) (l0_1 : List (List Int)) (a1 : Int) : Option (Int × Int) := if 0 ≤ (wrap64 (Int.tdiv a1 2)) then (if (wrap64 (Int.tdiv a1 2)) < (l0_1.length : Int) then (if 0 ≤ (Int.tmod a1 2) then (if (Int.tmod a1 2) < ((rd_L2 l0_1 (wrap64 (Int.tdiv a1 2))).length : Int) then (if 0 ≤ (wrap64 (1 - (Int.tmod a1 2))) then (if (wrap64 (1 - (Int.tmod a1 2))) < ((rd_L2 l0_1 (wrap64 (Int.tdiv a1 2))).length : Int) then (some (rd (rd_L2 l0_1 (wrap64 (Int.tdiv a1 2))) (Int.tmod a1 2), rd (rd_L2 l0_1 (wrap64 (Int.tdiv a1 2))) (wrap64 (1 - (Int.tmod a1 2))))) else (none)) else (none)) else (none)) else (none)) else (none)) else (none)
set_option maxHeartbeats 8000000 in
set_option maxRecDepth 100000 in
theorem impl_Graph_ends.calls (a0_0 : Int) (A0_1 : Option Addr) (c0_1 : Nat) (l0_1 : List (List Int)) (a1 : Int) (r1 : Int) (r2 : Int) (w : World) (hr0_1 : Kd.C (Kd.slice 2 (Kd.int .i64)) w A0_1 l0_1.length l0_1) (hc0_1 : l0_1.length ≤ c0_1) (h : impl_Graph_ends.f a0_0 l0_1 a1 = some (r1, r2)) :
  Calls Try.prog 108 #[.agg #[.int .i64 a0_0, .slice A0_1 l0_1.length c0_1], .int .i64 a1] w fun e w' => e = .returned (.tuple #[.int .i64 r1, .int .i64 r2]) ∧ Below w.heap.size w w' := by
 have hu26 := Try.underlying26
 have HR0_1 := m_ hr0_1
 have HC0_1 := m_ hc0_1
 clear hr0_1 hc0_1
 have HB := m_ (Below.refl w.heap.size w)
 have H : (if 0 ≤ (wrap64 (Int.tdiv a1 2)) then (if (wrap64 (Int.tdiv a1 2)) < (l0_1.length : Int) then (if 0 ≤ (Int.tmod a1 2) then (if (Int.tmod a1 2) < ((rd_L2 l0_1 (wrap64 (Int.tdiv a1 2))).length : Int) then (if 0 ≤ (wrap64 (1 - (Int.tmod a1 2))) then (if (wrap64 (1 - (Int.tmod a1 2))) < ((rd_L2 l0_1 (wrap64 (Int.tdiv a1 2))).length : Int) then (some (rd (rd_L2 l0_1 (wrap64 (Int.tdiv a1 2))) (Int.tmod a1 2), rd (rd_L2 l0_1 (wrap64 (Int.tdiv a1 2))) (wrap64 (1 - (Int.tmod a1 2))))) else (none)) else (none)) else (none)) else (none)) else (none)) else (none)) = some (r1, r2) := h
 clear h
 obtain ⟨ji3, hji3⟩ : ∃ j_ : Int, (wrap64 (Int.tdiv a1 2)) = j_ := ⟨_, rfl⟩
 (try rw [hji3])
 replace H : (if 0 ≤ (ji3) then (if (ji3) < (l0_1.length : Int) then (if 0 ≤ (Int.tmod a1 2) then (if (Int.tmod a1 2) < ((rd_L2 l0_1 (ji3)).length : Int) then (if 0 ≤ (wrap64 (1 - (Int.tmod a1 2))) then (if (wrap64 (1 - (Int.tmod a1 2))) < ((rd_L2 l0_1 (ji3)).length : Int) then (some (rd (rd_L2 l0_1 (ji3)) (Int.tmod a1 2), rd (rd_L2 l0_1 (ji3)) (wrap64 (1 - (Int.tmod a1 2))))) else (none)) else (none)) else (none)) else (none)) else (none)) else (none)) = some (r1, r2) := by first | (rw [hji3] at H; exact H) | (simp only [hji3] at H ⊢; exact H)
 have hji3w : (IntKind.i64.wrap (Int.tdiv a1 2)) = ji3 := (i64_w _).trans hji3
 by_cases c4 : 0 ≤ (ji3)
 ·rw [if_pos c4] at H
  have c4b0 := decide_eq_true c4
  clear c4
  obtain ⟨c5, H⟩ := itn_ H
  have c5b0 := decide_eq_true c5
  clear c5
  obtain ⟨ji6, hji6⟩ : ∃ j_ : Int, (Int.tmod a1 2) = j_ := ⟨_, rfl⟩
  (try rw [hji6])
  replace H : (if 0 ≤ (ji6) then (if (ji6) < ((rd_L2 l0_1 (ji3)).length : Int) then (if 0 ≤ (wrap64 (1 - (ji6))) then (if (wrap64 (1 - (ji6))) < ((rd_L2 l0_1 (ji3)).length : Int) then (some (rd (rd_L2 l0_1 (ji3)) (ji6), rd (rd_L2 l0_1 (ji3)) (wrap64 (1 - (ji6))))) else (none)) else (none)) else (none)) else (none)) = some (r1, r2) := by first | (rw [hji6] at H; exact H) | (simp only [hji6] at H ⊢; exact H)
  obtain ⟨c7, H⟩ := itn_ H
  have c7b0 := decide_eq_true c7
  clear c7
  obtain ⟨c8, H⟩ := itn_ H
  have c8b0 := decide_eq_true c8
  clear c8
  obtain ⟨ji9, hji9⟩ : ∃ j_ : Int, (wrap64 (1 - (ji6))) = j_ := ⟨_, rfl⟩
  (try rw [hji9])
  replace H : (if 0 ≤ (ji9) then (if (ji9) < ((rd_L2 l0_1 (ji3)).length : Int) then (some (rd (rd_L2 l0_1 (ji3)) (ji6), rd (rd_L2 l0_1 (ji3)) (ji9))) else (none)) else (none)) = some (r1, r2) := by first | (rw [hji9] at H; exact H) | (simp only [hji9] at H ⊢; exact H)
  have hji9w : (IntKind.i64.wrap (1 - (ji6))) = ji9 := (i64_w _).trans hji9
  obtain ⟨c10, H⟩ := itn_ H
  have c10b0 := decide_eq_true c10
  clear c10
  obtain ⟨c11, H⟩ := itn_ H
  have c11b0 := decide_eq_true c11
  clear c11
  simp only [Option.some.injEq, Prod.mk.injEq] at H
  obtain ⟨rfl, rfl⟩ := H
  go_enter Try.func108, Try.ntmps108
  go_wp2_with (first | ((with_reducible refine gate_dst (N := 2) rfl ?_); refine bx_ (N := 2) (cs := #[.int .i64 a0_0, .slice A0_1 l0_1.length c0_1]) (t := 26) ?_; intro gb547 hg w12 hbox hb; have BK547 := m_ (hbox); have GW547 := m_ ((by rw [hg]; exact (below_size hb_) : w.heap.size ≤ gb547)); have GE547 := m_ ((by rw [hg]; exact (below_size hb_) : w.heap.size ≤ gb547)); replace HB := m_ (below_step hb_ hb); clear hb hbox hg; have hcz13_0 := bc0_ BK547.out; have hcz13_1 := bc1_ BK547.out; have hfz13_0 := blk_frozen BK547.out 0; have hfz13_1 := blk_frozen BK547.out 1; have p548 : 0 ≤ ((ji3) : Int) := od_; have q548 : (ji3) < (l0_1.length : Int) := od_; obtain ⟨ad548, A548_0, c548_0, e548, hx548_0, hl548_0, hi548_0⟩ := at_L2 HR0_1.out (ji3) p548 q548; cases e548; replace hx548_0 := (HB.out.cell (World.block_lt_of_cell? w _ hx548_0)).trans hx548_0; have HR548_0 := m_ hi548_0; have HC548_0 := m_ hl548_0; clear hi548_0 hl548_0; replace p548 := eq_true p548; replace q548 := eq_true q548; have p549 : 0 ≤ ((ji6) : Int) := od_; have q549 : (ji6) < ((rd_L2 l0_1 (ji3)).length : Int) := od_; obtain ⟨ad549, e549, hx549_0⟩ := Kd.at_int HR548_0.out (ji6) p549 q549; cases e549; replace hx549_0 := (HB.out.cell (World.block_lt_of_cell? w _ hx549_0)).trans hx549_0; replace p549 := eq_true p549; replace q549 := eq_true q549; have p550 : 0 ≤ ((ji9) : Int) := od_; have q550 : (ji9) < ((rd_L2 l0_1 (ji3)).length : Int) := od_; obtain ⟨ad550, e550, hx550_0⟩ := Kd.at_int HR548_0.out (ji9) p550 q550; obtain rfl : ad549 = ad550 := (by injection e550); replace hx550_0 := (HB.out.cell (World.block_lt_of_cell? w _ hx550_0)).trans hx550_0; replace p550 := eq_true p550; replace q550 := eq_true q550))
  repeat (go_quiet (first | ((with_reducible refine gate_dst (N := 2) rfl ?_); refine bx_ (N := 2) (cs := #[.int .i64 a0_0, .slice A0_1 l0_1.length c0_1]) (t := 26) ?_; intro gb547 hg w12 hbox hb; have BK547 := m_ (hbox); have GW547 := m_ ((by rw [hg]; exact (below_size hb_) : w.heap.size ≤ gb547)); have GE547 := m_ ((by rw [hg]; exact (below_size hb_) : w.heap.size ≤ gb547)); replace HB := m_ (below_step hb_ hb); clear hb hbox hg; have hcz13_0 := bc0_ BK547.out; have hcz13_1 := bc1_ BK547.out; have hfz13_0 := blk_frozen BK547.out 0; have hfz13_1 := blk_frozen BK547.out 1; have p548 : 0 ≤ ((ji3) : Int) := od_; have q548 : (ji3) < (l0_1.length : Int) := od_; obtain ⟨ad548, A548_0, c548_0, e548, hx548_0, hl548_0, hi548_0⟩ := at_L2 HR0_1.out (ji3) p548 q548; cases e548; replace hx548_0 := (HB.out.cell (World.block_lt_of_cell? w _ hx548_0)).trans hx548_0; have HR548_0 := m_ hi548_0; have HC548_0 := m_ hl548_0; clear hi548_0 hl548_0; replace p548 := eq_true p548; replace q548 := eq_true q548; have p549 : 0 ≤ ((ji6) : Int) := od_; have q549 : (ji6) < ((rd_L2 l0_1 (ji3)).length : Int) := od_; obtain ⟨ad549, e549, hx549_0⟩ := Kd.at_int HR548_0.out (ji6) p549 q549; cases e549; replace hx549_0 := (HB.out.cell (World.block_lt_of_cell? w _ hx549_0)).trans hx549_0; replace p549 := eq_true p549; replace q549 := eq_true q549; have p550 : 0 ≤ ((ji9) : Int) := od_; have q550 : (ji9) < ((rd_L2 l0_1 (ji3)).length : Int) := od_; obtain ⟨ad550, e550, hx550_0⟩ := Kd.at_int HR548_0.out (ji9) p550 q550; obtain rfl : ad549 = ad550 := (by injection e550); replace hx550_0 := (HB.out.cell (World.block_lt_of_cell? w _ hx550_0)).trans hx550_0; replace p550 := eq_true p550; replace q550 := eq_true q550)); try go_wp2_with (first | ((with_reducible refine gate_dst (N := 2) rfl ?_); refine bx_ (N := 2) (cs := #[.int .i64 a0_0, .slice A0_1 l0_1.length c0_1]) (t := 26) ?_; intro gb547 hg w12 hbox hb; have BK547 := m_ (hbox); have GW547 := m_ ((by rw [hg]; exact (below_size hb_) : w.heap.size ≤ gb547)); have GE547 := m_ ((by rw [hg]; exact (below_size hb_) : w.heap.size ≤ gb547)); replace HB := m_ (below_step hb_ hb); clear hb hbox hg; have hcz13_0 := bc0_ BK547.out; have hcz13_1 := bc1_ BK547.out; have hfz13_0 := blk_frozen BK547.out 0; have hfz13_1 := blk_frozen BK547.out 1; have p548 : 0 ≤ ((ji3) : Int) := od_; have q548 : (ji3) < (l0_1.length : Int) := od_; obtain ⟨ad548, A548_0, c548_0, e548, hx548_0, hl548_0, hi548_0⟩ := at_L2 HR0_1.out (ji3) p548 q548; cases e548; replace hx548_0 := (HB.out.cell (World.block_lt_of_cell? w _ hx548_0)).trans hx548_0; have HR548_0 := m_ hi548_0; have HC548_0 := m_ hl548_0; clear hi548_0 hl548_0; replace p548 := eq_true p548; replace q548 := eq_true q548; have p549 : 0 ≤ ((ji6) : Int) := od_; have q549 : (ji6) < ((rd_L2 l0_1 (ji3)).length : Int) := od_; obtain ⟨ad549, e549, hx549_0⟩ := Kd.at_int HR548_0.out (ji6) p549 q549; cases e549; replace hx549_0 := (HB.out.cell (World.block_lt_of_cell? w _ hx549_0)).trans hx549_0; replace p549 := eq_true p549; replace q549 := eq_true q549; have p550 : 0 ≤ ((ji9) : Int) := od_; have q550 : (ji9) < ((rd_L2 l0_1 (ji3)).length : Int) := od_; obtain ⟨ad550, e550, hx550_0⟩ := Kd.at_int HR548_0.out (ji9) p550 q550; obtain rfl : ad549 = ad550 := (by injection e550); replace hx550_0 := (HB.out.cell (World.block_lt_of_cell? w _ hx550_0)).trans hx550_0; replace p550 := eq_true p550; replace q550 := eq_true q550)))
  go_ret2
  exact ⟨by first | rfl | (simp [errW_none, errW_some] <;> rfl) | (simp only [← hji3, ← hji6, ← hji9]; first | rfl | (simp [errW_none, errW_some] <;> rfl)) | (simp [*, errW_none, errW_some] <;> rfl), hbs_⟩
 ·rw [if_neg c4] at H
  exact absurd H (by simp)

/-! ### impl_PermutationOfWalk: function 11 -/
mutual
def impl_PermutationOfWalk.l0 : Nat → List Int → List Int → Int → Int → Int → List (List Int) → Int → List (List Int) → Option (List Int × Int)
 | 0, _, _, _, _, _, _, _, _ => none
 | k + 1, x1, x33, x34, x35, x552000, x552001, x552002, x552003 => if x35 < x34 then (if 0 ≤ x35 then (if x35 < (x33.length : Int) then ((impl_Graph_ends.f x552000 x552001 (rd x33 x35)).bind fun bt556 => (if (x1.length : Int) = 0 then (none) else (if 0 ≤ (Int.tmod (wrap64 (x35 + 1)) (x1.length : Int)) then (if (Int.tmod (wrap64 (x35 + 1)) (x1.length : Int)) < (x1.length : Int) then ((impl_Graph_ends.f x552000 x552001 (rd x1 (Int.tmod (wrap64 (x35 + 1)) (x1.length : Int)))).bind fun bt559 => (if bt559.1 = bt556.2 then (impl_PermutationOfWalk.l0 k x1 x33 x34 (wrap64 (x35 + 1)) x552000 x552001 x552002 x552003) else (some (([] : List Int), 5)))) else (none)) else (none)))) else (none)) else (none)) else (impl_PermutationOfWalk.l1 k x1 (([] : List Int)) x552002 0 x552000 x552001 x552002 x552003)
def impl_PermutationOfWalk.l1 : Nat → List Int → List Int → Int → Int → Int → List (List Int) → Int → List (List Int) → Option (List Int × Int)
 | 0, _, _, _, _, _, _, _, _ => none
 | k + 1, x1, x12, x67, x68, x552000, x552001, x552002, x552003 => if x68 < x67 then (impl_PermutationOfWalk.l2 k x1 x12 x68 x67 x68 x1 (x1.length : Int) 0 x552000 x552001 x552002 x552003) else (some (x12, 0))
def impl_PermutationOfWalk.l2 : Nat → List Int → List Int → Int → Int → Int → List Int → Int → Int → Int → List (List Int) → Int → List (List Int) → Option (List Int × Int)
 | 0, _, _, _, _, _, _, _, _, _, _, _, _ => none
 | k + 1, x1, x12, x13, x67, x68, x71, x72, x73, x552000, x552001, x552002, x552003 => if x73 < x72 then (if 0 ≤ x73 then (if x73 < (x71.length : Int) then (if 0 ≤ (wrap64 (Int.tdiv (rd x71 x73) 2)) then (if (wrap64 (Int.tdiv (rd x71 x73) 2)) < (x552003.length : Int) then (if (Int.tmod (rd x71 x73) 2) = 0 then (if 0 ≤ x13 then (if x13 < ((rd_L2 x552003 (wrap64 (Int.tdiv (rd x71 x73) 2))).length : Int) then (impl_PermutationOfWalk.l2 k x1 x12 (rd (rd_L2 x552003 (wrap64 (Int.tdiv (rd x71 x73) 2))) x13) x67 x68 x71 x72 (wrap64 (x73 + 1)) x552000 x552001 x552002 x552003) else (none)) else (none)) else ((slices_Index_int64_int64.f k (rd_L2 x552003 (wrap64 (Int.tdiv (rd x71 x73) 2))) x13).bind fun t567 => (impl_PermutationOfWalk.l2 k x1 x12 t567 x67 x68 x71 x72 (wrap64 (x73 + 1)) x552000 x552001 x552002 x552003))) else (none)) else (none)) else (none)) else (none)) else (if x12.length < 17592186044416 then (impl_PermutationOfWalk.l1 k x1 (x12 ++ [x13]) x67 (wrap64 (x68 + 1)) x552000 x552001 x552002 x552003) else (none))
end
def impl_PermutationOfWalk.f (k : Nat) (a0_0 : Int) (l0_1 : List (List Int)) (a0_2 : Int) (l0_3 : List (List Int)) (l1 : List Int) : Option (List Int × Int) := (impl_IsCover.f k a0_0 l0_1 a0_2 l0_3).bind fun t552 => (if t552 = true then ((impl_within.f (l1.length : Int) 1 20).bind fun t553 => (if t553 = true then ((impl_Graph_areDirected.f k a0_0 l0_1 l1).bind fun t554 => (if t554 = true then (impl_PermutationOfWalk.l0 k l1 l1 (l1.length : Int) 0 a0_0 l0_1 a0_2 l0_3) else (some (([] : List Int), 2)))) else (some (([] : List Int), 2)))) else (some (([] : List Int), 1)))
def impl_PermutationOfWalk.T9 : Bool × List (List Nat × List Nat) := (true, [([], []), ([0], [0]), ([], []), ([], []), ([3], [3]), ([], []), ([5], [5]), ([4, 6], [4, 6]), ([2, 7], [2, 7]), ([8], [8]), ([1, 9], [1, 9]), ([10], [10]), ([11], [11]), ([11], [11]), ([12, 10, 0, 1, 2, 3, 4, 5, 6, 7, 8, 9, 10, 11, 12], [12]), ([13, 14, 0, 1, 2, 3, 4, 5, 6, 7, 8, 9, 10, 11, 12, 13, 14], [13])])
def impl_PermutationOfWalk.B9 : List Nat := [0, 1, 0, 0, 8, 0, 32, 120, 252, 508, 1023, 2047, 4095, 4095, 8191, 32767]
theorem impl_PermutationOfWalk.tab9 : rtab .any (opsOf Try.f11 9) = impl_PermutationOfWalk.T9 := by kernel_rfl
theorem impl_PermutationOfWalk.bits9 : waitsOk impl_PermutationOfWalk.T9.2 impl_PermutationOfWalk.B9 = true := by kernel_rfl
set_option maxHeartbeats 8000000 in
set_option maxRecDepth 100000 in
theorem impl_PermutationOfWalk.calls (k : Nat) (a0_0 : Int) (A0_1 : Option Addr) (c0_1 : Nat) (l0_1 : List (List Int)) (a0_2 : Int) (A0_3 : Option Addr) (c0_3 : Nat) (l0_3 : List (List Int)) (A1 : Option Addr) (c1 : Nat) (l1 : List Int) (r1 : List Int) (r2 : Int) (w : World) (hr0_1 : Kd.C (Kd.slice 2 (Kd.int .i64)) w A0_1 l0_1.length l0_1) (hc0_1 : l0_1.length ≤ c0_1) (hr0_3 : Kd.C (Kd.slice 2 (Kd.int .i64)) w A0_3 l0_3.length l0_3) (hc0_3 : l0_3.length ≤ c0_3) (hr1 : Kd.C (Kd.int .i64) w A1 l1.length l1) (hc1 : l1.length ≤ c1) (h : impl_PermutationOfWalk.f k a0_0 l0_1 a0_2 l0_3 l1 = some (r1, r2)) :
  Calls Try.prog 11 #[.agg #[.int .i64 a0_0, .slice A0_1 l0_1.length c0_1, .int .i64 a0_2, .slice A0_3 l0_3.length c0_3], .slice A1 l1.length c1] w fun e w' => ∃ v0_ : Value, e = .returned (.tuple #[v0_, .int .i64 r2]) ∧ Kd.R (Kd.int .i64) 2 w' w.heap.size (fun _ => True) v0_ r1 ∧ Below w.heap.size w w' := by
 have hu28 := Try.underlying28
 have hu26 := Try.underlying26
 have HR0_1 := m_ hr0_1
 have HC0_1 := m_ hc0_1
 clear hr0_1 hc0_1
 have HR0_3 := m_ hr0_3
 have HC0_3 := m_ hc0_3
 clear hr0_3 hc0_3
 have HR1 := m_ hr1
 have HC1 := m_ hc1
 clear hr1 hc1
 have HB := m_ (Below.refl w.heap.size w)
 have H : ((impl_IsCover.f k a0_0 l0_1 a0_2 l0_3).bind fun t552 => (if t552 = true then ((impl_within.f (l1.length : Int) 1 20).bind fun t553 => (if t553 = true then ((impl_Graph_areDirected.f k a0_0 l0_1 l1).bind fun t554 => (if t554 = true then (impl_PermutationOfWalk.l0 k l1 l1 (l1.length : Int) 0 a0_0 l0_1 a0_2 l0_3) else (some (([] : List Int), 2)))) else (some (([] : List Int), 2)))) else (some (([] : List Int), 1)))) = some (r1, r2) := h
 clear h
 obtain ⟨t552, A3, H⟩ := bnd_ H
 by_cases c4 : t552 = true
 ·subst c4
  have H1 : ((impl_within.f (l1.length : Int) 1 20).bind fun t553 => (if t553 = true then ((impl_Graph_areDirected.f k a0_0 l0_1 l1).bind fun t554 => (if t554 = true then (impl_PermutationOfWalk.l0 k l1 l1 (l1.length : Int) 0 a0_0 l0_1 a0_2 l0_3) else (some (([] : List Int), 2)))) else (some (([] : List Int), 2)))) = some (r1, r2) := by rw [if_pos rfl] at H; exact H
  clear H
  have H := H1
  clear H1
  obtain ⟨t553, A5, H⟩ := bnd_ H
  by_cases c6 : t553 = true
  ·subst c6
   have H1 : ((impl_Graph_areDirected.f k a0_0 l0_1 l1).bind fun t554 => (if t554 = true then (impl_PermutationOfWalk.l0 k l1 l1 (l1.length : Int) 0 a0_0 l0_1 a0_2 l0_3) else (some (([] : List Int), 2)))) = some (r1, r2) := by rw [if_pos rfl] at H; exact H
   clear H
   have H := H1
   clear H1
   obtain ⟨t554, A7, H⟩ := bnd_ H
   by_cases c8 : t554 = true
   ·subst c8
    have H1 : (impl_PermutationOfWalk.l0 k l1 l1 (l1.length : Int) 0 a0_0 l0_1 a0_2 l0_3) = some (r1, r2) := by rw [if_pos rfl] at H; exact H
    clear H
    have H := H1
    clear H1
    have H' := m_ H
    clear H
    go_enter Try.func11, Try.ntmps11
    go_wp2_with (first | ((with_reducible refine gate_dst (N := 2) rfl ?_); refine bx_ (N := 2) (cs := #[.int .i64 a0_0, .slice A0_1 l0_1.length c0_1, .int .i64 a0_2, .slice A0_3 l0_3.length c0_3]) (t := 28) ?_; intro gb551 hg w9 hbox hb; have BK551 := m_ (hbox); have GW551 := m_ ((by rw [hg]; exact (below_size hb_) : w.heap.size ≤ gb551)); have GE551 := m_ ((by rw [hg]; exact (below_size hb_) : w.heap.size ≤ gb551)); replace HB := m_ (below_step hb_ hb); clear hb hbox hg; have hcz10_0 := bc0_ BK551.out; have hcz10_1 := bc1_ BK551.out; have hcz10_2 := bc2_ BK551.out; have hcz10_3 := bc3_ BK551.out; have hfz10_0 := blk_frozen BK551.out 0; have hfz10_1 := blk_frozen BK551.out 1; have hfz10_2 := blk_frozen BK551.out 2; have hfz10_3 := blk_frozen BK551.out 3) | ((with_reducible refine gate_callee (f := 105) rfl ?_); refine gl_ (some 19) Try.func105 #[.agg #[.int .i64 a0_0, .slice A0_1 l0_1.length c0_1, .int .i64 a0_2, .slice A0_3 l0_3.length c0_3]] ?_; (with_reducible refine (impl_IsCover.calls k a0_0 _ _ l0_1 a0_2 _ _ l0_3 true _ ?side1 ?side2 ?side3 ?side4 A3.out).mono ?_); (case side1 => exact Kd.C_below (Kd.C_below HR0_1.out HB.out) bgo_); (case side2 => exact HC0_1.out); (case side3 => exact Kd.C_below (Kd.C_below HR0_3.out HB.out) bgo_); (case side4 => exact HC0_3.out); rintro e w11 ⟨rfl, hb⟩; refine ⟨_, rfl, ?_⟩; replace BK551 := m_ (bb_ BK551.out hb); replace HB := m_ (below_step hbs_ hb); clear hb) | ((with_reducible refine gate_callee (f := 106) rfl ?_); refine gl_ (some 24) Try.func106 #[.int .i64 (l1.length : Int), .int .i64 1, .int .i64 20] ?_; (with_reducible refine (impl_within.calls (l1.length : Int) 1 20 true _ A5.out).mono ?_); rintro e w' ⟨rfl, ⟨nd, rfl⟩⟩; refine ⟨_, rfl, ?_⟩; have hcz12_0 := bc0_ BK551.out; have hcz12_1 := bc1_ BK551.out; have hcz12_2 := bc2_ BK551.out; have hcz12_3 := bc3_ BK551.out; have hfz12_0 := blk_frozen BK551.out 0; have hfz12_1 := blk_frozen BK551.out 1; have hfz12_2 := blk_frozen BK551.out 2; have hfz12_3 := blk_frozen BK551.out 3) | (go_at_call 107; (with_reducible refine (impl_Graph_areDirected.calls k a0_0 _ _ l0_1 _ _ l1 true _ ?side1 ?side2 ?side3 ?side4 A7.out).mono ?_); (case side1 => exact Kd.C_below (Kd.C_below HR0_1.out hbs_) bgo_); (case side2 => exact HC0_1.out); (case side3 => exact Kd.C_below (Kd.C_below HR1.out hbs_) bgo_); (case side4 => exact HC1.out); rintro e w13 ⟨rfl, hb⟩; replace BK551 := m_ (bb_ BK551.out hb); replace HB := m_ (below_step hbs_ hb); clear hb))
    go_loopg [35] k (fun kq v35 w' => ∃ (x35_1 : Int), v35 = .int .i64 x35_1 ∧ Aside0 (impl_PermutationOfWalk.l0 kq l1 l1 (l1.length : Int) x35_1 a0_0 l0_1 a0_2 l0_3 = some (r1, r2)) ∧ Aside0 (kq ≤ k) ∧ Aside0 (w'.heap[gb551]? = some (.cells #[.int .i64 a0_0, (.slice A0_1 l0_1.length c0_1), .int .i64 a0_2, (.slice A0_3 l0_3.length c0_3)] 28 (0, 0))) ∧ Aside0 (Below w.heap.size w w'))
    case atStart => exact ⟨(0), es_, H', ⟨Nat.le_refl _⟩, ⟨blk_below BK551.out bgo_⟩, ⟨hbs_⟩⟩
    case round =>
     clear H'
     obtain ⟨x35_1, rfl, HA, HK1, BK551, HB⟩ := hrel
     cases gk with
     | zero => exact absurd HA.out (by simp [impl_PermutationOfWalk.l0])
     | succ k1 =>
      have H := HA.out
      clear HA
      simp only [impl_PermutationOfWalk.l0] at H
      by_cases c14 : x35_1 < (l1.length : Int)
      ·rw [if_pos c14] at H
       have c14b0 := decide_eq_true c14
       clear c14
       obtain ⟨c15, H⟩ := itn_ H
       have c15b0 := decide_eq_true c15
       clear c15
       obtain ⟨c16, H⟩ := itn_ H
       have c16b0 := decide_eq_true c16
       clear c16
       obtain ⟨⟨t556, t557⟩, A17, H⟩ := bnd_ H
       dsimp only at H
       by_cases c18 : (l1.length : Int) = 0
       ·rw [if_pos c18] at H
        exact absurd H (by simp)
       ·rw [if_neg c18] at H
        have c18b0 : ((l1.length : Int) == 0) = false := beq_eq_false_iff_ne.mpr c18
        have c18b1 : ((l1.length : Int) != 0) = true := bne_iff_ne.mpr c18
        have c18b2 : ¬ (l1 = []) := fun h_ => c18 (by rw [h_]; rfl)
        obtain ⟨ji19, hji19⟩ : ∃ j_ : Int, (Int.tmod (wrap64 (x35_1 + 1)) (l1.length : Int)) = j_ := ⟨_, rfl⟩
        (try rw [hji19])
        replace H : (if 0 ≤ (ji19) then (if (ji19) < (l1.length : Int) then ((impl_Graph_ends.f a0_0 l0_1 (rd l1 (ji19))).bind fun bt559 => (if bt559.1 = t557 then (impl_PermutationOfWalk.l0 k1 l1 l1 (l1.length : Int) (wrap64 (x35_1 + 1)) a0_0 l0_1 a0_2 l0_3) else (some (([] : List Int), 5)))) else (none)) else (none)) = some (r1, r2) := by first | (rw [hji19] at H; exact H) | (simp only [hji19] at H ⊢; exact H)
        (try rw [hji19] at A17)
        obtain ⟨c20, H⟩ := itn_ H
        have c20b0 := decide_eq_true c20
        clear c20
        obtain ⟨c21, H⟩ := itn_ H
        have c21b0 := decide_eq_true c21
        clear c21
        obtain ⟨⟨t559, t560⟩, A22, H⟩ := bnd_ H
        dsimp only at H
        by_cases c23 : t559 = t557
        ·rw [if_pos c23] at H
         have c23b0 : (t559 == t557) = true := beq_iff_eq.mpr c23
         have c23b1 : (t559 != t557) = false := bne_eq_false_iff_eq.mpr c23
         clear c23
         have H' := m_ H
         clear H
         have p555 : 0 ≤ (x35_1 : Int) := od_
         have q555 : x35_1 < (l1.length : Int) := od_
         obtain ⟨ad555, e555, hx555_0⟩ := Kd.at_int HR1.out x35_1 p555 q555
         cases e555
         (try replace hx555_0 := (HB.out.cell (World.block_lt_of_cell? w _ hx555_0)).trans hx555_0)
         replace p555 := eq_true p555
         replace q555 := eq_true q555
         have hcz24_0 := bc0_ BK551.out
         have hcz24_1 := bc1_ BK551.out
         have hcz24_2 := bc2_ BK551.out
         have hcz24_3 := bc3_ BK551.out
         have hfz24_0 := blk_frozen BK551.out 0
         have hfz24_1 := blk_frozen BK551.out 1
         have hfz24_2 := blk_frozen BK551.out 2
         have hfz24_3 := blk_frozen BK551.out 3
         try go_wp2_with (first | ((with_reducible refine gate_callee (f := 108) rfl ?_); refine gl_ (some 44) Try.func108 #[.agg #[.int .i64 a0_0, .slice A0_1 l0_1.length c0_1], .int .i64 (rd l1 x35_1)] ?_; (with_reducible refine (impl_Graph_ends.calls a0_0 _ _ l0_1 (rd l1 x35_1) t556 t557 _ ?side1 ?side2 A17.out).mono ?_); (case side1 => exact Kd.C_below (Kd.C_below HR0_1.out HB.out) bgo_); (case side2 => exact HC0_1.out); rintro e w25 ⟨rfl, hb⟩; refine ⟨_, rfl, ?_⟩; replace BK551 := m_ (bb_ BK551.out hb); replace HB := m_ (below_step hbs_ hb); clear hb))
         replace BK551 := m_ (blk_drew BK551.out)
         replace HB := m_ (below_drew1 HB.out)
         have p558 : 0 ≤ ((ji19) : Int) := od_
         have q558 : (ji19) < (l1.length : Int) := od_
         obtain ⟨ad558, e558, hx558_0⟩ := Kd.at_int HR1.out (ji19) p558 q558
         have hw558_0 := hx558_0
         obtain rfl : ad555 = ad558 := (by injection e558)
         (try replace hx558_0 := (HB.out.cell (World.block_lt_of_cell? w _ hx558_0)).trans hx558_0)
         replace p558 := eq_true p558
         replace q558 := eq_true q558
         refine start_ (n := 16) (S := fun w' => w'.cell? ⟨gb551, 0, none⟩ = some (.int .i64 a0_0) ∧ w'.cell? ⟨gb551, 1, none⟩ = some (.slice A0_1 l0_1.length c0_1) ∧ w'.cell? ⟨gb551, 2, none⟩ = some (.int .i64 a0_2) ∧ w'.cell? ⟨gb551, 3, none⟩ = some (.slice A0_3 l0_3.length c0_3) ∧ w'.cell? (ad555.add ((ji19)).toNat) = some (.int .i64 (rd l1 (ji19)))) (ds := []) #[false, false, false, false, false, false, false, false, false, false, false, false, false, false, false, false] (by kernel_rfl) rfl rfl ⟨bc0_ BK551.out, bc1_ BK551.out, bc2_ BK551.out, bc3_ BK551.out, ((HB.out.cell (World.block_lt_of_cell? _ _ hw558_0)).trans hw558_0)⟩ (fun hHeld => ?_); refine with_tabW impl_PermutationOfWalk.tab9 impl_PermutationOfWalk.bits9 (fun HT_ HW_ => ?_)
         generalize w25.drew = w26 at BK551 HB hx558_0 hHeld ⊢
         refine pk_ 0 16 48 1 ?_
         refine pk_ 2 16 50 5 ?_
         refine pk_ 3 16 51 13 ?_
         refine pk_ 4 16 52 29 ?_
         refine pk_ 5 16 53 61 ?_
         refine pk_ 6 16 54 125 ?_
         refine pk_ 7 16 55 253 ?_
         refine pk_ 8 16 56 509 ?_
         refine tk_ 1 16 49 511 hHeld ?_
         refine tk_ 9 16 57 1023 hHeld ?_
         refine on_ 10 16 (some 58) 2047 (fun K hK => ?_)
         refine goes_ Try.func108 (by kernel_rfl) rfl #[.agg #[.int .i64 a0_0, .slice A0_1 l0_1.length c0_1], .int .i64 (rd l1 (ji19))] (by rfl) rfl rfl (by (try simp only [List.map_toArray, List.map_cons, List.map_nil]); first | done | (simp only [hji19]; rfl) | rfl | (simp only [List.length_drop, List.length_take]; rfl)) ?_
         with_reducible refine (impl_Graph_ends.calls a0_0 _ _ l0_1 (rd l1 (ji19)) t559 t560 _ ?side1 ?side2 A22.out).mono ?_
         (case side1 => exact Kd.C_below (Kd.C_below HR0_1.out HB.out) bgo_)
         (case side2 => exact HC0_1.out)
         rintro e w27 ⟨rfl, hb⟩
         refine ⟨_, rfl, ?_⟩
         replace BK551 := m_ (bb_ BK551.out hb)
         replace HB := m_ (below_step hbs_ hb)
         refine hK.out _ _ ⟨bc0_ BK551.out, bc1_ BK551.out, bc2_ BK551.out, bc3_ BK551.out, ((HB.out.cell (World.block_lt_of_cell? _ _ hw558_0)).trans hw558_0)⟩ (fun hHeld => ?_)
         clear hK K
         refine nm_ ?_
         refine pk_ 11 16 47 4095 ?_
         refine pk_ 12 16 59 8191 ?_
         refine pk_ 13 16 60 16383 ?_
         refine pk_ 14 16 10 32767 ?_
         refine pk_ 15 16 11 65535 ?_
         refine done_ (done_of HT_.out (by kernel_rfl)) ?_
         try go_wp2
         first | (go_roundg k1) | ((try subst hji19); (go_roundg k1))
         case measure => have := HK1.out; omega
         case rel => exact ⟨(wrap64 (x35_1 + 1)), es_, H', ⟨by have := HK1.out; omega⟩, ⟨blk_below BK551.out bgo_⟩, ⟨hbs_⟩⟩
        ·rw [if_neg c23] at H
         have c23b0 : (t559 == t557) = false := beq_eq_false_iff_ne.mpr c23
         have c23b1 : (t559 != t557) = true := bne_iff_ne.mpr c23
         simp only [Option.some.injEq, Prod.mk.injEq] at H
         obtain ⟨rfl, rfl⟩ := H
         have p555 : 0 ≤ (x35_1 : Int) := od_
         have q555 : x35_1 < (l1.length : Int) := od_
         obtain ⟨ad555, e555, hx555_0⟩ := Kd.at_int HR1.out x35_1 p555 q555
         cases e555
         (try replace hx555_0 := (HB.out.cell (World.block_lt_of_cell? w _ hx555_0)).trans hx555_0)
         replace p555 := eq_true p555
         replace q555 := eq_true q555
         have hcz28_0 := bc0_ BK551.out
         have hcz28_1 := bc1_ BK551.out
         have hcz28_2 := bc2_ BK551.out
         have hcz28_3 := bc3_ BK551.out
         have hfz28_0 := blk_frozen BK551.out 0
         have hfz28_1 := blk_frozen BK551.out 1
         have hfz28_2 := blk_frozen BK551.out 2
         have hfz28_3 := blk_frozen BK551.out 3
         try go_wp2_with (first | ((with_reducible refine gate_callee (f := 108) rfl ?_); refine gl_ (some 44) Try.func108 #[.agg #[.int .i64 a0_0, .slice A0_1 l0_1.length c0_1], .int .i64 (rd l1 x35_1)] ?_; (with_reducible refine (impl_Graph_ends.calls a0_0 _ _ l0_1 (rd l1 x35_1) t556 t557 _ ?side1 ?side2 A17.out).mono ?_); (case side1 => exact Kd.C_below (Kd.C_below HR0_1.out HB.out) bgo_); (case side2 => exact HC0_1.out); rintro e w29 ⟨rfl, hb⟩; refine ⟨_, rfl, ?_⟩; replace BK551 := m_ (bb_ BK551.out hb); replace HB := m_ (below_step hbs_ hb); clear hb))
         replace BK551 := m_ (blk_drew BK551.out)
         replace HB := m_ (below_drew1 HB.out)
         have p558 : 0 ≤ ((ji19) : Int) := od_
         have q558 : (ji19) < (l1.length : Int) := od_
         obtain ⟨ad558, e558, hx558_0⟩ := Kd.at_int HR1.out (ji19) p558 q558
         have hw558_0 := hx558_0
         obtain rfl : ad555 = ad558 := (by injection e558)
         (try replace hx558_0 := (HB.out.cell (World.block_lt_of_cell? w _ hx558_0)).trans hx558_0)
         replace p558 := eq_true p558
         replace q558 := eq_true q558
         refine start_ (n := 16) (S := fun w' => w'.cell? ⟨gb551, 0, none⟩ = some (.int .i64 a0_0) ∧ w'.cell? ⟨gb551, 1, none⟩ = some (.slice A0_1 l0_1.length c0_1) ∧ w'.cell? ⟨gb551, 2, none⟩ = some (.int .i64 a0_2) ∧ w'.cell? ⟨gb551, 3, none⟩ = some (.slice A0_3 l0_3.length c0_3) ∧ w'.cell? (ad555.add ((ji19)).toNat) = some (.int .i64 (rd l1 (ji19)))) (ds := []) #[false, false, false, false, false, false, false, false, false, false, false, false, false, false, false, false] (by kernel_rfl) rfl rfl ⟨bc0_ BK551.out, bc1_ BK551.out, bc2_ BK551.out, bc3_ BK551.out, ((HB.out.cell (World.block_lt_of_cell? _ _ hw558_0)).trans hw558_0)⟩ (fun hHeld => ?_); refine with_tabW impl_PermutationOfWalk.tab9 impl_PermutationOfWalk.bits9 (fun HT_ HW_ => ?_)
         generalize w29.drew = w30 at BK551 HB hx558_0 hHeld ⊢
         refine pk_ 0 16 48 1 ?_
         refine pk_ 2 16 50 5 ?_
         refine pk_ 3 16 51 13 ?_
         refine pk_ 4 16 52 29 ?_
         refine pk_ 5 16 53 61 ?_
         refine pk_ 6 16 54 125 ?_
         refine pk_ 7 16 55 253 ?_
         refine pk_ 8 16 56 509 ?_
         refine tk_ 1 16 49 511 hHeld ?_
         refine tk_ 9 16 57 1023 hHeld ?_
         refine on_ 10 16 (some 58) 2047 (fun K hK => ?_)
         refine goes_ Try.func108 (by kernel_rfl) rfl #[.agg #[.int .i64 a0_0, .slice A0_1 l0_1.length c0_1], .int .i64 (rd l1 (ji19))] (by rfl) rfl rfl (by (try simp only [List.map_toArray, List.map_cons, List.map_nil]); first | done | (simp only [hji19]; rfl) | rfl | (simp only [List.length_drop, List.length_take]; rfl)) ?_
         with_reducible refine (impl_Graph_ends.calls a0_0 _ _ l0_1 (rd l1 (ji19)) t559 t560 _ ?side1 ?side2 A22.out).mono ?_
         (case side1 => exact Kd.C_below (Kd.C_below HR0_1.out HB.out) bgo_)
         (case side2 => exact HC0_1.out)
         rintro e w31 ⟨rfl, hb⟩
         refine ⟨_, rfl, ?_⟩
         replace BK551 := m_ (bb_ BK551.out hb)
         replace HB := m_ (below_step hbs_ hb)
         refine hK.out _ _ ⟨bc0_ BK551.out, bc1_ BK551.out, bc2_ BK551.out, bc3_ BK551.out, ((HB.out.cell (World.block_lt_of_cell? _ _ hw558_0)).trans hw558_0)⟩ (fun hHeld => ?_)
         clear hK K
         refine nm_ ?_
         refine pk_ 11 16 47 4095 ?_
         refine pk_ 12 16 59 8191 ?_
         refine pk_ 13 16 60 16383 ?_
         refine pk_ 14 16 10 32767 ?_
         refine pk_ 15 16 11 65535 ?_
         refine done_ (done_of HT_.out (by kernel_rfl)) ?_
         try go_wp2
         go_ret2
         exact ⟨_, by first | rfl | (simp [errW_none, errW_some] <;> rfl) | (simp only [← hji19]; first | rfl | (simp [errW_none, errW_some] <;> rfl)) | (simp [*, errW_none, errW_some] <;> rfl), by first | exact Kd.R_nil _ _ _ _ _ | exact Kd.N_nil _ _ _ _ _ | exact Kd.V_nil _ _ _ _ _ | exact Kd.Q_nil _ _ _ _ _ | exact Kd.S_nil _ _ _ _ _, hbs_⟩
      ·rw [if_neg c14] at H
       have c14b0 := decide_eq_false c14
       clear c14
       obtain ⟨y561, Ny561, H⟩ : ∃ y561 : List Int, Aside0 (y561 = (([] : List Int))) ∧ (impl_PermutationOfWalk.l1 k1 l1 y561 a0_2 0 a0_0 l0_1 a0_2 l0_3) = some (r1, r2) := ⟨_, ⟨rfl⟩, H⟩
       have H' := m_ H
       clear H
       go_wp2_with (first | ((with_reducible refine gate_dst (N := 65) rfl ?_); refine Kd.R_lit (Kd.int .i64) _ 2 ?hg (N := 65) ?hd (xs := ([] : List Int)) (inner := []) (ok := fun _ => True) (okp := fun _ => True) ?hr ?hp (fun _ hk => hk) trivial (Below.refl _ _) (Nat.le_refl _) (by simp) ?_; (case hd => rfl); (case hg => rfl); (case hr => first | (go_simp; done) | (go_simp; rfl)); (case hp => exact (Reps.none _ _)); intro v562 w32 ho33 hb hg_ hnew_; clear hg_ hnew_; rw [← Ny561.out] at ho33; have HO563 := m_ (Kd.R_lower ho33 (below_size hbs_)); replace BK551 := m_ (bb_ BK551.out hb); replace HB := m_ (below_step hbs_ hb); clear hb ho33; have hcz34_0 := bc0_ BK551.out; have hcz34_1 := bc1_ BK551.out; have hcz34_2 := bc2_ BK551.out; have hcz34_3 := bc3_ BK551.out; have hfz34_0 := blk_frozen BK551.out 0; have hfz34_1 := blk_frozen BK551.out 1; have hfz34_2 := blk_frozen BK551.out 2; have hfz34_3 := blk_frozen BK551.out 3))
       go_loopg [12, 68] k1 (fun kq v12 v68 w' => ∃ (x12_2 : List Int) (x68_2 : Int), v68 = .int .i64 x68_2 ∧ Aside0 (impl_PermutationOfWalk.l1 kq l1 x12_2 a0_2 x68_2 a0_0 l0_1 a0_2 l0_3 = some (r1, r2)) ∧ Aside0 (kq ≤ k1) ∧ Aside0 (Kd.R (Kd.int .i64) 2 w' w.heap.size (fun _ => True) v12 x12_2) ∧ Aside0 (w'.heap[gb551]? = some (.cells #[.int .i64 a0_0, (.slice A0_1 l0_1.length c0_1), .int .i64 a0_2, (.slice A0_3 l0_3.length c0_3)] 28 (0, 0))) ∧ Aside0 (Below w.heap.size w w'))
       case atStart => exact ⟨(y561), (0), es_, H', ⟨Nat.le_refl _⟩, ⟨Kd.R_below HO563.out bgo_⟩, ⟨blk_below BK551.out bgo_⟩, ⟨hbs_⟩⟩
       case round =>
        clear H'
        obtain ⟨x12_2, x68_2, rfl, HA, HK2, HO_12, BK551, HB⟩ := hrel
        cases gk with
        | zero => exact absurd HA.out (by simp [impl_PermutationOfWalk.l1])
        | succ k2 =>
         have H := HA.out
         clear HA
         simp only [impl_PermutationOfWalk.l1] at H
         by_cases c35 : x68_2 < a0_2
         ·rw [if_pos c35] at H
          have c35b0 := decide_eq_true c35
          clear c35
          have H' := m_ H
          clear H
          go_wp2
          go_loopg [13, 73] k2 (fun kq v13 v73 w' => ∃ (x13_3 : Int) (x73_3 : Int), v13 = .int .i64 x13_3 ∧ v73 = .int .i64 x73_3 ∧ Aside0 (impl_PermutationOfWalk.l2 kq l1 x12_2 x13_3 a0_2 x68_2 l1 (l1.length : Int) x73_3 a0_0 l0_1 a0_2 l0_3 = some (r1, r2)) ∧ Aside0 (kq ≤ k2) ∧ Aside0 (Kd.R (Kd.int .i64) 2 w' w.heap.size (fun _ => True) u12 x12_2) ∧ Aside0 (w'.heap[gb551]? = some (.cells #[.int .i64 a0_0, (.slice A0_1 l0_1.length c0_1), .int .i64 a0_2, (.slice A0_3 l0_3.length c0_3)] 28 (0, 0))) ∧ Aside0 (Below w.heap.size w w'))
          case atStart => exact ⟨(x68_2), (0), es_, es_, H', ⟨Nat.le_refl _⟩, ⟨Kd.R_below HO_12.out bgo_⟩, ⟨blk_below BK551.out bgo_⟩, ⟨hbs_⟩⟩
          case round =>
           clear H'
           obtain ⟨x13_3, x73_3, rfl, rfl, HA, HK3, HO_12, BK551, HB⟩ := hrel
           cases gk with
           | zero => exact absurd HA.out (by simp [impl_PermutationOfWalk.l2])
           | succ k3 =>
            have H := HA.out
            clear HA
            simp only [impl_PermutationOfWalk.l2] at H
            by_cases c36 : x73_3 < (l1.length : Int)
            ·rw [if_pos c36] at H
             have c36b0 := decide_eq_true c36
             clear c36
             obtain ⟨c37, H⟩ := itn_ H
             have c37b0 := decide_eq_true c37
             clear c37
             obtain ⟨c38, H⟩ := itn_ H
             have c38b0 := decide_eq_true c38
             clear c38
             obtain ⟨ji39, hji39⟩ : ∃ j_ : Int, (wrap64 (Int.tdiv (rd l1 x73_3) 2)) = j_ := ⟨_, rfl⟩
             (try rw [hji39])
             replace H : (if 0 ≤ (ji39) then (if (ji39) < (l0_3.length : Int) then (if (Int.tmod (rd l1 x73_3) 2) = 0 then (if 0 ≤ x13_3 then (if x13_3 < ((rd_L2 l0_3 (ji39)).length : Int) then (impl_PermutationOfWalk.l2 k3 l1 x12_2 (rd (rd_L2 l0_3 (ji39)) x13_3) a0_2 x68_2 l1 (l1.length : Int) (wrap64 (x73_3 + 1)) a0_0 l0_1 a0_2 l0_3) else (none)) else (none)) else ((slices_Index_int64_int64.f k3 (rd_L2 l0_3 (ji39)) x13_3).bind fun t567 => (impl_PermutationOfWalk.l2 k3 l1 x12_2 t567 a0_2 x68_2 l1 (l1.length : Int) (wrap64 (x73_3 + 1)) a0_0 l0_1 a0_2 l0_3))) else (none)) else (none)) = some (r1, r2) := by first | (rw [hji39] at H; exact H) | (simp only [hji39] at H ⊢; exact H)
             have hji39w : (IntKind.i64.wrap (Int.tdiv (rd l1 x73_3) 2)) = ji39 := (i64_w _).trans hji39
             obtain ⟨c40, H⟩ := itn_ H
             have c40b0 := decide_eq_true c40
             clear c40
             obtain ⟨c41, H⟩ := itn_ H
             have c41b0 := decide_eq_true c41
             clear c41
             by_cases c42 : (Int.tmod (rd l1 x73_3) 2) = 0
             ·rw [if_pos c42] at H
              have c42b0 : ((Int.tmod (rd l1 x73_3) 2) == 0) = true := beq_iff_eq.mpr c42
              have c42b1 : ((Int.tmod (rd l1 x73_3) 2) != 0) = false := bne_eq_false_iff_eq.mpr c42
              clear c42
              obtain ⟨c43, H⟩ := itn_ H
              have c43b0 := decide_eq_true c43
              clear c43
              obtain ⟨c44, H⟩ := itn_ H
              have c44b0 := decide_eq_true c44
              clear c44
              have H' := m_ H
              clear H
              have p564 : 0 ≤ (x73_3 : Int) := od_
              have q564 : x73_3 < (l1.length : Int) := od_
              obtain ⟨ad564, e564, hx564_0⟩ := Kd.at_int HR1.out x73_3 p564 q564
              cases e564
              (try replace hx564_0 := (HB.out.cell (World.block_lt_of_cell? w _ hx564_0)).trans hx564_0)
              replace p564 := eq_true p564
              replace q564 := eq_true q564
              have hcz45_0 := bc0_ BK551.out
              have hcz45_1 := bc1_ BK551.out
              have hcz45_2 := bc2_ BK551.out
              have hcz45_3 := bc3_ BK551.out
              have hfz45_0 := blk_frozen BK551.out 0
              have hfz45_1 := blk_frozen BK551.out 1
              have hfz45_2 := blk_frozen BK551.out 2
              have hfz45_3 := blk_frozen BK551.out 3
              have p565 : 0 ≤ ((ji39) : Int) := od_
              have q565 : (ji39) < (l0_3.length : Int) := od_
              obtain ⟨ad565, A565_0, c565_0, e565, hx565_0, hl565_0, hi565_0⟩ := at_L2 HR0_3.out (ji39) p565 q565
              cases e565
              (try replace hx565_0 := (HB.out.cell (World.block_lt_of_cell? w _ hx565_0)).trans hx565_0)
              have HR565_0 := m_ hi565_0
              have HC565_0 := m_ hl565_0
              clear hi565_0 hl565_0
              replace p565 := eq_true p565
              replace q565 := eq_true q565
              have p566 : 0 ≤ (x13_3 : Int) := od_
              have q566 : x13_3 < ((rd_L2 l0_3 (ji39)).length : Int) := od_
              obtain ⟨ad566, e566, hx566_0⟩ := Kd.at_int HR565_0.out x13_3 p566 q566
              cases e566
              (try replace hx566_0 := (HB.out.cell (World.block_lt_of_cell? w _ hx566_0)).trans hx566_0)
              replace p566 := eq_true p566
              replace q566 := eq_true q566
              go_wp2
              first | go_roundg k3 | ((try subst hji39); go_roundg k3)
              case measure => have := HK1.out; have := HK2.out; have := HK3.out; omega
              case rel => exact ⟨(rd (rd_L2 l0_3 (ji39)) x13_3), (wrap64 (x73_3 + 1)), (by first | rfl | (simp; done) | (simp only [← hji39] <;> (first | rfl | simp)) | (simp [*]; done)), es_, H', ⟨by have := HK1.out; have := HK2.out; have := HK3.out; omega⟩, ⟨Kd.R_below HO_12.out bgo_⟩, ⟨blk_below BK551.out bgo_⟩, ⟨hbs_⟩⟩
             ·rw [if_neg c42] at H
              have c42b0 : ((Int.tmod (rd l1 x73_3) 2) == 0) = false := beq_eq_false_iff_ne.mpr c42
              have c42b1 : ((Int.tmod (rd l1 x73_3) 2) != 0) = true := bne_iff_ne.mpr c42
              obtain ⟨t567, A46, H⟩ := bnd_ H
              have H' := m_ H
              clear H
              have p564 : 0 ≤ (x73_3 : Int) := od_
              have q564 : x73_3 < (l1.length : Int) := od_
              obtain ⟨ad564, e564, hx564_0⟩ := Kd.at_int HR1.out x73_3 p564 q564
              cases e564
              (try replace hx564_0 := (HB.out.cell (World.block_lt_of_cell? w _ hx564_0)).trans hx564_0)
              replace p564 := eq_true p564
              replace q564 := eq_true q564
              have hcz47_0 := bc0_ BK551.out
              have hcz47_1 := bc1_ BK551.out
              have hcz47_2 := bc2_ BK551.out
              have hcz47_3 := bc3_ BK551.out
              have hfz47_0 := blk_frozen BK551.out 0
              have hfz47_1 := blk_frozen BK551.out 1
              have hfz47_2 := blk_frozen BK551.out 2
              have hfz47_3 := blk_frozen BK551.out 3
              have p565 : 0 ≤ ((ji39) : Int) := od_
              have q565 : (ji39) < (l0_3.length : Int) := od_
              obtain ⟨ad565, A565_0, c565_0, e565, hx565_0, hl565_0, hi565_0⟩ := at_L2 HR0_3.out (ji39) p565 q565
              cases e565
              (try replace hx565_0 := (HB.out.cell (World.block_lt_of_cell? w _ hx565_0)).trans hx565_0)
              have HR565_0 := m_ hi565_0
              have HC565_0 := m_ hl565_0
              clear hi565_0 hl565_0
              replace p565 := eq_true p565
              replace q565 := eq_true q565
              go_wp2_with (first | ((with_reducible refine gate_callee (f := 109) rfl ?_); refine goesL_ (some 92) rfl rfl Try.func109 (by kernel_rfl) rfl #[.slice A565_0 (rd_L2 l0_3 (ji39)).length c565_0, .int .i64 x13_3] rfl (by (try simp only [List.map_toArray, List.map_cons, List.map_nil]); first | done | (simp only [hji39]; rfl) | rfl | (simp only [List.length_drop, List.length_take]; rfl)) ?_; (with_reducible refine (slices_Index_int64_int64.calls k3 _ _ (rd_L2 l0_3 (ji39)) x13_3 t567 _ ?side1 ?side2 A46.out).mono ?_); (case side1 => exact Kd.C_below (Kd.C_below HR565_0.out HB.out) bgo_); (case side2 => exact HC565_0.out); rintro e w' ⟨rfl, ⟨nd, rfl⟩⟩; refine ⟨_, rfl, ?_⟩))
              first | go_roundg k3 | ((try subst hji39); go_roundg k3)
              case measure => have := HK1.out; have := HK2.out; have := HK3.out; omega
              case rel => exact ⟨(t567), (wrap64 (x73_3 + 1)), es_, es_, H', ⟨by have := HK1.out; have := HK2.out; have := HK3.out; omega⟩, ⟨Kd.R_below HO_12.out bgo_⟩, ⟨blk_below BK551.out bgo_⟩, ⟨hbs_⟩⟩
            ·rw [if_neg c36] at H
             have c36b0 := decide_eq_false c36
             clear c36
             obtain ⟨c48, H⟩ := itn_ H
             have LMc48 := m_ c48
             clear c48
             obtain ⟨y568, Ny568, H⟩ : ∃ y568 : List Int, Aside0 (y568 = (x12_2 ++ [x13_3])) ∧ (impl_PermutationOfWalk.l1 k3 l1 y568 a0_2 (wrap64 (x68_2 + 1)) a0_0 l0_1 a0_2 l0_3) = some (r1, r2) := ⟨_, ⟨rfl⟩, H⟩
             have H' := m_ H
             clear H
             go_wp2_with (first | ((with_reducible refine gate_builtin (b := .append) (xs := #[.tmp 94, .tmp 96]) rfl ?_); at_builtin; refine Kd.R_append (Kd.int .i64) (w0 := w) w.heap.size rfl (.tmp 94) (.tmp 96) 29 2 (.int .i64 0) 8 rfl Try.underlying29 info2 rfl (by decide) (by omega) u12 x12_2 x13_3 [.int .i64 x13_3] (fun _ => True) (fun _ => False) rfl rfl ?aP (fun _ hk => hk.elim) ?aF ?aO ?aB ?aS ?aL ?_; (case aP => exact rfl); (case aB => exact hbs_); (case aF => exact (fun _ _ => trivial)); (case aO => exact (Kd.R_below HO_12.out bgo_)); (case aS => exact (below_size hbs_)); (case aL => have := LMc48.out; omega); intro v569 w49 ho hb hg hat; rw [← Ny568.out] at ho; replace BK551 := m_ (blk_grown (blk_below BK551.out bgo_) hg (Kd.R_ne HO_12.out BK551.out (by decide))); replace HB := m_ (hb); have HO570 := m_ (ho); clear HO_12; clear ho hb hg hat))
             go_roundg k3
             case measure => have := HK1.out; have := HK2.out; have := HK3.out; omega
             case rel => exact ⟨(y568), (wrap64 (x68_2 + 1)), es_, H', ⟨by have := HK1.out; have := HK2.out; have := HK3.out; omega⟩, ⟨Kd.R_below HO570.out bgo_⟩, ⟨blk_below BK551.out bgo_⟩, ⟨hbs_⟩⟩
         ·rw [if_neg c35] at H
          have c35b0 := decide_eq_false c35
          clear c35
          simp only [Option.some.injEq, Prod.mk.injEq] at H
          obtain ⟨rfl, rfl⟩ := H
          go_wp2
          go_ret2
          exact ⟨_, er_, (Kd.R_below HO_12.out bgo_), hbs_⟩
   ·replace c8 := Bool.eq_false_iff.mpr c8
    subst c8
    have H1 : (some (([] : List Int), 2)) = some (r1, r2) := by rw [if_neg (show ¬ (false = true) by decide)] at H; exact H
    clear H
    have H := H1
    clear H1
    simp only [Option.some.injEq, Prod.mk.injEq] at H
    obtain ⟨rfl, rfl⟩ := H
    go_enter Try.func11, Try.ntmps11
    go_wp2_with (first | ((with_reducible refine gate_dst (N := 2) rfl ?_); refine bx_ (N := 2) (cs := #[.int .i64 a0_0, .slice A0_1 l0_1.length c0_1, .int .i64 a0_2, .slice A0_3 l0_3.length c0_3]) (t := 28) ?_; intro gb551 hg w50 hbox hb; have BK551 := m_ (hbox); have GW551 := m_ ((by rw [hg]; exact (below_size hb_) : w.heap.size ≤ gb551)); have GE551 := m_ ((by rw [hg]; exact (below_size hb_) : w.heap.size ≤ gb551)); replace HB := m_ (below_step hb_ hb); clear hb hbox hg; have hcz51_0 := bc0_ BK551.out; have hcz51_1 := bc1_ BK551.out; have hcz51_2 := bc2_ BK551.out; have hcz51_3 := bc3_ BK551.out; have hfz51_0 := blk_frozen BK551.out 0; have hfz51_1 := blk_frozen BK551.out 1; have hfz51_2 := blk_frozen BK551.out 2; have hfz51_3 := blk_frozen BK551.out 3) | ((with_reducible refine gate_callee (f := 105) rfl ?_); refine gl_ (some 19) Try.func105 #[.agg #[.int .i64 a0_0, .slice A0_1 l0_1.length c0_1, .int .i64 a0_2, .slice A0_3 l0_3.length c0_3]] ?_; (with_reducible refine (impl_IsCover.calls k a0_0 _ _ l0_1 a0_2 _ _ l0_3 true _ ?side1 ?side2 ?side3 ?side4 A3.out).mono ?_); (case side1 => exact Kd.C_below (Kd.C_below HR0_1.out HB.out) bgo_); (case side2 => exact HC0_1.out); (case side3 => exact Kd.C_below (Kd.C_below HR0_3.out HB.out) bgo_); (case side4 => exact HC0_3.out); rintro e w52 ⟨rfl, hb⟩; refine ⟨_, rfl, ?_⟩; replace BK551 := m_ (bb_ BK551.out hb); replace HB := m_ (below_step hbs_ hb); clear hb) | ((with_reducible refine gate_callee (f := 106) rfl ?_); refine gl_ (some 24) Try.func106 #[.int .i64 (l1.length : Int), .int .i64 1, .int .i64 20] ?_; (with_reducible refine (impl_within.calls (l1.length : Int) 1 20 true _ A5.out).mono ?_); rintro e w' ⟨rfl, ⟨nd, rfl⟩⟩; refine ⟨_, rfl, ?_⟩; have hcz53_0 := bc0_ BK551.out; have hcz53_1 := bc1_ BK551.out; have hcz53_2 := bc2_ BK551.out; have hcz53_3 := bc3_ BK551.out; have hfz53_0 := blk_frozen BK551.out 0; have hfz53_1 := blk_frozen BK551.out 1; have hfz53_2 := blk_frozen BK551.out 2; have hfz53_3 := blk_frozen BK551.out 3) | (go_at_call 107; (with_reducible refine (impl_Graph_areDirected.calls k a0_0 _ _ l0_1 _ _ l1 false _ ?side1 ?side2 ?side3 ?side4 A7.out).mono ?_); (case side1 => exact Kd.C_below (Kd.C_below HR0_1.out hbs_) bgo_); (case side2 => exact HC0_1.out); (case side3 => exact Kd.C_below (Kd.C_below HR1.out hbs_) bgo_); (case side4 => exact HC1.out); rintro e w54 ⟨rfl, hb⟩; replace BK551 := m_ (bb_ BK551.out hb); replace HB := m_ (below_step hbs_ hb); clear hb))
    go_ret2
    exact ⟨_, er_, by first | exact Kd.R_nil _ _ _ _ _ | exact Kd.N_nil _ _ _ _ _ | exact Kd.V_nil _ _ _ _ _ | exact Kd.Q_nil _ _ _ _ _ | exact Kd.S_nil _ _ _ _ _, hbs_⟩
  ·replace c6 := Bool.eq_false_iff.mpr c6
   subst c6
   have H1 : (some (([] : List Int), 2)) = some (r1, r2) := by rw [if_neg (show ¬ (false = true) by decide)] at H; exact H
   clear H
   have H := H1
   clear H1
   simp only [Option.some.injEq, Prod.mk.injEq] at H
   obtain ⟨rfl, rfl⟩ := H
   go_enter Try.func11, Try.ntmps11
   go_wp2_with (first | ((with_reducible refine gate_dst (N := 2) rfl ?_); refine bx_ (N := 2) (cs := #[.int .i64 a0_0, .slice A0_1 l0_1.length c0_1, .int .i64 a0_2, .slice A0_3 l0_3.length c0_3]) (t := 28) ?_; intro gb551 hg w55 hbox hb; have BK551 := m_ (hbox); have GW551 := m_ ((by rw [hg]; exact (below_size hb_) : w.heap.size ≤ gb551)); have GE551 := m_ ((by rw [hg]; exact (below_size hb_) : w.heap.size ≤ gb551)); replace HB := m_ (below_step hb_ hb); clear hb hbox hg; have hcz56_0 := bc0_ BK551.out; have hcz56_1 := bc1_ BK551.out; have hcz56_2 := bc2_ BK551.out; have hcz56_3 := bc3_ BK551.out; have hfz56_0 := blk_frozen BK551.out 0; have hfz56_1 := blk_frozen BK551.out 1; have hfz56_2 := blk_frozen BK551.out 2; have hfz56_3 := blk_frozen BK551.out 3) | ((with_reducible refine gate_callee (f := 105) rfl ?_); refine gl_ (some 19) Try.func105 #[.agg #[.int .i64 a0_0, .slice A0_1 l0_1.length c0_1, .int .i64 a0_2, .slice A0_3 l0_3.length c0_3]] ?_; (with_reducible refine (impl_IsCover.calls k a0_0 _ _ l0_1 a0_2 _ _ l0_3 true _ ?side1 ?side2 ?side3 ?side4 A3.out).mono ?_); (case side1 => exact Kd.C_below (Kd.C_below HR0_1.out HB.out) bgo_); (case side2 => exact HC0_1.out); (case side3 => exact Kd.C_below (Kd.C_below HR0_3.out HB.out) bgo_); (case side4 => exact HC0_3.out); rintro e w57 ⟨rfl, hb⟩; refine ⟨_, rfl, ?_⟩; replace BK551 := m_ (bb_ BK551.out hb); replace HB := m_ (below_step hbs_ hb); clear hb) | ((with_reducible refine gate_callee (f := 106) rfl ?_); refine gl_ (some 24) Try.func106 #[.int .i64 (l1.length : Int), .int .i64 1, .int .i64 20] ?_; (with_reducible refine (impl_within.calls (l1.length : Int) 1 20 false _ A5.out).mono ?_); rintro e w' ⟨rfl, ⟨nd, rfl⟩⟩; refine ⟨_, rfl, ?_⟩))
   go_ret2
   exact ⟨_, er_, by first | exact Kd.R_nil _ _ _ _ _ | exact Kd.N_nil _ _ _ _ _ | exact Kd.V_nil _ _ _ _ _ | exact Kd.Q_nil _ _ _ _ _ | exact Kd.S_nil _ _ _ _ _, hbs_⟩
 ·replace c4 := Bool.eq_false_iff.mpr c4
  subst c4
  have H1 : (some (([] : List Int), 1)) = some (r1, r2) := by rw [if_neg (show ¬ (false = true) by decide)] at H; exact H
  clear H
  have H := H1
  clear H1
  simp only [Option.some.injEq, Prod.mk.injEq] at H
  obtain ⟨rfl, rfl⟩ := H
  go_enter Try.func11, Try.ntmps11
  go_wp2_with (first | ((with_reducible refine gate_dst (N := 2) rfl ?_); refine bx_ (N := 2) (cs := #[.int .i64 a0_0, .slice A0_1 l0_1.length c0_1, .int .i64 a0_2, .slice A0_3 l0_3.length c0_3]) (t := 28) ?_; intro gb551 hg w58 hbox hb; have BK551 := m_ (hbox); have GW551 := m_ ((by rw [hg]; exact (below_size hb_) : w.heap.size ≤ gb551)); have GE551 := m_ ((by rw [hg]; exact (below_size hb_) : w.heap.size ≤ gb551)); replace HB := m_ (below_step hb_ hb); clear hb hbox hg; have hcz59_0 := bc0_ BK551.out; have hcz59_1 := bc1_ BK551.out; have hcz59_2 := bc2_ BK551.out; have hcz59_3 := bc3_ BK551.out; have hfz59_0 := blk_frozen BK551.out 0; have hfz59_1 := blk_frozen BK551.out 1; have hfz59_2 := blk_frozen BK551.out 2; have hfz59_3 := blk_frozen BK551.out 3) | ((with_reducible refine gate_callee (f := 105) rfl ?_); refine gl_ (some 19) Try.func105 #[.agg #[.int .i64 a0_0, .slice A0_1 l0_1.length c0_1, .int .i64 a0_2, .slice A0_3 l0_3.length c0_3]] ?_; (with_reducible refine (impl_IsCover.calls k a0_0 _ _ l0_1 a0_2 _ _ l0_3 false _ ?side1 ?side2 ?side3 ?side4 A3.out).mono ?_); (case side1 => exact Kd.C_below (Kd.C_below HR0_1.out HB.out) bgo_); (case side2 => exact HC0_1.out); (case side3 => exact Kd.C_below (Kd.C_below HR0_3.out HB.out) bgo_); (case side4 => exact HC0_3.out); rintro e w60 ⟨rfl, hb⟩; refine ⟨_, rfl, ?_⟩; replace BK551 := m_ (bb_ BK551.out hb); replace HB := m_ (below_step hbs_ hb); clear hb))
  go_ret2
  exact ⟨_, er_, by first | exact Kd.R_nil _ _ _ _ _ | exact Kd.N_nil _ _ _ _ _ | exact Kd.V_nil _ _ _ _ _ | exact Kd.Q_nil _ _ _ _ _ | exact Kd.S_nil _ _ _ _ _, hbs_⟩

/-! ### spec_l02Directed: function 191 -/
def spec_l02Directed.l0 : Nat → List Int → Int → Int → List (List Int) → Option (Bool)
 | 0, _, _, _, _ => none
 | k + 1, x1, x5, x572000, x572001 => if x5 < (x1.length : Int) then (if 0 ≤ x5 then ((spec_l01In.f (rd x1 x5) 0 (wrap64 ((wrap64 (2 * (x572001.length : Int))) - 1))).bind fun t573 => (if t573 = true then (spec_l02Directed.l0 k x1 (wrap64 (x5 + 1)) x572000 x572001) else (some false))) else (none)) else (some (decide ((x1.length : Int) ≤ 20)))
def spec_l02Directed.f (k : Nat) (a0_0 : Int) (l0_1 : List (List Int)) (l1 : List Int) : Option (Bool) := spec_l02Directed.l0 k l1 0 a0_0 l0_1
set_option maxHeartbeats 8000000 in
set_option maxRecDepth 100000 in
theorem spec_l02Directed.calls (k : Nat) (a0_0 : Int) (A0_1 : Option Addr) (c0_1 : Nat) (l0_1 : List (List Int)) (A1 : Option Addr) (c1 : Nat) (l1 : List Int) (r : Bool) (w : World) (hr0_1 : Kd.C (Kd.slice 2 (Kd.int .i64)) w A0_1 l0_1.length l0_1) (hc0_1 : l0_1.length ≤ c0_1) (hr1 : Kd.C (Kd.int .i64) w A1 l1.length l1) (hc1 : l1.length ≤ c1) (h : spec_l02Directed.f k a0_0 l0_1 l1 = some r) :
  Calls Try.prog 191 #[.agg #[.int .i64 a0_0, .slice A0_1 l0_1.length c0_1], .slice A1 l1.length c1] w fun e w' => e = .returned (.bool r) ∧ Below w.heap.size w w' := by
 have hu26 := Try.underlying26
 have HR0_1 := m_ hr0_1
 have HC0_1 := m_ hc0_1
 clear hr0_1 hc0_1
 have HR1 := m_ hr1
 have HC1 := m_ hc1
 clear hr1 hc1
 have HB := m_ (Below.refl w.heap.size w)
 have H : (spec_l02Directed.l0 k l1 0 a0_0 l0_1) = some r := h
 clear h
 have H' := m_ H
 clear H
 go_enter Try.func191, Try.ntmps191
 go_wp2_with (first | ((with_reducible refine gate_dst (N := 2) rfl ?_); refine bx_ (N := 2) (cs := #[.int .i64 a0_0, .slice A0_1 l0_1.length c0_1]) (t := 26) ?_; intro gb571 hg w3 hbox hb; have BK571 := m_ (hbox); have GW571 := m_ ((by rw [hg]; exact (below_size hb_) : w.heap.size ≤ gb571)); have GE571 := m_ ((by rw [hg]; exact (below_size hb_) : w.heap.size ≤ gb571)); replace HB := m_ (below_step hb_ hb); clear hb hbox hg))
 go_loopg [5] k (fun kq v5 w' => ∃ (x5_1 : Int), v5 = .int .i64 x5_1 ∧ Aside0 (spec_l02Directed.l0 kq l1 x5_1 a0_0 l0_1 = some r) ∧ Aside0 (kq ≤ k) ∧ Aside0 (w'.heap[gb571]? = some (.cells #[.int .i64 a0_0, (.slice A0_1 l0_1.length c0_1)] 26 (0, 0))) ∧ Aside0 (Below w.heap.size w w'))
 case atStart => exact ⟨(0), es_, H', ⟨Nat.le_refl _⟩, ⟨blk_below BK571.out bgo_⟩, ⟨hbs_⟩⟩
 case round =>
  clear H'
  obtain ⟨x5_1, rfl, HA, HK1, BK571, HB⟩ := hrel
  cases gk with
  | zero => exact absurd HA.out (by simp [spec_l02Directed.l0])
  | succ k1 =>
   have H := HA.out
   clear HA
   simp only [spec_l02Directed.l0] at H
   by_cases c4 : x5_1 < (l1.length : Int)
   ·rw [if_pos c4] at H
    have c4b0 := decide_eq_true c4
    clear c4
    obtain ⟨c5, H⟩ := itn_ H
    have c5b0 := decide_eq_true c5
    clear c5
    obtain ⟨t573, A6, H⟩ := bnd_ H
    by_cases c7 : t573 = true
    ·subst c7
     have H1 : (spec_l02Directed.l0 k1 l1 (wrap64 (x5_1 + 1)) a0_0 l0_1) = some r := by rw [if_pos rfl] at H; exact H
     clear H
     have H := H1
     clear H1
     have H' := m_ H
     clear H
     have p572 : 0 ≤ (x5_1 : Int) := od_
     have q572 : x5_1 < (l1.length : Int) := od_
     obtain ⟨ad572, e572, hx572_0⟩ := Kd.at_int HR1.out x5_1 p572 q572
     cases e572
     (try replace hx572_0 := (HB.out.cell (World.block_lt_of_cell? w _ hx572_0)).trans hx572_0)
     replace p572 := eq_true p572
     replace q572 := eq_true q572
     have hcz8_0 := bc0_ BK571.out
     have hcz8_1 := bc1_ BK571.out
     have hfz8_0 := blk_frozen BK571.out 0
     have hfz8_1 := blk_frozen BK571.out 1
     go_wp2
     repeat (go_quiet (first | (go_at_call 150; (with_reducible refine (spec_l01In.calls (rd l1 x5_1) 0 (wrap64 ((wrap64 (2 * (l0_1.length : Int))) - 1)) true _ A6.out).mono ?_); rintro e w' ⟨rfl, ⟨nd, rfl⟩⟩; (try first | exact ⟨rfl, _, World.drewN_drewN _ _ _⟩ | exact ⟨rfl, _, Eq.trans (World.drewN_drewN _ _ _) (congrArg (World.drewN _) (Nat.add_assoc _ _ _))⟩))); try go_wp2)
     go_roundg k1
     case measure => have := HK1.out; omega
     case rel => exact ⟨(wrap64 (x5_1 + 1)), es_, H', ⟨by have := HK1.out; omega⟩, ⟨blk_below BK571.out bgo_⟩, ⟨hbs_⟩⟩
    ·replace c7 := Bool.eq_false_iff.mpr c7
     subst c7
     have H1 : (some false) = some r := by rw [if_neg (show ¬ (false = true) by decide)] at H; exact H
     clear H
     have H := H1
     clear H1
     obtain rfl := Option.some.inj H
     have p572 : 0 ≤ (x5_1 : Int) := od_
     have q572 : x5_1 < (l1.length : Int) := od_
     obtain ⟨ad572, e572, hx572_0⟩ := Kd.at_int HR1.out x5_1 p572 q572
     cases e572
     (try replace hx572_0 := (HB.out.cell (World.block_lt_of_cell? w _ hx572_0)).trans hx572_0)
     replace p572 := eq_true p572
     replace q572 := eq_true q572
     have hcz9_0 := bc0_ BK571.out
     have hcz9_1 := bc1_ BK571.out
     have hfz9_0 := blk_frozen BK571.out 0
     have hfz9_1 := blk_frozen BK571.out 1
     go_wp2
     repeat (go_quiet (first | (go_at_call 150; (with_reducible refine (spec_l01In.calls (rd l1 x5_1) 0 (wrap64 ((wrap64 (2 * (l0_1.length : Int))) - 1)) false _ A6.out).mono ?_); rintro e w' ⟨rfl, ⟨nd, rfl⟩⟩; (try first | exact ⟨rfl, _, World.drewN_drewN _ _ _⟩ | exact ⟨rfl, _, Eq.trans (World.drewN_drewN _ _ _) (congrArg (World.drewN _) (Nat.add_assoc _ _ _))⟩))); try go_wp2)
     go_ret
     exact ⟨er_, hbs_⟩
   ·rw [if_neg c4] at H
    have c4b0 := decide_eq_false c4
    clear c4
    obtain rfl := Option.some.inj H
    go_wp2
    go_ret
    exact ⟨er_, hbs_⟩

/-! ### spec_l04Permutation: function 241 -/
def spec_l04Permutation.l0 : Nat → List Int → Int → Bool → Bool → Bool → Bool → Int → Option Bool
 | 0, _, _, _, _, _, _, _ => none
 | k + 1, x0, x1, m0, m1, m2, m3, x6 => if x6 < (x0.length : Int) then (if 0 ≤ x6 then ((spec_l01In.f (rd x0 x6) 0 (wrap64 (x1 - 1))).bind fun t => (if t = true then (if rd x0 x6 = 0 then (if m0 = true then some false else spec_l04Permutation.l0 k x0 x1 true m1 m2 m3 (wrap64 (x6 + 1))) else (if rd x0 x6 = 1 then (if m1 = true then some false else spec_l04Permutation.l0 k x0 x1 m0 true m2 m3 (wrap64 (x6 + 1))) else (if rd x0 x6 = 2 then (if m2 = true then some false else spec_l04Permutation.l0 k x0 x1 m0 m1 true m3 (wrap64 (x6 + 1))) else (if rd x0 x6 = 3 then (if m3 = true then some false else spec_l04Permutation.l0 k x0 x1 m0 m1 m2 true (wrap64 (x6 + 1))) else none)))) else some false)) else none) else some true
def spec_l04Permutation.f (k : Nat) (l0 : List Int) (a1 : Int) : Option Bool := if (l0.length : Int) = a1 then spec_l04Permutation.l0 k l0 a1 false false false false 0 else some false
set_option maxHeartbeats 8000000 in
set_option maxRecDepth 100000 in
theorem spec_l04Permutation.calls (k : Nat) (A0 : Option Addr) (c0 : Nat) (l0 : List Int) (a1 : Int) (r : Bool) (w : World) (hr0 : Kd.C (Kd.int .i64) w A0 l0.length l0) (hc0 : l0.length ≤ c0) (h : spec_l04Permutation.f k l0 a1 = some r) :
  Calls Try.prog 241 #[.slice A0 l0.length c0, .int .i64 a1] w fun e w' => e = .returned (.bool r) ∧ Below w.heap.size w w' := by
 have HR0 := m_ hr0
 have HC0 := m_ hc0
 clear hr0 hc0
 have HB := m_ (Below.refl w.heap.size w)
 have H : (if (l0.length : Int) = a1 then spec_l04Permutation.l0 k l0 a1 false false false false 0 else some false) = some r := h
 clear h
 by_cases c2 : (l0.length : Int) = a1
 ·rw [if_pos c2] at H
  have c2b0 : ((l0.length : Int) == a1) = true := beq_iff_eq.mpr c2
  have c2b1 : ((l0.length : Int) != a1) = false := bne_eq_false_iff_eq.mpr c2
  clear c2
  have H' := m_ H
  clear H
  go_enter Try.func241, Try.ntmps241
  go_wp2_with (first | ((with_reducible refine gate_dst (N := 5) rfl ?_); refine bx_ (N := 5) (cs := #[.bool false, .bool false, .bool false, .bool false]) (t := 82) ?_; intro gb1 hg w2 hbox hb; have n0_ := m_ (below_step hb_ hb); have n1_ := m_ hbox; have n2_ := m_ ((by rw [hg]; exact (below_size hb_)) : w.heap.size ≤ gb1); clear HB; have HB := n0_; have BK := n1_; have GE := n2_; clear n0_ n1_ n2_ hb hbox hg; have hc0_ : w2.cell? ⟨gb1, 0, none⟩ = some (.bool false) := (blk_cell BK.out 0).trans rfl; have hc1_ : w2.cell? ⟨gb1, 1, none⟩ = some (.bool false) := (blk_cell BK.out 1).trans rfl; have hc2_ : w2.cell? ⟨gb1, 2, none⟩ = some (.bool false) := (blk_cell BK.out 2).trans rfl; have hc3_ : w2.cell? ⟨gb1, 3, none⟩ = some (.bool false) := (blk_cell BK.out 3).trans rfl; have hf0_ := blk_frozen BK.out 0; have hf1_ := blk_frozen BK.out 1; have hf2_ := blk_frozen BK.out 2; have hf3_ := blk_frozen BK.out 3))
  go_loopg [6] k (fun kq v6 w' => ∃ (m0_ m1_ m2_ m3_ : Bool) (x6 : Int), v6 = .int .i64 x6 ∧ Aside0 (spec_l04Permutation.l0 kq l0 a1 m0_ m1_ m2_ m3_ x6 = some r) ∧ Aside0 (kq ≤ k) ∧ Aside0 (w'.heap[gb1]? = some (.cells #[.bool m0_, .bool m1_, .bool m2_, .bool m3_] 82 (0, 0))) ∧ Aside0 (Below w.heap.size w w'))
  case atStart => exact ⟨false, false, false, false, 0, rfl, H', ⟨Nat.le_refl _⟩, ⟨by simpa using blk_set (blk_set (blk_set (blk_set BK.out 0 (.bool false)) 1 (.bool false)) 2 (.bool false)) 3 (.bool false)⟩, ⟨(by repeat (first | (with_reducible first | exact HB.out | apply below_alloc | apply pw_below_drewN | apply below_drew1 | refine below_set ?_ GE.out) | exact HB.out))⟩⟩
  case round =>
   clear H'
   try clear hc0_ hc1_ hc2_ hc3_ hf0_ hf1_ hf2_ hf3_
   try clear c2b0 c2b1
   obtain ⟨m0_, m1_, m2_, m3_, x6, rfl, HA, HK1, BK, HB⟩ := hrel
   cases gk with
   | zero => exact absurd HA.out (by simp [spec_l04Permutation.l0])
   | succ k1 =>
    have H := HA.out
    clear HA
    simp only [spec_l04Permutation.l0] at H
    by_cases c3 : x6 < (l0.length : Int)
    ·rw [if_pos c3] at H
     have c3b0 := decide_eq_true c3
     clear c3
     obtain ⟨c4, H⟩ := itn_ H
     have c4b0 := decide_eq_true c4
     clear c4
     replace H := Option.bind_eq_some_iff.mp H
     obtain ⟨t3, A30, H⟩ := H
     have A3 := m_ A30
     clear A30
     have p1 : 0 ≤ (x6 : Int) := od_
     have q1 : x6 < (l0.length : Int) := od_
     obtain ⟨ad1, e1, hx⟩ := Kd.at_int HR0.out x6 p1 q1
     cases e1
     replace hx := (HB.out.cell (World.block_lt_of_cell? w _ hx)).trans hx
     replace p1 := eq_true p1
     replace q1 := eq_true q1
     have hc0_ := (blk_cell BK.out 0).trans (show #[Value.bool m0_, Value.bool m1_, Value.bool m2_, Value.bool m3_][0]? = some (Value.bool m0_) from rfl)
     have hc1_ := (blk_cell BK.out 1).trans (show #[Value.bool m0_, Value.bool m1_, Value.bool m2_, Value.bool m3_][1]? = some (Value.bool m1_) from rfl)
     have hc2_ := (blk_cell BK.out 2).trans (show #[Value.bool m0_, Value.bool m1_, Value.bool m2_, Value.bool m3_][2]? = some (Value.bool m2_) from rfl)
     have hc3_ := (blk_cell BK.out 3).trans (show #[Value.bool m0_, Value.bool m1_, Value.bool m2_, Value.bool m3_][3]? = some (Value.bool m3_) from rfl)
     have hf0_ := blk_frozen BK.out 0
     have hf1_ := blk_frozen BK.out 1
     have hf2_ := blk_frozen BK.out 2
     have hf3_ := blk_frozen BK.out 3
     by_cases c5 : t3 = true
     ·subst c5
      rw [if_pos rfl] at H
      by_cases v0 : rd l0 x6 = 0
      ·rw [if_pos v0] at H
       rw [v0] at A3 hx
       clear v0
       cases m0_ with
       | true =>
        rw [if_pos rfl] at H
        obtain rfl := Option.some.inj H
        go_wp2_with (first | ((with_reducible refine gate_callee (f := 150) rfl ?_); refine goesL_ (some 24) rfl rfl Try.func150 (by kernel_rfl) rfl #[.int .i64 (0), .int .i64 0, .int .i64 (wrap64 (a1 - 1))] rfl (by (try simp only [List.map_toArray, List.map_cons, List.map_nil, i64_w]); first | done | rfl) ?_; (with_reducible refine (spec_l01In.calls (0) 0 (wrap64 (a1 - 1)) true _ A3.out).mono ?_); rintro e w' ⟨rfl, ⟨nd, rfl⟩⟩; refine ⟨_, rfl, ?_⟩))
        go_ret
        exact ⟨rfl, (by repeat (first | (with_reducible first | exact HB.out | apply below_alloc | apply pw_below_drewN | apply below_drew1 | refine below_set ?_ GE.out) | exact HB.out))⟩
       | false =>
        rw [if_neg (by decide)] at H
        have H' := m_ H
        clear H
        go_wp2_with (first | ((with_reducible refine gate_callee (f := 150) rfl ?_); refine goesL_ (some 24) rfl rfl Try.func150 (by kernel_rfl) rfl #[.int .i64 (0), .int .i64 0, .int .i64 (wrap64 (a1 - 1))] rfl (by (try simp only [List.map_toArray, List.map_cons, List.map_nil, i64_w]); first | done | rfl) ?_; (with_reducible refine (spec_l01In.calls (0) 0 (wrap64 (a1 - 1)) true _ A3.out).mono ?_); rintro e w' ⟨rfl, ⟨nd, rfl⟩⟩; refine ⟨_, rfl, ?_⟩))
        go_roundg k1
        case measure => have := HK1.out; omega
        case rel => exact ⟨true, m1_, m2_, m3_, wrap64 (x6 + 1), rfl, H', ⟨by have := HK1.out; omega⟩, ⟨blk_set (blk_drewN BK.out _) 0 (.bool true)⟩, ⟨(by repeat (first | (with_reducible first | exact HB.out | apply below_alloc | apply pw_below_drewN | apply below_drew1 | refine below_set ?_ GE.out) | exact HB.out))⟩⟩
      ·rw [if_neg v0] at H
       clear v0
       by_cases v1 : rd l0 x6 = 1
       ·rw [if_pos v1] at H
        rw [v1] at A3 hx
        clear v1
        cases m1_ with
        | true =>
         rw [if_pos rfl] at H
         obtain rfl := Option.some.inj H
         go_wp2_with (first | ((with_reducible refine gate_callee (f := 150) rfl ?_); refine goesL_ (some 24) rfl rfl Try.func150 (by kernel_rfl) rfl #[.int .i64 (1), .int .i64 0, .int .i64 (wrap64 (a1 - 1))] rfl (by (try simp only [List.map_toArray, List.map_cons, List.map_nil, i64_w]); first | done | rfl) ?_; (with_reducible refine (spec_l01In.calls (1) 0 (wrap64 (a1 - 1)) true _ A3.out).mono ?_); rintro e w' ⟨rfl, ⟨nd, rfl⟩⟩; refine ⟨_, rfl, ?_⟩))
         go_ret
         exact ⟨rfl, (by repeat (first | (with_reducible first | exact HB.out | apply below_alloc | apply pw_below_drewN | apply below_drew1 | refine below_set ?_ GE.out) | exact HB.out))⟩
        | false =>
         rw [if_neg (by decide)] at H
         have H' := m_ H
         clear H
         go_wp2_with (first | ((with_reducible refine gate_callee (f := 150) rfl ?_); refine goesL_ (some 24) rfl rfl Try.func150 (by kernel_rfl) rfl #[.int .i64 (1), .int .i64 0, .int .i64 (wrap64 (a1 - 1))] rfl (by (try simp only [List.map_toArray, List.map_cons, List.map_nil, i64_w]); first | done | rfl) ?_; (with_reducible refine (spec_l01In.calls (1) 0 (wrap64 (a1 - 1)) true _ A3.out).mono ?_); rintro e w' ⟨rfl, ⟨nd, rfl⟩⟩; refine ⟨_, rfl, ?_⟩))
         go_roundg k1
         case measure => have := HK1.out; omega
         case rel => exact ⟨m0_, true, m2_, m3_, wrap64 (x6 + 1), rfl, H', ⟨by have := HK1.out; omega⟩, ⟨blk_set (blk_drewN BK.out _) 1 (.bool true)⟩, ⟨(by repeat (first | (with_reducible first | exact HB.out | apply below_alloc | apply pw_below_drewN | apply below_drew1 | refine below_set ?_ GE.out) | exact HB.out))⟩⟩
       ·rw [if_neg v1] at H
        clear v1
        by_cases v2 : rd l0 x6 = 2
        ·rw [if_pos v2] at H
         rw [v2] at A3 hx
         clear v2
         cases m2_ with
         | true =>
          rw [if_pos rfl] at H
          obtain rfl := Option.some.inj H
          go_wp2_with (first | ((with_reducible refine gate_callee (f := 150) rfl ?_); refine goesL_ (some 24) rfl rfl Try.func150 (by kernel_rfl) rfl #[.int .i64 (2), .int .i64 0, .int .i64 (wrap64 (a1 - 1))] rfl (by (try simp only [List.map_toArray, List.map_cons, List.map_nil, i64_w]); first | done | rfl) ?_; (with_reducible refine (spec_l01In.calls (2) 0 (wrap64 (a1 - 1)) true _ A3.out).mono ?_); rintro e w' ⟨rfl, ⟨nd, rfl⟩⟩; refine ⟨_, rfl, ?_⟩))
          go_ret
          exact ⟨rfl, (by repeat (first | (with_reducible first | exact HB.out | apply below_alloc | apply pw_below_drewN | apply below_drew1 | refine below_set ?_ GE.out) | exact HB.out))⟩
         | false =>
          rw [if_neg (by decide)] at H
          have H' := m_ H
          clear H
          go_wp2_with (first | ((with_reducible refine gate_callee (f := 150) rfl ?_); refine goesL_ (some 24) rfl rfl Try.func150 (by kernel_rfl) rfl #[.int .i64 (2), .int .i64 0, .int .i64 (wrap64 (a1 - 1))] rfl (by (try simp only [List.map_toArray, List.map_cons, List.map_nil, i64_w]); first | done | rfl) ?_; (with_reducible refine (spec_l01In.calls (2) 0 (wrap64 (a1 - 1)) true _ A3.out).mono ?_); rintro e w' ⟨rfl, ⟨nd, rfl⟩⟩; refine ⟨_, rfl, ?_⟩))
          go_roundg k1
          case measure => have := HK1.out; omega
          case rel => exact ⟨m0_, m1_, true, m3_, wrap64 (x6 + 1), rfl, H', ⟨by have := HK1.out; omega⟩, ⟨blk_set (blk_drewN BK.out _) 2 (.bool true)⟩, ⟨(by repeat (first | (with_reducible first | exact HB.out | apply below_alloc | apply pw_below_drewN | apply below_drew1 | refine below_set ?_ GE.out) | exact HB.out))⟩⟩
        ·rw [if_neg v2] at H
         clear v2
         by_cases v3 : rd l0 x6 = 3
         ·rw [if_pos v3] at H
          rw [v3] at A3 hx
          clear v3
          cases m3_ with
          | true =>
           rw [if_pos rfl] at H
           obtain rfl := Option.some.inj H
           go_wp2_with (first | ((with_reducible refine gate_callee (f := 150) rfl ?_); refine goesL_ (some 24) rfl rfl Try.func150 (by kernel_rfl) rfl #[.int .i64 (3), .int .i64 0, .int .i64 (wrap64 (a1 - 1))] rfl (by (try simp only [List.map_toArray, List.map_cons, List.map_nil, i64_w]); first | done | rfl) ?_; (with_reducible refine (spec_l01In.calls (3) 0 (wrap64 (a1 - 1)) true _ A3.out).mono ?_); rintro e w' ⟨rfl, ⟨nd, rfl⟩⟩; refine ⟨_, rfl, ?_⟩))
           go_ret
           exact ⟨rfl, (by repeat (first | (with_reducible first | exact HB.out | apply below_alloc | apply pw_below_drewN | apply below_drew1 | refine below_set ?_ GE.out) | exact HB.out))⟩
          | false =>
           rw [if_neg (by decide)] at H
           have H' := m_ H
           clear H
           go_wp2_with (first | ((with_reducible refine gate_callee (f := 150) rfl ?_); refine goesL_ (some 24) rfl rfl Try.func150 (by kernel_rfl) rfl #[.int .i64 (3), .int .i64 0, .int .i64 (wrap64 (a1 - 1))] rfl (by (try simp only [List.map_toArray, List.map_cons, List.map_nil, i64_w]); first | done | rfl) ?_; (with_reducible refine (spec_l01In.calls (3) 0 (wrap64 (a1 - 1)) true _ A3.out).mono ?_); rintro e w' ⟨rfl, ⟨nd, rfl⟩⟩; refine ⟨_, rfl, ?_⟩))
           go_roundg k1
           case measure => have := HK1.out; omega
           case rel => exact ⟨m0_, m1_, m2_, true, wrap64 (x6 + 1), rfl, H', ⟨by have := HK1.out; omega⟩, ⟨blk_set (blk_drewN BK.out _) 3 (.bool true)⟩, ⟨(by repeat (first | (with_reducible first | exact HB.out | apply below_alloc | apply pw_below_drewN | apply below_drew1 | refine below_set ?_ GE.out) | exact HB.out))⟩⟩
         ·rw [if_neg v3] at H
          clear v3
          exact absurd H (by simp)
     ·replace c5 := Bool.eq_false_iff.mpr c5
      subst c5
      rw [if_neg (by decide)] at H
      obtain rfl := Option.some.inj H
      go_wp2_with (first | ((with_reducible refine gate_callee (f := 150) rfl ?_); refine goesL_ (some 24) rfl rfl Try.func150 (by kernel_rfl) rfl #[.int .i64 (rd l0 x6), .int .i64 0, .int .i64 (wrap64 (a1 - 1))] rfl (by (try simp only [List.map_toArray, List.map_cons, List.map_nil, i64_w]); first | done | rfl) ?_; (with_reducible refine (spec_l01In.calls (rd l0 x6) 0 (wrap64 (a1 - 1)) false _ A3.out).mono ?_); rintro e w' ⟨rfl, ⟨nd, rfl⟩⟩; refine ⟨_, rfl, ?_⟩))
      go_ret
      exact ⟨rfl, (by repeat (first | (with_reducible first | exact HB.out | apply below_alloc | apply pw_below_drewN | apply below_drew1 | refine below_set ?_ GE.out) | exact HB.out))⟩
    ·rw [if_neg c3] at H
     have c3b0 := decide_eq_false c3
     clear c3
     obtain rfl := Option.some.inj H
     go_wp2
     go_ret
     exact ⟨rfl, (by repeat (first | (with_reducible first | exact HB.out | apply below_alloc | apply pw_below_drewN | apply below_drew1 | refine below_set ?_ GE.out) | exact HB.out))⟩
 ·rw [if_neg c2] at H
  have c2b0 : ((l0.length : Int) == a1) = false := beq_eq_false_iff_ne.mpr c2
  have c2b1 : ((l0.length : Int) != a1) = true := bne_iff_ne.mpr c2
  clear c2
  obtain rfl := Option.some.inj H
  go_enter Try.func241, Try.ntmps241
  go_wp2_with (first | ((with_reducible refine gate_dst (N := 5) rfl ?_); refine bx_ (N := 5) (cs := #[.bool false, .bool false, .bool false, .bool false]) (t := 82) ?_; intro gb1 hg w2 hbox hb; have n0_ := m_ (below_step hb_ hb); have n1_ := m_ hbox; have n2_ := m_ ((by rw [hg]; exact (below_size hb_)) : w.heap.size ≤ gb1); clear HB; have HB := n0_; have BK := n1_; have GE := n2_; clear n0_ n1_ n2_ hb hbox hg; have hc0_ : w2.cell? ⟨gb1, 0, none⟩ = some (.bool false) := (blk_cell BK.out 0).trans rfl; have hc1_ : w2.cell? ⟨gb1, 1, none⟩ = some (.bool false) := (blk_cell BK.out 1).trans rfl; have hc2_ : w2.cell? ⟨gb1, 2, none⟩ = some (.bool false) := (blk_cell BK.out 2).trans rfl; have hc3_ : w2.cell? ⟨gb1, 3, none⟩ = some (.bool false) := (blk_cell BK.out 3).trans rfl; have hf0_ := blk_frozen BK.out 0; have hf1_ := blk_frozen BK.out 1; have hf2_ := blk_frozen BK.out 2; have hf3_ := blk_frozen BK.out 3))
  go_ret
  exact ⟨rfl, (by repeat (first | (with_reducible first | exact HB.out | apply below_alloc | apply pw_below_drewN | apply below_drew1 | refine below_set ?_ GE.out) | exact HB.out))⟩

end Go.Proofs.Ytkadhadceongiaa.G
