/- The printed functions that this law reaches, and their contracts: part 4. -/
-- printed by this repo's wip/printer out of the kit's print with its own changes
import Derived.Test.YtipigagbgpoecaaC3
namespace Go.Proofs.Ytipigagbgpoecaa.G
open Go.RowKit Go.Proofs.YtipigagbgpoecaaW.PrintWords Go.Proofs.YtipigagbgpoecaaW.PrintLast Go.Proofs.YtipigagbgpoecaaW.PrintMore
attribute [local go_sem] max2_int min2_int max_two min_two max_three min_three max_four min_four   -- for this text's walks alone
set_option linter.unusedVariables false
set_option linter.unusedSimpArgs false

/-! ### spec_l03Closed: function 111 -/
def spec_l03Closed.f (a0_0 : Int) (l0_1 : List (List Int)) (l1 : List Int) : Option (Bool) := if 0 ≤ (wrap64 ((l1.length : Int) - 1)) then (if (wrap64 ((l1.length : Int) - 1)) < (l1.length : Int) then (if 0 < (l1.length : Int) then ((spec_l03Next.f a0_0 l0_1 (rd l1 (wrap64 ((l1.length : Int) - 1))) (rd l1 0)).bind fun t418 => (some t418)) else (none)) else (none)) else (none)
def spec_l03Closed.T1 : Bool × List (List Nat × List Nat) := (true, [([], []), ([], []), ([], []), ([2], [2]), ([3], [3]), ([1, 4], [1, 4]), ([5], [5]), ([], []), ([7], [7]), ([8], [8]), ([0, 6, 9], [0, 6, 9]), ([10, 10, 0, 1, 2, 3, 4, 5, 6, 7, 8, 9, 10], [10])])
def spec_l03Closed.B1 : List Nat := [0, 0, 0, 4, 12, 30, 62, 0, 128, 384, 1023, 2047]
theorem spec_l03Closed.tab1 : rtab .any (opsOf Try.f111 1) = spec_l03Closed.T1 := by kernel_rfl
theorem spec_l03Closed.bits1 : waitsOk spec_l03Closed.T1.2 spec_l03Closed.B1 = true := by kernel_rfl
set_option maxHeartbeats 8000000 in
set_option maxRecDepth 100000 in
theorem spec_l03Closed.calls (a0_0 : Int) (A0_1 : Option Addr) (c0_1 : Nat) (l0_1 : List (List Int)) (A1 : Option Addr) (c1 : Nat) (l1 : List Int) (r : Bool) (w : World) (hr0_1 : Kd.C (Kd.slice 2 (Kd.int .i64)) w A0_1 l0_1.length l0_1) (hc0_1 : l0_1.length ≤ c0_1) (hr1 : Kd.C (Kd.int .i64) w A1 l1.length l1) (hc1 : l1.length ≤ c1) (h : spec_l03Closed.f a0_0 l0_1 l1 = some r) :
  Calls Try.prog 111 #[.agg #[.int .i64 a0_0, .slice A0_1 l0_1.length c0_1], .slice A1 l1.length c1] w fun e w' => e = .returned (.bool r) ∧ Below w.heap.size w w' := by
 have hu29 := Try.underlying29
 have HR0_1 := Aside0.mk hr0_1
 have HC0_1 := Aside0.mk hc0_1
 clear hr0_1 hc0_1
 have HR1 := Aside0.mk hr1
 have HC1 := Aside0.mk hc1
 clear hr1 hc1
 have HB := Aside0.mk (Below.refl w.heap.size w)
 have H : (if 0 ≤ (wrap64 ((l1.length : Int) - 1)) then (if (wrap64 ((l1.length : Int) - 1)) < (l1.length : Int) then (if 0 < (l1.length : Int) then ((spec_l03Next.f a0_0 l0_1 (rd l1 (wrap64 ((l1.length : Int) - 1))) (rd l1 0)).bind fun t418 => (some t418)) else (none)) else (none)) else (none)) = some r := h
 clear h
 obtain ⟨ji3, hji3⟩ : ∃ j_ : Int, (wrap64 ((l1.length : Int) - 1)) = j_ := ⟨_, rfl⟩
 (try rw [hji3])
 replace H : (if 0 ≤ (ji3) then (if (ji3) < (l1.length : Int) then (if 0 < (l1.length : Int) then ((spec_l03Next.f a0_0 l0_1 (rd l1 (ji3)) (rd l1 0)).bind fun t418 => (some t418)) else (none)) else (none)) else (none)) = some r := by first | (rw [hji3] at H; exact H) | (simp only [hji3] at H ⊢; exact H)
 have hji3w : (IntKind.i64.wrap ((l1.length : Int) - 1)) = ji3 := (i64_w _).trans hji3
 by_cases c4 : 0 ≤ (ji3)
 ·rw [if_pos c4] at H
  have c4b0 := decide_eq_true c4
  clear c4
  obtain ⟨c5, H⟩ := itn_ H
  have c5b0 := decide_eq_true c5
  clear c5
  obtain ⟨c6, H⟩ := itn_ H
  have c6b0 := decide_eq_true c6
  have c6b1 : decide (0 < l1.length) = true := decide_eq_true (by omega)
  clear c6
  obtain ⟨t418, A7, H⟩ := bnd_ H
  obtain rfl := Option.some.inj H
  go_enter Try.func111, Try.ntmps111
  try go_wp2_with (first | ((with_reducible refine gate_dst (N := 2) rfl ?_); refine box_event ?hg (N := 2) ?hd (cs := #[.int .i64 a0_0, .slice A0_1 l0_1.length c0_1]) (t := 29) ?hr ?_; (case hd => rfl); (case hg => rfl); (case hr => first | (go_simp; done) | (go_simp; rfl)); intro gb415 hg w8 hbox hb; have BK415 := Aside0.mk (hbox); have GW415 := Aside0.mk ((by rw [hg]; exact (below_size hb_) : w.heap.size ≤ gb415)); have GE415 := Aside0.mk ((by rw [hg]; exact (below_size hb_) : w.heap.size ≤ gb415)); replace HB := Aside0.mk (below_step hb_ hb); clear hb hbox hg))
  have n0_ := Aside0.mk (blk_drew BK415.out)
  have n1_ := Aside0.mk (below_drew1 HB.out)
  clear BK415
  clear HB
  have BK415 := n0_
  have HB := n1_
  clear n0_ n1_
  have p416 : 0 ≤ ((ji3) : Int) := od_
  have q416 : (ji3) < (l1.length : Int) := od_
  obtain ⟨ad416, e416, hx416_0⟩ := Kd.at_int HR1.out (ji3) p416 q416
  have hw416_0 := hx416_0
  cases e416
  (try replace hx416_0 := (HB.out.cell (World.block_lt_of_cell? w _ hx416_0)).trans hx416_0)
  replace p416 := eq_true p416
  replace q416 := eq_true q416
  have p417 : 0 ≤ (0 : Int) := (by omega)
  have q417 : 0 < (l1.length : Int) := od_
  obtain ⟨ad417, e417, hx417_0⟩ := Kd.at_int HR1.out 0 p417 q417
  have hw417_0 := hx417_0
  (try rw [show ((0 : Int)).toNat = 0 from rfl] at hw417_0)
  (try rw [show 0 * 1 = 0 from rfl] at hw417_0)
  (try rw [Addr.add_zero'] at hw417_0)
  obtain rfl : ad416 = ad417 := (by injection e417)
  have qi417 : (0 < l1.length) = True := eq_true (by omega)
  (try rw [show ((0 : Int)).toNat = 0 from rfl] at hx417_0)
  (try rw [Addr.add_zero'] at hx417_0)
  (try replace hx417_0 := (HB.out.cell (World.block_lt_of_cell? w _ hx417_0)).trans hx417_0)
  replace p417 := eq_true p417
  replace q417 := eq_true q417
  refine start_ (n := 12) (S := fun w' => w'.cell? ⟨gb415, 0, none⟩ = some (.int .i64 a0_0) ∧ w'.cell? ⟨gb415, 1, none⟩ = some (.slice A0_1 l0_1.length c0_1) ∧ w'.cell? (ad416.add ((ji3)).toNat) = some (.int .i64 (rd l1 (ji3))) ∧ w'.cell? ad416 = some (.int .i64 (rd l1 0))) (ds := []) #[false, false, false, false, false, false, false, false, false, false, false, false] (by kernel_rfl) rfl rfl ⟨(blk_cell BK415.out 0).trans rfl, (blk_cell BK415.out 1).trans rfl, ((HB.out.cell (World.block_lt_of_cell? _ _ hw416_0)).trans hw416_0), ((HB.out.cell (World.block_lt_of_cell? _ _ hw417_0)).trans hw417_0)⟩ (fun hHeld => ?_); refine with_tabW spec_l03Closed.tab1 spec_l03Closed.bits1 (fun HT_ HW_ => ?_)
  generalize w8.drew = w9 at BK415 HB hx416_0 hx417_0 hHeld ⊢
  refine pk_ 1 12 6 2 ?_
  refine pk_ 2 12 7 6 ?_
  refine pk_ 3 12 8 14 ?_
  refine pk_ 4 12 9 30 ?_
  refine pk_ 5 12 10 62 ?_
  refine pk_ 7 12 12 190 ?_
  refine pk_ 8 12 13 446 ?_
  refine tk_ 0 12 5 447 hHeld ?_
  refine tk_ 6 12 11 511 hHeld ?_
  refine tk_ 9 12 14 1023 hHeld ?_
  refine one_ (i := 10) (N := some 15) #[true, true, true, true, true, true, true, true, true, true, true, false] rfl rfl (one_of HT_.out (by kernel_rfl)) (by decide) (fun K hK => ?_)
  refine goes_ Try.func102 (by kernel_rfl) rfl #[.agg #[.int .i64 a0_0, .slice A0_1 l0_1.length c0_1], .int .i64 (rd l1 (ji3)), .int .i64 (rd l1 0)] (by rfl) rfl rfl (by (try simp only [List.map_toArray, List.map_cons, List.map_nil]); first | done | (simp only [hji3]; rfl) | rfl | (simp only [List.length_drop, List.length_take]; rfl)) ?_
  with_reducible refine (spec_l03Next.calls a0_0 _ _ l0_1 (rd l1 (ji3)) (rd l1 0) t418 _ ?side1 ?side2 A7.out).mono ?_
  (case side1 => exact Kd.C_below (Kd.C_below HR0_1.out HB.out) bgo_)
  (case side2 => exact HC0_1.out)
  rintro e w10 ⟨rfl, hb⟩
  refine ⟨_, rfl, ?_⟩
  have n0_ := Aside0.mk (blk_below (g := gb415) (o := .cells #[.int .i64 a0_0, .slice A0_1 l0_1.length c0_1] 29 (0, 0)) (blk_below BK415.out bgo_) hb)
  have n1_ := Aside0.mk (below_step hbs_ hb)
  clear BK415
  clear HB
  have BK415 := n0_
  have HB := n1_
  clear n0_ n1_
  (try clear hb)
  (try clear hb2)
  (try clear hk)
  (try clear hi)
  refine hK.out _ _ ⟨(blk_cell BK415.out 0).trans rfl, (blk_cell BK415.out 1).trans rfl, ((HB.out.cell (World.block_lt_of_cell? _ _ hw416_0)).trans hw416_0), ((HB.out.cell (World.block_lt_of_cell? _ _ hw417_0)).trans hw417_0)⟩ (fun hHeld => ?_)
  clear hK K
  refine norm_ (a' := ?_) ?_ ?_
  rotate_left
  ·show Act.put _ (some 15) _ = _
   simp only [Act.put, nf_]
   rfl
  refine pk_ 11 12 4 4095 ?_
  refine done_ (done_of HT_.out (by kernel_rfl)) ?_
  try go_wp2
  go_ret
  exact ⟨by first | rfl | (simp [errW_none, errW_some] <;> rfl) | (simp only [← hji3]; first | rfl | (simp [errW_none, errW_some] <;> rfl)) | (simp [*, errW_none, errW_some] <;> rfl), hbs_⟩
 ·rw [if_neg c4] at H
  exact absurd H (by simp)

/-! ### spec_l03Turn: function 112 -/
def spec_l03Turn.f (l0 : List Int) (a1 : Int) : Option (List Int) := if 0 ≤ a1 then (if a1 ≤ (l0.length : Int) then ((spec_l01Own.f (l0.drop (a1 : Int).toNat)).bind fun t420 => (if t420.length + (l0.take (a1 : Int).toNat).length < 17592186044416 then (some (t420 ++ (l0.take (a1 : Int).toNat))) else (none))) else (none)) else (none)
def spec_l03Turn.T1 : Bool × List (List Nat × List Nat) := (true, [([], []), ([], []), ([0, 1], [0, 1]), ([2], [2]), ([], []), ([], []), ([4, 5], [4, 5]), ([3, 6, 3], [3, 6]), ([7, 7, 0, 1, 2, 3, 4, 5, 6, 7], [7])])
def spec_l03Turn.B1 : List Nat := [0, 0, 3, 7, 0, 0, 48, 127, 255]
theorem spec_l03Turn.tab1 : rtab .any (opsOf Try.f112 1) = spec_l03Turn.T1 := by kernel_rfl
theorem spec_l03Turn.bits1 : waitsOk spec_l03Turn.T1.2 spec_l03Turn.B1 = true := by kernel_rfl
set_option maxHeartbeats 8000000 in
set_option maxRecDepth 100000 in
theorem spec_l03Turn.calls (A0 : Option Addr) (c0 : Nat) (l0 : List Int) (a1 : Int) (r : List Int) (w : World) (hr0 : Kd.C (Kd.int .i64) w A0 l0.length l0) (hc0 : l0.length ≤ c0) (h : spec_l03Turn.f l0 a1 = some r) :
  Calls Try.prog 112 #[.slice A0 l0.length c0, .int .i64 a1] w fun e w' => ∃ v0_ : Value, e = .returned (v0_) ∧ Kd.R (Kd.int .i64) 2 w' w.heap.size (fun _ => True) v0_ r ∧ Below w.heap.size w w' := by
 have HR0 := Aside0.mk hr0
 have HC0 := Aside0.mk hc0
 clear hr0 hc0
 have HB := Aside0.mk (Below.refl w.heap.size w)
 have H : (if 0 ≤ a1 then (if a1 ≤ (l0.length : Int) then ((spec_l01Own.f (l0.drop (a1 : Int).toNat)).bind fun t420 => (if t420.length + (l0.take (a1 : Int).toNat).length < 17592186044416 then (some (t420 ++ (l0.take (a1 : Int).toNat))) else (none))) else (none)) else (none)) = some r := h
 clear h
 by_cases c3 : 0 ≤ a1
 ·rw [if_pos c3] at H
  have c3b0 := eq_true c3
  have c3b1 := decide_eq_true c3
  clear c3
  obtain ⟨c4, H⟩ := itn_ H
  have c4b0 := eq_true c4
  have c4b1 := decide_eq_true c4
  clear c4
  obtain ⟨t420, A5, H⟩ := bnd_ H
  have c6b0 := eq_true (od_ : 0 ≤ a1)
  have c7b0 := eq_true (od_ : a1 ≤ (l0.length : Int))
  obtain ⟨c8, H⟩ := itn_ H
  have LMc8 := Aside0.mk c8
  clear c8
  obtain ⟨y424, Ny424, H⟩ : ∃ y424 : List Int, Aside0 (y424 = (t420 ++ (l0.take (a1 : Int).toNat))) ∧ (some y424) = some r := ⟨_, ⟨rfl⟩, H⟩
  obtain rfl := Option.some.inj H
  go_enter Try.func112, Try.ntmps112
  try go_wp2
  have n0_ := Aside0.mk (below_drew1 HB.out)
  clear HB
  have HB := n0_
  clear n0_
  obtain ⟨i010, hi010, _, hsz10, _⟩ := info_parts info2
  obtain ⟨A10, hcut10, hA10, hC10⟩ := print_drop_of (P := Try.prog) (Value.int .i64) 0 26 2 .i64 Try.underlying26 hi010 hsz10 A0 c0 l0 a1 (od_) (od_) HC0.out
  have HR419 := Aside0.mk (Kd.C_of_reads (h1 := fun _ => rfl) (hA10 _ (Kd.reads_of_C HR0.out)))
  have HC419 := Aside0.mk hC10
  clear hA10 hC10 hi010 hsz10
  obtain ⟨i011, hi011, _, hsz11, _⟩ := info_parts info2
  obtain ⟨hcut11, hA11, hC11⟩ := print_take_of (P := Try.prog) (Value.int .i64) 0 26 2 .i64 Try.underlying26 hi011 hsz11 A0 c0 l0 a1 (od_) (od_) HC0.out
  have HR423 := Aside0.mk (Kd.C_of_reads (h1 := fun _ => rfl) (hA11 _ (Kd.reads_of_C HR0.out)))
  have HC423 := Aside0.mk hC11
  clear hA11 hC11 hi011 hsz11
  refine start_ (n := 9) (S := fun w' => True) (ds := []) #[false, false, false, false, false, false, false, false, false] (by kernel_rfl) rfl rfl trivial (fun hHeld => ?_); refine with_tabW spec_l03Turn.tab1 spec_l03Turn.bits1 (fun HT_ HW_ => ?_)
  generalize w.drew = w9 at HB HR419 HR423 hHeld ⊢
  refine pk_ 0 9 5 1 ?_
  refine pk_ 1 9 6 3 ?_
  refine pk_ 2 9 7 7 ?_
  refine pk_ 4 9 9 23 ?_
  refine pk_ 5 9 10 55 ?_
  refine pk_ 6 9 11 119 ?_
  refine one_ (i := 3) (N := some 8) #[true, true, true, true, true, true, true, false, false] rfl rfl (one_of HT_.out (by kernel_rfl)) (by decide) (fun K hK => ?_)
  refine goes_ Try.func42 (by kernel_rfl) rfl #[.slice A10 (l0.drop (a1 : Int).toNat).length (c0 - a1.toNat)] (by rfl) rfl rfl (by (try simp only [List.map_toArray, List.map_cons, List.map_nil]); first | done | (rw [show (l0.drop (a1 : Int).toNat).length = (l0.length - a1.toNat) from List.length_drop] <;> rfl) | rfl | (simp only [List.length_drop, List.length_take]; rfl)) ?_
  with_reducible refine (spec_l01Own.calls _ _ (l0.drop (a1 : Int).toNat) t420 _ ?side1 ?side2 A5.out).mono ?_
  (case side1 => exact Kd.C_below (Kd.C_below HR419.out HB.out) bgo_)
  (case side2 => exact HC419.out)
  rintro e w12 ⟨v421, rfl, ho0, hb⟩
  refine ⟨_, rfl, ?_⟩
  have n0_ := Aside0.mk (Kd.R_lower ho0 (below_size hb_))
  have n1_ := Aside0.mk (below_step hb_ hb)
  clear HB
  have HO422 := n0_
  have HB := n1_
  clear n0_ n1_
  (try clear hb)
  (try clear hb2)
  (try clear hk)
  (try clear hi)
  (try clear ho0)
  refine hK.out _ _ trivial (fun hHeld => ?_)
  clear hK K
  refine norm_ (a' := ?_) ?_ ?_
  rotate_left
  ·show Act.put _ (some 8) _ = _
   simp only [Act.put, nf_]
   rfl
  refine one_ (i := 7) (N := some 12) #[true, true, true, true, true, true, true, true, false] rfl rfl (one_of HT_.out (by kernel_rfl)) (by decide) (fun K hK => ?_)
  refine Kd.R_append_rows_step (Kd.int .i64) (w0 := w) w.heap.size (by rfl) (.tmp 8) (.tmp 11) 26 2 (.int .i64 0) 8 rfl Try.underlying26 info2 rfl (by decide) (by omega) v421 t420 (l0.take (a1 : Int).toNat) _ _ _ (fun _ => True) (fun _ => False) rfl rfl ?aO ?aR (fun _ _ h => h) (fun _ h => h.elim) ?aF ?aB ?aS ?aL ?_
  (case aR => first | (rw [← show (l0.take (a1 : Int).toNat).length = a1.toNat from (by rw [List.length_take]; have h_ : (a1 : Int) ≤ (l0.length : Int) := od_; omega)]; (repeat (first | exact (Kd.C_below HR423.out HB.out) | (with_reducible refine Kd.C_alloc ?_ _) | (with_reducible refine Kd.C_drewN ?_ _) | (with_reducible refine Kd.C_drew ?_))); done) | (have hx_ := (Kd.C_below HR423.out HB.out); rw [show (l0.take (a1 : Int).toNat).length = a1.toNat from (by rw [List.length_take]; have h_ : (a1 : Int) ≤ (l0.length : Int) := od_; omega)] at hx_; exact hx_) | (repeat (first | exact (Kd.C_below HR423.out HB.out) | (with_reducible refine Kd.C_alloc ?_ _) | (with_reducible refine Kd.C_drewN ?_ _) | (with_reducible refine Kd.C_drew ?_))))
  (case aB => exact hb_)
  (case aF => exact (fun _ _ => trivial))
  (case aO => exact (Kd.R_below HO422.out bgo_))
  (case aS => exact (below_size hb_))
  (case aL => have := LMc8.out; have hlx_ := (show (l0.take (a1 : Int).toNat).length = a1.toNat from (by rw [List.length_take]; have h_ : (a1 : Int) ≤ (l0.length : Int) := od_; omega)); omega)
  intro v425 w13 ho hb hg hat
  rw [← Ny424.out] at ho
  have n0_ := Aside0.mk (hb)
  have n1_ := Aside0.mk (ho)
  clear HB
  clear HO422
  have HB := n0_
  have HO426 := n1_
  clear n0_ n1_
  clear ho hb hg hat
  refine hK.out _ _ trivial (fun hHeld => ?_)
  clear hK K
  refine norm_ (a' := ?_) ?_ ?_
  rotate_left
  ·show Act.put _ (some 12) _ = _
   simp only [Act.put, nf_]
   rfl
  refine pk_ 8 9 4 511 ?_
  refine done_ (done_of HT_.out (by kernel_rfl)) ?_
  try go_wp2
  go_ret
  exact ⟨_, er_, (Kd.R_below HO426.out bgo_), hb_⟩
 ·rw [if_neg c3] at H
  exact absurd H (by simp)

/-! ### spec_l03Prime: function 76 -/
def spec_l03Prime.l0 : Nat → List Int → Int → Option (Bool)
 | 0, _, _ => none
 | k + 1, x1, x5 => if x5 < (x1.length : Int) then ((spec_l03Turn.f x1 x5).bind fun t429 => ((spec_l03Before.f k t429 x1).bind fun t432 => (if t432 = true then (spec_l03Prime.l0 k x1 (wrap64 (x5 + 1))) else ((spec_l03Before.f k x1 t429).bind fun t433 => (if t433 = true then (spec_l03Prime.l0 k x1 (wrap64 (x5 + 1))) else (some false)))))) else (some true)
def spec_l03Prime.f (k : Nat) (a0_0 : Int) (l0_1 : List (List Int)) (l1 : List Int) : Option (Bool) := (spec_l03Closed.f a0_0 l0_1 l1).bind fun t428 => (if t428 = true then (spec_l03Prime.l0 k l1 1) else (some false))
set_option maxHeartbeats 8000000 in
set_option maxRecDepth 100000 in
theorem spec_l03Prime.calls (k : Nat) (a0_0 : Int) (A0_1 : Option Addr) (c0_1 : Nat) (l0_1 : List (List Int)) (A1 : Option Addr) (c1 : Nat) (l1 : List Int) (r : Bool) (w : World) (hr0_1 : Kd.C (Kd.slice 2 (Kd.int .i64)) w A0_1 l0_1.length l0_1) (hc0_1 : l0_1.length ≤ c0_1) (hr1 : Kd.C (Kd.int .i64) w A1 l1.length l1) (hc1 : l1.length ≤ c1) (h : spec_l03Prime.f k a0_0 l0_1 l1 = some r) :
  Calls Try.prog 76 #[.agg #[.int .i64 a0_0, .slice A0_1 l0_1.length c0_1], .slice A1 l1.length c1] w fun e w' => e = .returned (.bool r) ∧ Below w.heap.size w w' := by
 have hu29 := Try.underlying29
 have HR0_1 := Aside0.mk hr0_1
 have HC0_1 := Aside0.mk hc0_1
 clear hr0_1 hc0_1
 have HR1 := Aside0.mk hr1
 have HC1 := Aside0.mk hc1
 clear hr1 hc1
 have HB := Aside0.mk (Below.refl w.heap.size w)
 have H : ((spec_l03Closed.f a0_0 l0_1 l1).bind fun t428 => (if t428 = true then (spec_l03Prime.l0 k l1 1) else (some false))) = some r := h
 clear h
 obtain ⟨t428, A3, H⟩ := bnd_ H
 by_cases c4 : t428 = true
 ·subst c4
  have H1 : (spec_l03Prime.l0 k l1 1) = some r := by rw [if_pos rfl] at H; exact H
  clear H
  have H := H1
  clear H1
  have H' := Aside0.mk H
  clear H
  go_enter Try.func76, Try.ntmps76
  go_wp2_with (first | ((with_reducible refine gate_dst (N := 2) rfl ?_); refine box_event ?hg (N := 2) ?hd (cs := #[.int .i64 a0_0, .slice A0_1 l0_1.length c0_1]) (t := 29) ?hr ?_; (case hd => rfl); (case hg => rfl); (case hr => first | (go_simp; done) | (go_simp; rfl)); intro gb427 hg w5 hbox hb; have BK427 := Aside0.mk (hbox); have GW427 := Aside0.mk ((by rw [hg]; exact (below_size hb_) : w.heap.size ≤ gb427)); have GE427 := Aside0.mk ((by rw [hg]; exact (below_size hb_) : w.heap.size ≤ gb427)); replace HB := Aside0.mk (below_step hb_ hb); clear hb hbox hg; have hcz6_0 : w5.cell? ⟨gb427, 0, none⟩ = some (.int .i64 a0_0) := (blk_cell BK427.out 0).trans rfl; have hcz6_1 : w5.cell? ⟨gb427, 1, none⟩ = some (.slice A0_1 l0_1.length c0_1) := (blk_cell BK427.out 1).trans rfl; have hfz6_0 := blk_frozen BK427.out 0; have hfz6_1 := blk_frozen BK427.out 1) | ((with_reducible refine gate_callee (f := 111) rfl ?_); refine goesL_ (some 9) rfl rfl Try.func111 (by kernel_rfl) rfl #[.agg #[.int .i64 a0_0, .slice A0_1 l0_1.length c0_1], .slice A1 l1.length c1] rfl arg_ ?_; (with_reducible refine (spec_l03Closed.calls a0_0 _ _ l0_1 _ _ l1 true _ ?side1 ?side2 ?side3 ?side4 A3.out).mono ?_); (case side1 => exact Kd.C_below (Kd.C_below HR0_1.out HB.out) bgo_); (case side2 => exact HC0_1.out); (case side3 => exact Kd.C_below (Kd.C_below HR1.out HB.out) bgo_); (case side4 => exact HC1.out); rintro e w7 ⟨rfl, hb⟩; refine ⟨_, rfl, ?_⟩; replace BK427 := Aside0.mk (blk_below (g := gb427) (o := .cells #[.int .i64 a0_0, .slice A0_1 l0_1.length c0_1] 29 (0, 0)) (blk_below BK427.out bgo_) hb); replace HB := Aside0.mk (below_step hbs_ hb); (try clear hb); (try clear hb2); (try clear hk); (try clear hi)))
  go_loopg [5] k (fun kq v5 w' => ∃ (x5_1 : Int), v5 = .int .i64 x5_1 ∧ Aside0 (spec_l03Prime.l0 kq l1 x5_1 = some r) ∧ Aside0 (kq ≤ k) ∧ Aside0 (w'.heap[gb427]? = some (.cells #[.int .i64 a0_0, (.slice A0_1 l0_1.length c0_1)] 29 (0, 0))) ∧ Aside0 (Below w.heap.size w w'))
  case atStart => exact ⟨(1), es_, H', ⟨Nat.le_refl _⟩, ⟨blk_below BK427.out bgo_⟩, ⟨hbs_⟩⟩
  case round =>
   clear H'
   obtain ⟨x5_1, rfl, HA, HK1, BK427, HB⟩ := hrel
   cases gk with
   | zero => exact absurd HA.out (by simp [spec_l03Prime.l0])
   | succ k1 =>
    have H := HA.out
    clear HA
    simp only [spec_l03Prime.l0] at H
    by_cases c8 : x5_1 < (l1.length : Int)
    ·rw [if_pos c8] at H
     have c8b0 := decide_eq_true c8
     clear c8
     obtain ⟨t429, A9, H⟩ := bnd_ H
     obtain ⟨t432, A10, H⟩ := bnd_ H
     by_cases c11 : t432 = true
     ·subst c11
      have H1 : (spec_l03Prime.l0 k1 l1 (wrap64 (x5_1 + 1))) = some r := by rw [if_pos rfl] at H; exact H
      clear H
      have H := H1
      clear H1
      have H' := Aside0.mk H
      clear H
      go_wp2_with (first | ((with_reducible refine gate_callee (f := 112) rfl ?_); refine goesL_ (some 19) rfl rfl Try.func112 (by kernel_rfl) rfl #[.slice A1 l1.length c1, .int .i64 x5_1] rfl arg_ ?_; (with_reducible refine (spec_l03Turn.calls _ _ l1 x5_1 t429 _ ?side1 ?side2 A9.out).mono ?_); (case side1 => exact Kd.C_below (Kd.C_below HR1.out HB.out) bgo_); (case side2 => exact HC1.out); rintro e w12 ⟨v430, rfl, ho0, hb⟩; refine ⟨_, rfl, ?_⟩; have HO431 := Aside0.mk (Kd.R_lower ho0 (below_size hbs_)); replace BK427 := Aside0.mk (blk_below (g := gb427) (o := .cells #[.int .i64 a0_0, .slice A0_1 l0_1.length c0_1] 29 (0, 0)) (blk_below BK427.out bgo_) hb); replace HB := Aside0.mk (below_step hbs_ hb); (try clear hb); (try clear hb2); (try clear hk); (try clear hi); (try clear ho0); obtain ⟨Ao13, co13, eo13⟩ := Kd.R_slice HO431.out; subst eo13) | ((with_reducible refine gate_callee (f := 77) rfl ?_); refine goesL_ (some 22) rfl rfl Try.func77 (by kernel_rfl) rfl #[.slice Ao13 t429.length co13, .slice A1 l1.length c1] rfl arg_ ?_; (with_reducible refine (spec_l03Before.calls k1 _ _ t429 _ _ l1 true _ ?side1 ?side2 ?side3 ?side4 A10.out).mono ?_); (case side1 => exact Kd.C_below (Kd.R_reads' HO431.out).2.2 bgo_); (case side2 => exact (Kd.R_reads' HO431.out).2.1); (case side3 => exact Kd.C_below (Kd.C_below HR1.out HB.out) bgo_); (case side4 => exact HC1.out); rintro e w' ⟨rfl, ⟨nd, rfl⟩⟩; refine ⟨_, rfl, ?_⟩))
      first | go_roundg k1 | (refine Handed.intro k1 ?measure ?_; rotate_left; go_step; (try simp only [add_plain]); (repeat apply Exists.intro); refine ⟨?rel, rfl⟩)
      case measure => have := HK1.out; omega
      case rel => exact ⟨(wrap64 (x5_1 + 1)), es_, H', ⟨by have := HK1.out; omega⟩, ⟨blk_below BK427.out bgo_⟩, ⟨hbs_⟩⟩
     ·replace c11 := Bool.eq_false_iff.mpr c11
      subst c11
      have H1 : ((spec_l03Before.f k1 l1 t429).bind fun t433 => (if t433 = true then (spec_l03Prime.l0 k1 l1 (wrap64 (x5_1 + 1))) else (some false))) = some r := by rw [if_neg (show ¬ (false = true) by decide)] at H; exact H
      clear H
      have H := H1
      clear H1
      obtain ⟨t433, A14, H⟩ := bnd_ H
      by_cases c15 : t433 = true
      ·subst c15
       have H1 : (spec_l03Prime.l0 k1 l1 (wrap64 (x5_1 + 1))) = some r := by rw [if_pos rfl] at H; exact H
       clear H
       have H := H1
       clear H1
       have H' := Aside0.mk H
       clear H
       go_wp2_with (first | ((with_reducible refine gate_callee (f := 112) rfl ?_); refine goesL_ (some 19) rfl rfl Try.func112 (by kernel_rfl) rfl #[.slice A1 l1.length c1, .int .i64 x5_1] rfl arg_ ?_; (with_reducible refine (spec_l03Turn.calls _ _ l1 x5_1 t429 _ ?side1 ?side2 A9.out).mono ?_); (case side1 => exact Kd.C_below (Kd.C_below HR1.out HB.out) bgo_); (case side2 => exact HC1.out); rintro e w16 ⟨v430, rfl, ho0, hb⟩; refine ⟨_, rfl, ?_⟩; have HO431 := Aside0.mk (Kd.R_lower ho0 (below_size hbs_)); replace BK427 := Aside0.mk (blk_below (g := gb427) (o := .cells #[.int .i64 a0_0, .slice A0_1 l0_1.length c0_1] 29 (0, 0)) (blk_below BK427.out bgo_) hb); replace HB := Aside0.mk (below_step hbs_ hb); (try clear hb); (try clear hb2); (try clear hk); (try clear hi); (try clear ho0); obtain ⟨Ao17, co17, eo17⟩ := Kd.R_slice HO431.out; subst eo17) | ((with_reducible refine gate_callee (f := 77) rfl ?_); refine goesL_ (some 22) rfl rfl Try.func77 (by kernel_rfl) rfl #[.slice Ao17 t429.length co17, .slice A1 l1.length c1] rfl arg_ ?_; (with_reducible refine (spec_l03Before.calls k1 _ _ t429 _ _ l1 false _ ?side1 ?side2 ?side3 ?side4 A10.out).mono ?_); (case side1 => exact Kd.C_below (Kd.R_reads' HO431.out).2.2 bgo_); (case side2 => exact (Kd.R_reads' HO431.out).2.1); (case side3 => exact Kd.C_below (Kd.C_below HR1.out HB.out) bgo_); (case side4 => exact HC1.out); rintro e w' ⟨rfl, ⟨nd, rfl⟩⟩; refine ⟨_, rfl, ?_⟩) | (go_at_call 77; (with_reducible refine (spec_l03Before.calls k1 _ _ l1 _ _ t429 true _ ?side1 ?side2 ?side3 ?side4 A14.out).mono ?_); (case side1 => exact Kd.C_below (Kd.C_below HR1.out hbs_) bgo_); (case side2 => exact HC1.out); (case side3 => exact Kd.C_below (Kd.R_reads' HO431.out).2.2 bgo_); (case side4 => exact (Kd.R_reads' HO431.out).2.1); rintro e w' ⟨rfl, ⟨nd, rfl⟩⟩))
       first | go_roundg k1 | (refine Handed.intro k1 ?measure ?_; rotate_left; go_step; (try simp only [add_plain]); (repeat apply Exists.intro); refine ⟨?rel, rfl⟩)
       case measure => have := HK1.out; omega
       case rel => exact ⟨(wrap64 (x5_1 + 1)), es_, H', ⟨by have := HK1.out; omega⟩, ⟨blk_below BK427.out bgo_⟩, ⟨hbs_⟩⟩
      ·replace c15 := Bool.eq_false_iff.mpr c15
       subst c15
       have H1 : (some false) = some r := by rw [if_neg (show ¬ (false = true) by decide)] at H; exact H
       clear H
       have H := H1
       clear H1
       obtain rfl := Option.some.inj H
       go_wp2_with (first | ((with_reducible refine gate_callee (f := 112) rfl ?_); refine goesL_ (some 19) rfl rfl Try.func112 (by kernel_rfl) rfl #[.slice A1 l1.length c1, .int .i64 x5_1] rfl arg_ ?_; (with_reducible refine (spec_l03Turn.calls _ _ l1 x5_1 t429 _ ?side1 ?side2 A9.out).mono ?_); (case side1 => exact Kd.C_below (Kd.C_below HR1.out HB.out) bgo_); (case side2 => exact HC1.out); rintro e w18 ⟨v430, rfl, ho0, hb⟩; refine ⟨_, rfl, ?_⟩; have HO431 := Aside0.mk (Kd.R_lower ho0 (below_size hbs_)); replace BK427 := Aside0.mk (blk_below (g := gb427) (o := .cells #[.int .i64 a0_0, .slice A0_1 l0_1.length c0_1] 29 (0, 0)) (blk_below BK427.out bgo_) hb); replace HB := Aside0.mk (below_step hbs_ hb); (try clear hb); (try clear hb2); (try clear hk); (try clear hi); (try clear ho0); obtain ⟨Ao19, co19, eo19⟩ := Kd.R_slice HO431.out; subst eo19) | ((with_reducible refine gate_callee (f := 77) rfl ?_); refine goesL_ (some 22) rfl rfl Try.func77 (by kernel_rfl) rfl #[.slice Ao19 t429.length co19, .slice A1 l1.length c1] rfl arg_ ?_; (with_reducible refine (spec_l03Before.calls k1 _ _ t429 _ _ l1 false _ ?side1 ?side2 ?side3 ?side4 A10.out).mono ?_); (case side1 => exact Kd.C_below (Kd.R_reads' HO431.out).2.2 bgo_); (case side2 => exact (Kd.R_reads' HO431.out).2.1); (case side3 => exact Kd.C_below (Kd.C_below HR1.out HB.out) bgo_); (case side4 => exact HC1.out); rintro e w' ⟨rfl, ⟨nd, rfl⟩⟩; refine ⟨_, rfl, ?_⟩) | (go_at_call 77; (with_reducible refine (spec_l03Before.calls k1 _ _ l1 _ _ t429 false _ ?side1 ?side2 ?side3 ?side4 A14.out).mono ?_); (case side1 => exact Kd.C_below (Kd.C_below HR1.out hbs_) bgo_); (case side2 => exact HC1.out); (case side3 => exact Kd.C_below (Kd.R_reads' HO431.out).2.2 bgo_); (case side4 => exact (Kd.R_reads' HO431.out).2.1); rintro e w' ⟨rfl, ⟨nd, rfl⟩⟩))
       go_ret
       exact ⟨er_, hbs_⟩
    ·rw [if_neg c8] at H
     have c8b0 := decide_eq_false c8
     clear c8
     obtain rfl := Option.some.inj H
     go_wp2
     go_ret
     exact ⟨er_, hbs_⟩
 ·replace c4 := Bool.eq_false_iff.mpr c4
  subst c4
  have H1 : (some false) = some r := by rw [if_neg (show ¬ (false = true) by decide)] at H; exact H
  clear H
  have H := H1
  clear H1
  obtain rfl := Option.some.inj H
  go_enter Try.func76, Try.ntmps76
  go_wp2_with (first | ((with_reducible refine gate_dst (N := 2) rfl ?_); refine box_event ?hg (N := 2) ?hd (cs := #[.int .i64 a0_0, .slice A0_1 l0_1.length c0_1]) (t := 29) ?hr ?_; (case hd => rfl); (case hg => rfl); (case hr => first | (go_simp; done) | (go_simp; rfl)); intro gb427 hg w20 hbox hb; have BK427 := Aside0.mk (hbox); have GW427 := Aside0.mk ((by rw [hg]; exact (below_size hb_) : w.heap.size ≤ gb427)); have GE427 := Aside0.mk ((by rw [hg]; exact (below_size hb_) : w.heap.size ≤ gb427)); replace HB := Aside0.mk (below_step hb_ hb); clear hb hbox hg; have hcz21_0 : w20.cell? ⟨gb427, 0, none⟩ = some (.int .i64 a0_0) := (blk_cell BK427.out 0).trans rfl; have hcz21_1 : w20.cell? ⟨gb427, 1, none⟩ = some (.slice A0_1 l0_1.length c0_1) := (blk_cell BK427.out 1).trans rfl; have hfz21_0 := blk_frozen BK427.out 0; have hfz21_1 := blk_frozen BK427.out 1) | ((with_reducible refine gate_callee (f := 111) rfl ?_); refine goesL_ (some 9) rfl rfl Try.func111 (by kernel_rfl) rfl #[.agg #[.int .i64 a0_0, .slice A0_1 l0_1.length c0_1], .slice A1 l1.length c1] rfl arg_ ?_; (with_reducible refine (spec_l03Closed.calls a0_0 _ _ l0_1 _ _ l1 false _ ?side1 ?side2 ?side3 ?side4 A3.out).mono ?_); (case side1 => exact Kd.C_below (Kd.C_below HR0_1.out HB.out) bgo_); (case side2 => exact HC0_1.out); (case side3 => exact Kd.C_below (Kd.C_below HR1.out HB.out) bgo_); (case side4 => exact HC1.out); rintro e w22 ⟨rfl, hb⟩; refine ⟨_, rfl, ?_⟩; replace BK427 := Aside0.mk (blk_below (g := gb427) (o := .cells #[.int .i64 a0_0, .slice A0_1 l0_1.length c0_1] 29 (0, 0)) (blk_below BK427.out bgo_) hb); replace HB := Aside0.mk (below_step hbs_ hb); (try clear hb); (try clear hb2); (try clear hk); (try clear hi)))
  go_ret
  exact ⟨er_, hbs_⟩

/-! ### spec_l03Least: function 78 -/
def spec_l03Least.l0 : Nat → List Int → List Int → Int → Option (List Int)
 | 0, _, _, _ => none
 | k + 1, x0, x3, x4 => if x4 < (x0.length : Int) then ((spec_l03Turn.f x0 x4).bind fun t437 => ((spec_l03Before.f k t437 x3).bind fun t440 => (if t440 = true then (spec_l03Least.l0 k x0 t437 (wrap64 (x4 + 1))) else (spec_l03Least.l0 k x0 x3 (wrap64 (x4 + 1)))))) else (some x3)
def spec_l03Least.f (k : Nat) (l0 : List Int) : Option (List Int) := (spec_l01Own.f l0).bind fun t434 => (spec_l03Least.l0 k l0 t434 1)
set_option maxHeartbeats 8000000 in
set_option maxRecDepth 100000 in
theorem spec_l03Least.calls (k : Nat) (A0 : Option Addr) (c0 : Nat) (l0 : List Int) (r : List Int) (w : World) (hr0 : Kd.C (Kd.int .i64) w A0 l0.length l0) (hc0 : l0.length ≤ c0) (h : spec_l03Least.f k l0 = some r) :
  Calls Try.prog 78 #[.slice A0 l0.length c0] w fun e w' => ∃ v0_ : Value, e = .returned (v0_) ∧ Kd.R (Kd.int .i64) 2 w' w.heap.size (fun _ => True) v0_ r ∧ Below w.heap.size w w' := by
 have HR0 := Aside0.mk hr0
 have HC0 := Aside0.mk hc0
 clear hr0 hc0
 have HB := Aside0.mk (Below.refl w.heap.size w)
 have H : ((spec_l01Own.f l0).bind fun t434 => (spec_l03Least.l0 k l0 t434 1)) = some r := h
 clear h
 obtain ⟨t434, A2, H⟩ := bnd_ H
 have H' := Aside0.mk H
 clear H
 go_enter Try.func78, Try.ntmps78
 go_wp2_with (first | ((with_reducible refine gate_callee (f := 42) rfl ?_); refine goesL_ (some 7) rfl rfl Try.func42 (by kernel_rfl) rfl #[.slice A0 l0.length c0] rfl arg_ ?_; (with_reducible refine (spec_l01Own.calls _ _ l0 t434 _ ?side1 ?side2 A2.out).mono ?_); (case side1 => exact Kd.C_below HR0.out bgo_); (case side2 => exact HC0.out); rintro e w3 ⟨v435, rfl, ho0, hb⟩; refine ⟨_, rfl, ?_⟩; have HO436 := Aside0.mk (Kd.R_lower ho0 (below_size hb_)); replace HB := Aside0.mk (below_step hb_ hb); (try clear hb); (try clear hb2); (try clear hk); (try clear hi); (try clear ho0)))
 go_loopg [3, 4] k (fun kq v3 v4 w' => ∃ (x3_1 : List Int) (x4_1 : Int), v4 = .int .i64 x4_1 ∧ Aside0 (spec_l03Least.l0 kq l0 x3_1 x4_1 = some r) ∧ Aside0 (kq ≤ k) ∧ Aside0 (Kd.R (Kd.int .i64) 2 w' w.heap.size (fun _ => True) v3 x3_1) ∧ Aside0 (Below w.heap.size w w'))
 case atStart => exact ⟨(t434), (1), es_, H', ⟨Nat.le_refl _⟩, ⟨Kd.R_below HO436.out bgo_⟩, ⟨hb_⟩⟩
 case round =>
  clear H'
  obtain ⟨x3_1, x4_1, rfl, HA, HK1, HO_3, HB⟩ := hrel
  cases gk with
  | zero => exact absurd HA.out (by simp [spec_l03Least.l0])
  | succ k1 =>
   have H := HA.out
   clear HA
   simp only [spec_l03Least.l0] at H
   by_cases c4 : x4_1 < (l0.length : Int)
   ·rw [if_pos c4] at H
    have c4b0 := decide_eq_true c4
    clear c4
    obtain ⟨t437, A5, H⟩ := bnd_ H
    obtain ⟨t440, A6, H⟩ := bnd_ H
    by_cases c7 : t440 = true
    ·subst c7
     have H1 : (spec_l03Least.l0 k1 l0 t437 (wrap64 (x4_1 + 1))) = some r := by rw [if_pos rfl] at H; exact H
     clear H
     have H := H1
     clear H1
     have H' := Aside0.mk H
     clear H
     go_wp2_with (first | ((with_reducible refine gate_callee (f := 112) rfl ?_); refine goesL_ (some 16) rfl rfl Try.func112 (by kernel_rfl) rfl #[.slice A0 l0.length c0, .int .i64 x4_1] rfl arg_ ?_; (with_reducible refine (spec_l03Turn.calls _ _ l0 x4_1 t437 _ ?side1 ?side2 A5.out).mono ?_); (case side1 => exact Kd.C_below (Kd.C_below HR0.out HB.out) bgo_); (case side2 => exact HC0.out); rintro e w8 ⟨v438, rfl, ho0, hb⟩; refine ⟨_, rfl, ?_⟩; have HO439 := Aside0.mk (Kd.R_lower (Kd.R_new' ho0 (Kd.R_lt (Kd.R_below HO_3.out bgo_))) (below_size hb_)); replace HO_3 := Aside0.mk (Kd.R_elder' (Kd.R_below HO_3.out bgo_) (Kd.R_base ho0) hb); replace HB := Aside0.mk (below_step hb_ hb); (try clear hb); (try clear hb2); (try clear hk); (try clear hi); (try clear ho0); obtain ⟨Ao9, co9, eo9⟩ := Kd.R_slice HO439.out; subst eo9; obtain ⟨Ao10, co10, eo10⟩ := Kd.R_slice HO_3.out; subst eo10) | ((with_reducible refine gate_callee (f := 77) rfl ?_); refine goesL_ (some 19) rfl rfl Try.func77 (by kernel_rfl) rfl #[.slice Ao9 t437.length co9, .slice Ao10 x3_1.length co10] rfl arg_ ?_; (with_reducible refine (spec_l03Before.calls k1 _ _ t437 _ _ x3_1 true _ ?side1 ?side2 ?side3 ?side4 A6.out).mono ?_); (case side1 => exact Kd.C_below (Kd.R_reads' HO439.out).2.2 bgo_); (case side2 => exact (Kd.R_reads' HO439.out).2.1); (case side3 => exact Kd.C_below (Kd.R_reads' HO_3.out).2.2 bgo_); (case side4 => exact (Kd.R_reads' HO_3.out).2.1); rintro e w' ⟨rfl, ⟨nd, rfl⟩⟩; refine ⟨_, rfl, ?_⟩))
     first | go_roundg k1 | (refine Handed.intro k1 ?measure ?_; rotate_left; go_step; (try simp only [add_plain]); (repeat apply Exists.intro); refine ⟨?rel, rfl⟩)
     case measure => have := HK1.out; omega
     case rel => exact ⟨(t437), (wrap64 (x4_1 + 1)), es_, H', ⟨by have := HK1.out; omega⟩, ⟨by (with_reducible repeat (first | apply Kd.R_alloc | apply Kd.R_drewN | apply Kd.R_drew)); exact Kd.R_mono HO439.out (fun _ hk => trivial)⟩, ⟨hb_⟩⟩
    ·replace c7 := Bool.eq_false_iff.mpr c7
     subst c7
     have H1 : (spec_l03Least.l0 k1 l0 x3_1 (wrap64 (x4_1 + 1))) = some r := by rw [if_neg (show ¬ (false = true) by decide)] at H; exact H
     clear H
     have H := H1
     clear H1
     have H' := Aside0.mk H
     clear H
     go_wp2_with (first | ((with_reducible refine gate_callee (f := 112) rfl ?_); refine goesL_ (some 16) rfl rfl Try.func112 (by kernel_rfl) rfl #[.slice A0 l0.length c0, .int .i64 x4_1] rfl arg_ ?_; (with_reducible refine (spec_l03Turn.calls _ _ l0 x4_1 t437 _ ?side1 ?side2 A5.out).mono ?_); (case side1 => exact Kd.C_below (Kd.C_below HR0.out HB.out) bgo_); (case side2 => exact HC0.out); rintro e w11 ⟨v438, rfl, ho0, hb⟩; refine ⟨_, rfl, ?_⟩; have HO439 := Aside0.mk (Kd.R_lower (Kd.R_new' ho0 (Kd.R_lt (Kd.R_below HO_3.out bgo_))) (below_size hb_)); replace HO_3 := Aside0.mk (Kd.R_elder' (Kd.R_below HO_3.out bgo_) (Kd.R_base ho0) hb); replace HB := Aside0.mk (below_step hb_ hb); (try clear hb); (try clear hb2); (try clear hk); (try clear hi); (try clear ho0); obtain ⟨Ao12, co12, eo12⟩ := Kd.R_slice HO439.out; subst eo12; obtain ⟨Ao13, co13, eo13⟩ := Kd.R_slice HO_3.out; subst eo13) | ((with_reducible refine gate_callee (f := 77) rfl ?_); refine goesL_ (some 19) rfl rfl Try.func77 (by kernel_rfl) rfl #[.slice Ao12 t437.length co12, .slice Ao13 x3_1.length co13] rfl arg_ ?_; (with_reducible refine (spec_l03Before.calls k1 _ _ t437 _ _ x3_1 false _ ?side1 ?side2 ?side3 ?side4 A6.out).mono ?_); (case side1 => exact Kd.C_below (Kd.R_reads' HO439.out).2.2 bgo_); (case side2 => exact (Kd.R_reads' HO439.out).2.1); (case side3 => exact Kd.C_below (Kd.R_reads' HO_3.out).2.2 bgo_); (case side4 => exact (Kd.R_reads' HO_3.out).2.1); rintro e w' ⟨rfl, ⟨nd, rfl⟩⟩; refine ⟨_, rfl, ?_⟩))
     first | go_roundg k1 | (refine Handed.intro k1 ?measure ?_; rotate_left; go_step; (try simp only [add_plain]); (repeat apply Exists.intro); refine ⟨?rel, rfl⟩)
     case measure => have := HK1.out; omega
     case rel => exact ⟨(x3_1), (wrap64 (x4_1 + 1)), es_, H', ⟨by have := HK1.out; omega⟩, ⟨by (with_reducible repeat (first | apply Kd.R_alloc | apply Kd.R_drewN | apply Kd.R_drew)); exact Kd.R_mono HO_3.out (fun _ hk => trivial)⟩, ⟨hb_⟩⟩
   ·rw [if_neg c4] at H
    have c4b0 := decide_eq_false c4
    clear c4
    obtain rfl := Option.some.inj H
    go_wp2
    go_ret
    exact ⟨_, er_, (Kd.R_below HO_3.out bgo_), hb_⟩

/-! ### spec_PrimeCycles: function 31 -/
def spec_PrimeCycles.l0 : Nat → List (List Int) → List (List Int) → Int → Int → List (List Int) → Option ((List (List Int)) × Int)
 | 0, _, _, _, _, _ => none
 | k + 1, x7, x9, x10, x442000, x442001 => if x10 < (x7.length : Int) then (if 0 ≤ x10 then ((spec_l03Prime.f k x442000 x442001 (rd_L1 x7 x10)).bind fun t451 => (if t451 = true then ((spec_l03Least.f k (rd_L1 x7 x10)).bind fun t453 => ((spec_l03Before.f k t453 (rd_L1 x7 x10)).bind fun t457 => (if t457 = true then (spec_PrimeCycles.l0 k x7 x9 (wrap64 (x10 + 1)) x442000 x442001) else (if x9.length < 5864062014805 then (spec_PrimeCycles.l0 k x7 (x9 ++ [rd_L1 x7 x10]) (wrap64 (x10 + 1)) x442000 x442001) else (none))))) else (spec_PrimeCycles.l0 k x7 x9 (wrap64 (x10 + 1)) x442000 x442001))) else (none)) else (some (x9, 0))
def spec_PrimeCycles.f (k : Nat) (a0_0 : Int) (l0_1 : List (List Int)) (a1 : Int) : Option ((List (List Int)) × Int) := (spec_l03Length.f k a0_0 l0_1 a1 1).bind fun t442 => (if t442 = 0 then ((spec_l03All.f k a0_0 l0_1 a1).bind fun bt443 => (if bt443.2 = true then (spec_PrimeCycles.l0 k bt443.1 (([] : List (List Int))) 0 a0_0 l0_1) else (some (([] : List (List Int)), 3)))) else (some (([] : List (List Int)), t442)))
def spec_PrimeCycles.T11 : Bool × List (List Nat × List Nat) := (true, [([], []), ([], []), ([], []), ([1, 2], [1, 2]), ([3], [3]), ([0, 4], [0, 4]), ([5, 5], [5]), ([6], [6]), ([6], [6]), ([7, 8, 6], [6, 7, 8]), ([9, 6], [6, 9]), ([10, 6, 6], [6, 10]), ([6], [6]), ([6], [6]), ([12, 13, 6], [6, 12, 13]), ([14, 6], [6, 14]), ([11, 15, 11, 6], [6, 11, 15]), ([16, 6], [6, 16]), ([6, 17], [6, 17])])
def spec_PrimeCycles.B11 : List Nat := [0, 0, 0, 6, 14, 31, 63, 127, 127, 511, 1023, 2047, 127, 127, 12415, 28799, 65535, 131071, 262143]
theorem spec_PrimeCycles.tab11 : rtab .any (opsOf Try.f31 11) = spec_PrimeCycles.T11 := by kernel_rfl
theorem spec_PrimeCycles.bits11 : waitsOk spec_PrimeCycles.T11.2 spec_PrimeCycles.B11 = true := by kernel_rfl
set_option maxHeartbeats 8000000 in
set_option maxRecDepth 100000 in
theorem spec_PrimeCycles.calls (k : Nat) (a0_0 : Int) (A0_1 : Option Addr) (c0_1 : Nat) (l0_1 : List (List Int)) (a1 : Int) (r1 : List (List Int)) (r2 : Int) (w : World) (hr0_1 : Kd.C (Kd.slice 2 (Kd.int .i64)) w A0_1 l0_1.length l0_1) (hc0_1 : l0_1.length ≤ c0_1) (h : spec_PrimeCycles.f k a0_0 l0_1 a1 = some (r1, r2)) :
  Calls Try.prog 31 #[.agg #[.int .i64 a0_0, .slice A0_1 l0_1.length c0_1], .int .i64 a1] w fun e w' => ∃ v0_ : Value, e = .returned (.tuple #[v0_, .int .i64 r2]) ∧ Kd.N (Kd.slice 2 (Kd.int .i64)) 26 w' w.heap.size (fun k_ => (w.heap.size ≤ k_)) v0_ r1 ∧ Below w.heap.size w w' := by
 have hu29 := Try.underlying29
 have HR0_1 := Aside0.mk hr0_1
 have HC0_1 := Aside0.mk hc0_1
 clear hr0_1 hc0_1
 have HB := Aside0.mk (Below.refl w.heap.size w)
 have H : ((spec_l03Length.f k a0_0 l0_1 a1 1).bind fun t442 => (if t442 = 0 then ((spec_l03All.f k a0_0 l0_1 a1).bind fun bt443 => (if bt443.2 = true then (spec_PrimeCycles.l0 k bt443.1 (([] : List (List Int))) 0 a0_0 l0_1) else (some (([] : List (List Int)), 3)))) else (some (([] : List (List Int)), t442)))) = some (r1, r2) := h
 clear h
 obtain ⟨t442, A3, H⟩ := bnd_ H
 by_cases c4 : t442 = 0
 ·rw [if_pos c4] at H
  have c4b0 : (t442 == 0) = true := beq_iff_eq.mpr c4
  have c4b1 : (t442 != 0) = false := bne_eq_false_iff_eq.mpr c4
  clear c4
  obtain ⟨⟨t443, t446⟩, A5, H⟩ := bnd_ H
  dsimp only at H
  by_cases c6 : t446 = true
  ·subst c6
   have H1 : (spec_PrimeCycles.l0 k t443 (([] : List (List Int))) 0 a0_0 l0_1) = some (r1, r2) := by rw [if_pos rfl] at H; exact H
   clear H
   have H := H1
   clear H1
   obtain ⟨y447, Ny447, H⟩ : ∃ y447 : List (List Int), Aside0 (y447 = (([] : List (List Int)))) ∧ (spec_PrimeCycles.l0 k t443 y447 0 a0_0 l0_1) = some (r1, r2) := ⟨_, ⟨rfl⟩, H⟩
   have H' := Aside0.mk H
   clear H
   go_enter Try.func31, Try.ntmps31
   go_wp2_with (first | ((with_reducible refine gate_dst (N := 2) rfl ?_); refine box_event ?hg (N := 2) ?hd (cs := #[.int .i64 a0_0, .slice A0_1 l0_1.length c0_1]) (t := 29) ?hr ?_; (case hd => rfl); (case hg => rfl); (case hr => first | (go_simp; done) | (go_simp; rfl)); intro gb441 hg w7 hbox hb; have BK441 := Aside0.mk (hbox); have GW441 := Aside0.mk ((by rw [hg]; exact (below_size hb_) : w.heap.size ≤ gb441)); have GE441 := Aside0.mk ((by rw [hg]; exact (below_size hb_) : w.heap.size ≤ gb441)); replace HB := Aside0.mk (below_step hb_ hb); clear hb hbox hg; have hcz8_0 : w7.cell? ⟨gb441, 0, none⟩ = some (.int .i64 a0_0) := (blk_cell BK441.out 0).trans rfl; have hcz8_1 : w7.cell? ⟨gb441, 1, none⟩ = some (.slice A0_1 l0_1.length c0_1) := (blk_cell BK441.out 1).trans rfl; have hfz8_0 := blk_frozen BK441.out 0; have hfz8_1 := blk_frozen BK441.out 1) | ((with_reducible refine gate_callee (f := 61) rfl ?_); refine goesL_ (some 13) rfl rfl Try.func61 (by kernel_rfl) rfl #[.agg #[.int .i64 a0_0, .slice A0_1 l0_1.length c0_1], .int .i64 a1, .int .i64 1] rfl arg_ ?_; (with_reducible refine (spec_l03Length.calls k a0_0 _ _ l0_1 a1 1 t442 _ ?side1 ?side2 A3.out).mono ?_); (case side1 => exact Kd.C_below (Kd.C_below HR0_1.out HB.out) bgo_); (case side2 => exact HC0_1.out); rintro e w9 ⟨rfl, hb⟩; refine ⟨_, rfl, ?_⟩; replace BK441 := Aside0.mk (blk_below (g := gb441) (o := .cells #[.int .i64 a0_0, .slice A0_1 l0_1.length c0_1] 29 (0, 0)) (blk_below BK441.out bgo_) hb); replace HB := Aside0.mk (below_step hbs_ hb); (try clear hb); (try clear hb2); (try clear hk); (try clear hi); have hcz10_0 : w9.cell? ⟨gb441, 0, none⟩ = some (.int .i64 a0_0) := (blk_cell BK441.out 0).trans rfl; have hcz10_1 : w9.cell? ⟨gb441, 1, none⟩ = some (.slice A0_1 l0_1.length c0_1) := (blk_cell BK441.out 1).trans rfl; have hfz10_0 := blk_frozen BK441.out 0; have hfz10_1 := blk_frozen BK441.out 1) | ((with_reducible refine gate_callee (f := 73) rfl ?_); refine goesL_ (some 20) rfl rfl Try.func73 (by kernel_rfl) rfl #[.agg #[.int .i64 a0_0, .slice A0_1 l0_1.length c0_1], .int .i64 a1] rfl arg_ ?_; (with_reducible refine (spec_l03All.calls k a0_0 _ _ l0_1 a1 t443 true _ ?side1 ?side2 A5.out).mono ?_); (case side1 => exact Kd.C_below (Kd.C_below HR0_1.out HB.out) bgo_); (case side2 => exact HC0_1.out); rintro e w11 ⟨v444, rfl, ho0, hb⟩; refine ⟨_, rfl, ?_⟩; have HO445 := Aside0.mk (Kd.N_lower (Kd.N_mono (ok' := fun k_ => (w.heap.size ≤ k_) ∧ k_ ≠ gb441) ho0 (fun k_ hk_ => ⟨(Nat.le_trans (below_size hbs_) hk_), (Kd.freshB (g := gb441) (o := .cells #[.int .i64 a0_0, .slice A0_1 l0_1.length c0_1] 29 (0, 0)) (blk_below BK441.out bgo_) k_ hk_)⟩)) (below_size hbs_)); replace BK441 := Aside0.mk (blk_below (g := gb441) (o := .cells #[.int .i64 a0_0, .slice A0_1 l0_1.length c0_1] 29 (0, 0)) (blk_below BK441.out bgo_) hb); replace HB := Aside0.mk (below_step hbs_ hb); (try clear hb); (try clear hb2); (try clear hk); (try clear hi); (try clear ho0)) | ((with_reducible refine gate_dst (N := 25) rfl ?_); refine Kd.N_lit (Kd.slice 2 (Kd.int .i64)) _ 26 ?hg (N' := 25) ?hd (xs := ([] : List (List Int))) (inner := []) (ok := (fun k_ => (w.heap.size ≤ k_) ∧ some k_ ≠ (v444 : Value).ownBlock ∧ k_ ≠ gb441)) (okp := (fun k_ => (w.heap.size ≤ k_) ∧ some k_ ≠ (v444 : Value).ownBlock ∧ k_ ≠ gb441)) ?hr ?hp (fun _ hk => hk) ((show ∀ k_, w11.heap.size ≤ k_ → (fun k_ => (w.heap.size ≤ k_) ∧ some k_ ≠ (v444 : Value).ownBlock ∧ k_ ≠ gb441) k_ from fun k_ hk => ⟨(Nat.le_trans (below_size hbs_) hk), Kd.fresh' (Kd.N_lt (Kd.N_below HO445.out bgo_)) k_ hk, Kd.freshB (g := gb441) (o := .cells #[.int .i64 a0_0, .slice A0_1 l0_1.length c0_1] 29 (0, 0)) (blk_below BK441.out bgo_) k_ hk⟩) _ (Nat.le_refl _)) (Below.refl _ _) (Nat.le_refl _) (by simp) ?_; (case hd => rfl); (case hg => rfl); (case hr => first | (go_simp; done) | (go_simp; rfl)); (case hp => exact (Reps.none _ _)); intro v448 w12 ho13 hb hg_ hnew_; clear hg_ hnew_; (first | rw [← Ny447.out] at ho13 | (simp only [Int.reduceToNat] at ho13; rw [← Ny447.out] at ho13)); replace HO445 := Aside0.mk (Kd.N_elder' (Kd.N_below HO445.out bgo_) (Kd.N_base ho13) hb); have HO449 := Aside0.mk (Kd.N_lower ho13 (below_size hbs_)); replace BK441 := Aside0.mk (blk_below (g := gb441) (o := .cells #[.int .i64 a0_0, .slice A0_1 l0_1.length c0_1] 29 (0, 0)) (blk_below BK441.out bgo_) hb); replace HB := Aside0.mk (below_step hbs_ hb); clear hb ho13))
   go_loopg [9, 10] k (fun kq v9 v10 w' => ∃ (x9_1 : List (List Int)) (x10_1 : Int), v10 = .int .i64 x10_1 ∧ Aside0 (spec_PrimeCycles.l0 kq t443 x9_1 x10_1 a0_0 l0_1 = some (r1, r2)) ∧ Aside0 (kq ≤ k) ∧ Aside0 (Kd.N (Kd.slice 2 (Kd.int .i64)) 26 w' w.heap.size (fun k_ => (w.heap.size ≤ k_) ∧ some k_ ≠ (v9 : Value).ownBlock ∧ k_ ≠ gb441) v444 t443) ∧ Aside0 (Kd.N (Kd.slice 2 (Kd.int .i64)) 26 w' w.heap.size (fun k_ => (w.heap.size ≤ k_) ∧ some k_ ≠ (v444 : Value).ownBlock ∧ k_ ≠ gb441) v9 x9_1) ∧ Aside0 (w'.heap[gb441]? = some (.cells #[.int .i64 a0_0, (.slice A0_1 l0_1.length c0_1)] 29 (0, 0))) ∧ Aside0 (Below w.heap.size w w'))
   case atStart => exact ⟨(y447), (0), es_, H', ⟨Nat.le_refl _⟩, ⟨by (with_reducible repeat (first | apply Kd.N_alloc | apply Kd.N_drewN | apply Kd.N_drew)); exact Kd.N_mono HO445.out (fun _ hk => ⟨hk.1.1, ⟨hk.2, hk.1.2⟩⟩)⟩, ⟨Kd.N_below HO449.out bgo_⟩, ⟨blk_below BK441.out bgo_⟩, ⟨hbs_⟩⟩
   case round =>
    clear H'
    obtain ⟨x9_1, x10_1, rfl, HA, HK1, HO_7, HO_9, BK441, HB⟩ := hrel
    cases gk with
    | zero => exact absurd HA.out (by simp [spec_PrimeCycles.l0])
    | succ k1 =>
     have H := HA.out
     clear HA
     simp only [spec_PrimeCycles.l0] at H
     by_cases c14 : x10_1 < (t443.length : Int)
     ·rw [if_pos c14] at H
      have c14b0 := decide_eq_true c14
      clear c14
      obtain ⟨c15, H⟩ := itn_ H
      have c15b0 := decide_eq_true c15
      clear c15
      obtain ⟨t451, A16, H⟩ := bnd_ H
      by_cases c17 : t451 = true
      ·subst c17
       have H1 : ((spec_l03Least.f k1 (rd_L1 t443 x10_1)).bind fun t453 => ((spec_l03Before.f k1 t453 (rd_L1 t443 x10_1)).bind fun t457 => (if t457 = true then (spec_PrimeCycles.l0 k1 t443 x9_1 (wrap64 (x10_1 + 1)) a0_0 l0_1) else (if x9_1.length < 5864062014805 then (spec_PrimeCycles.l0 k1 t443 (x9_1 ++ [rd_L1 t443 x10_1]) (wrap64 (x10_1 + 1)) a0_0 l0_1) else (none))))) = some (r1, r2) := by rw [if_pos rfl] at H; exact H
       clear H
       have H := H1
       clear H1
       obtain ⟨t453, A18, H⟩ := bnd_ H
       obtain ⟨t457, A19, H⟩ := bnd_ H
       by_cases c20 : t457 = true
       ·subst c20
        have H1 : (spec_PrimeCycles.l0 k1 t443 x9_1 (wrap64 (x10_1 + 1)) a0_0 l0_1) = some (r1, r2) := by rw [if_pos rfl] at H; exact H
        clear H
        have H := H1
        clear H1
        have H' := Aside0.mk H
        clear H
        obtain ⟨Ao21, co21, eo21⟩ := Kd.N_slice HO_7.out
        subst eo21
        try go_wp2
        have n0_ := Aside0.mk (Kd.N_drew HO_7.out)
        have n1_ := Aside0.mk (Kd.N_drew HO_9.out)
        have n2_ := Aside0.mk (blk_drew BK441.out)
        have n3_ := Aside0.mk (below_drew1 HB.out)
        clear HO_7
        clear HO_9
        clear BK441
        clear HB
        have HO_7 := n0_
        have HO_9 := n1_
        have BK441 := n2_
        have HB := n3_
        clear n0_ n1_ n2_ n3_
        have p450 : 0 ≤ (x10_1 : Int) := od_
        have q450 : x10_1 < (t443.length : Int) := od_
        obtain ⟨ad450, A450_0, c450_0, e450, hx450_0, hl450_0, hi450_0⟩ := at_L1 (Kd.N_reads' HO_7.out).2.2 x10_1 p450 q450
        cases e450
        obtain ⟨ce450, hce450, hMe450, hcc450⟩ := Kd.N_get HO_7.out [] x10_1 p450 (by first | exact q450 | exact od_ | (have e_ := (Kd.N_reads' HO_7.out).1; omega))
        obtain ⟨ua450_0, uc450_0, rfl, ul450_0, ge450_0⟩ := Kd.FK_slice_open hMe450
        have hv450_0 := hcc450 0 _ rfl
        rw [Nat.add_zero, show ((Kd.slice 2 (Kd.int .i64))).sz = 1 from rfl, Nat.mul_one] at hv450_0
        replace hv450_0 := Option.some.inj (hv450_0.symm.trans hx450_0)
        injection hv450_0 with hva_ hvn_ hvc_
        rw [hva_] at ge450_0
        rw [hvc_] at ul450_0
        have HL450_0 := Aside0.mk (show Kd.V (Kd.int .i64) 2 _ w.heap.size _ _ (rd_L1 t443 x10_1) from Kd.V_mk ul450_0 ge450_0)
        clear hva_ hvn_ hvc_ ge450_0 ul450_0
        clear hcc450 hce450
        have HR450_0 := Aside0.mk hi450_0
        have HC450_0 := Aside0.mk hl450_0
        clear hi450_0 hl450_0
        replace p450 := eq_true p450
        replace q450 := eq_true q450
        have p452 : 0 ≤ (x10_1 : Int) := od_
        have q452 : x10_1 < (t443.length : Int) := od_
        obtain ⟨ad452, A452_0, c452_0, e452, hx452_0, hl452_0, hi452_0⟩ := at_L1 (Kd.N_reads' HO_7.out).2.2 x10_1 p452 q452
        obtain rfl : ad450 = ad452 := (by injection e452)
        obtain ⟨ce452, hce452, hMe452, hcc452⟩ := Kd.N_get HO_7.out [] x10_1 p452 (by first | exact q452 | exact od_ | (have e_ := (Kd.N_reads' HO_7.out).1; omega))
        obtain ⟨ua452_0, uc452_0, rfl, ul452_0, ge452_0⟩ := Kd.FK_slice_open hMe452
        have hv452_0 := hcc452 0 _ rfl
        rw [Nat.add_zero, show ((Kd.slice 2 (Kd.int .i64))).sz = 1 from rfl, Nat.mul_one] at hv452_0
        replace hv452_0 := Option.some.inj (hv452_0.symm.trans hx452_0)
        injection hv452_0 with hva_ hvn_ hvc_
        rw [hva_] at ge452_0
        rw [hvc_] at ul452_0
        have HL452_0 := Aside0.mk (show Kd.V (Kd.int .i64) 2 _ w.heap.size _ _ (rd_L1 t443 x10_1) from Kd.V_mk ul452_0 ge452_0)
        clear hva_ hvn_ hvc_ ge452_0 ul452_0
        clear hcc452 hce452
        have HR452_0 := Aside0.mk hi452_0
        have HC452_0 := Aside0.mk hl452_0
        clear hi452_0 hl452_0
        replace p452 := eq_true p452
        replace q452 := eq_true q452
        have p456 : 0 ≤ (x10_1 : Int) := od_
        have q456 : x10_1 < (t443.length : Int) := od_
        obtain ⟨ad456, A456_0, c456_0, e456, hx456_0, hl456_0, hi456_0⟩ := at_L1 (Kd.N_reads' HO_7.out).2.2 x10_1 p456 q456
        obtain rfl : ad450 = ad456 := (by injection e456)
        obtain ⟨ce456, hce456, hMe456, hcc456⟩ := Kd.N_get HO_7.out [] x10_1 p456 (by first | exact q456 | exact od_ | (have e_ := (Kd.N_reads' HO_7.out).1; omega))
        obtain ⟨ua456_0, uc456_0, rfl, ul456_0, ge456_0⟩ := Kd.FK_slice_open hMe456
        have hv456_0 := hcc456 0 _ rfl
        rw [Nat.add_zero, show ((Kd.slice 2 (Kd.int .i64))).sz = 1 from rfl, Nat.mul_one] at hv456_0
        replace hv456_0 := Option.some.inj (hv456_0.symm.trans hx456_0)
        injection hv456_0 with hva_ hvn_ hvc_
        rw [hva_] at ge456_0
        rw [hvc_] at ul456_0
        have HL456_0 := Aside0.mk (show Kd.V (Kd.int .i64) 2 _ w.heap.size _ _ (rd_L1 t443 x10_1) from Kd.V_mk ul456_0 ge456_0)
        clear hva_ hvn_ hvc_ ge456_0 ul456_0
        clear hcc456 hce456
        have HR456_0 := Aside0.mk hi456_0
        have HC456_0 := Aside0.mk hl456_0
        clear hi456_0 hl456_0
        replace p456 := eq_true p456
        replace q456 := eq_true q456
        have ea_ := Option.some.inj (hx450_0.symm.trans hx452_0)
        injection ea_ with ea_ en_ ec_
        subst ea_
        subst ec_
        clear en_
        have ea_ := Option.some.inj (hx450_0.symm.trans hx456_0)
        injection ea_ with ea_ en_ ec_
        subst ea_
        subst ec_
        clear en_
        refine start_ (n := 19) (S := fun w' => w'.cell? ⟨gb441, 0, none⟩ = some (.int .i64 a0_0) ∧ w'.cell? ⟨gb441, 1, none⟩ = some (.slice A0_1 l0_1.length c0_1) ∧ w'.cell? (ad450.add (x10_1).toNat) = some (.slice A450_0 (rd_L1 t443 x10_1).length c450_0) ∧ w'.cell? (ad450.add (x10_1).toNat) = some (.slice A450_0 (rd_L1 t443 x10_1).length c450_0) ∧ w'.cell? (ad450.add (x10_1).toNat) = some (.slice A450_0 (rd_L1 t443 x10_1).length c450_0)) (ds := []) #[false, false, false, false, false, false, false, false, false, false, false, false, false, false, false, false, false, false, false] (by kernel_rfl) rfl rfl ⟨(blk_cell BK441.out 0).trans rfl, (blk_cell BK441.out 1).trans rfl, hx450_0, hx452_0, hx456_0⟩ (fun hHeld => ?_); refine with_tabW spec_PrimeCycles.tab11 spec_PrimeCycles.bits11 (fun HT_ HW_ => ?_)
        generalize wr.drew = w22 at HO_7 HO_9 BK441 HB HL450_0 HL452_0 HL456_0 HR450_0 HR452_0 HR456_0 hx450_0 hx452_0 hx456_0 hHeld ⊢
        refine pk_ 1 19 33 2 ?_
        refine pk_ 2 19 34 6 ?_
        refine pk_ 3 19 35 14 ?_
        refine tk_ 0 19 32 15 hHeld ?_
        refine tk_ 4 19 36 31 hHeld ?_
        refine one_ (i := 5) (N := some 37) #[true, true, true, true, true, true, false, false, false, false, false, false, false, false, false, false, false, false, false] rfl rfl (one_of HT_.out (by kernel_rfl)) (by decide) (fun K hK => ?_)
        refine goes_ Try.func76 (by kernel_rfl) rfl #[.agg #[.int .i64 a0_0, .slice A0_1 l0_1.length c0_1], .slice A450_0 (rd_L1 t443 x10_1).length c450_0] (by rfl) rfl rfl arg_ ?_
        with_reducible refine (spec_l03Prime.calls k1 a0_0 _ _ l0_1 _ _ (rd_L1 t443 x10_1) true _ ?side1 ?side2 ?side3 ?side4 A16.out).mono ?_
        (case side1 => exact Kd.C_below (Kd.C_below HR0_1.out HB.out) bgo_)
        (case side2 => exact HC0_1.out)
        (case side3 => repeat (first | exact (by repeat (first | (with_reducible exact HR450_0.out) | (with_reducible refine Kd.C_alloc ?_ _) | (with_reducible refine Kd.C_drewN ?_ _) | (with_reducible refine Kd.C_drew ?_) | exact HR450_0.out)) | (with_reducible refine Kd.C_alloc ?_ _) | (with_reducible refine Kd.C_drewN ?_ _) | (with_reducible refine Kd.C_drew ?_)))
        (case side4 => exact HC450_0.out)
        rintro e w23 ⟨rfl, hb⟩
        have HS2_ := (hb.cell (World.block_lt_of_cell? _ _ (hHeld.2.2.1))).trans (hHeld.2.2.1)
        have HS3_ := (hb.cell (World.block_lt_of_cell? _ _ (hHeld.2.2.2.1))).trans (hHeld.2.2.2.1)
        have HS4_ := (hb.cell (World.block_lt_of_cell? _ _ (hHeld.2.2.2.2))).trans (hHeld.2.2.2.2)
        refine ⟨_, rfl, ?_⟩
        have n0_ := Aside0.mk (Kd.N_below (Kd.N_below HO_7.out bgo_) hb)
        have n1_ := Aside0.mk (Kd.N_below (Kd.N_below HO_9.out bgo_) hb)
        have n2_ := Aside0.mk (Kd.V_below (by (with_reducible repeat (first | apply Kd.V_alloc | apply Kd.V_drewN | apply Kd.V_drew)); exact HL450_0.out) hb)
        have n3_ := Aside0.mk (blk_below (g := gb441) (o := .cells #[.int .i64 a0_0, .slice A0_1 l0_1.length c0_1] 29 (0, 0)) (blk_below BK441.out bgo_) hb)
        have n4_ := Aside0.mk (Kd.C_below (by repeat (first | (with_reducible exact HR450_0.out) | (with_reducible refine Kd.C_alloc ?_ _) | (with_reducible refine Kd.C_drewN ?_ _) | (with_reducible refine Kd.C_drew ?_) | exact HR450_0.out)) hb)
        have n5_ := Aside0.mk (below_step hbs_ hb)
        clear HO_7
        clear HO_9
        clear HL450_0
        clear BK441
        clear HR450_0
        clear HB
        have HO_7 := n0_
        have HO_9 := n1_
        have HL450_0 := n2_
        have BK441 := n3_
        have HR450_0 := n4_
        have HB := n5_
        clear n0_ n1_ n2_ n3_ n4_ n5_
        (try replace HL452_0 := HL450_0)
        (try replace HR452_0 := HR450_0)
        (try replace HL456_0 := HL450_0)
        (try replace HR456_0 := HR450_0)
        (try clear hb)
        (try clear hb2)
        (try clear hk)
        (try clear hi)
        refine hK.out _ _ ⟨(blk_cell BK441.out 0).trans rfl, (blk_cell BK441.out 1).trans rfl, HS2_, HS3_, HS4_⟩ (fun hHeld => ?_)
        clear hK K
        refine norm_ (a' := ?_) ?_ ?_
        rotate_left
        ·show Act.put _ (some 37) _ = _
         simp only [Act.put, nf_]
         rfl
        refine pk_ 6 19 38 127 ?_
        refine pk_ 7 19 39 255 ?_
        refine pk_ 8 19 40 511 ?_
        refine pk_ 9 19 41 1023 ?_
        refine pk_ 12 19 44 5119 ?_
        refine pk_ 13 19 45 13311 ?_
        refine pk_ 14 19 46 29695 ?_
        refine tk_ 10 19 42 30719 hHeld ?_
        refine tk_ 15 19 47 63487 hHeld ?_
        refine one_ (i := 11) (N := some 43) #[true, true, true, true, true, true, true, true, true, true, true, true, true, true, true, true, false, false, false] rfl rfl (one_of HT_.out (by kernel_rfl)) (by decide) (fun K hK => ?_)
        refine goes_ Try.func78 (by kernel_rfl) rfl #[.slice A450_0 (rd_L1 t443 x10_1).length c450_0] (by rfl) rfl rfl arg_ ?_
        with_reducible refine (spec_l03Least.calls k1 _ _ (rd_L1 t443 x10_1) t453 _ ?side1 ?side2 A18.out).mono ?_
        (case side1 => repeat (first | exact (by repeat (first | (with_reducible exact HR452_0.out) | (with_reducible refine Kd.C_alloc ?_ _) | (with_reducible refine Kd.C_drewN ?_ _) | (with_reducible refine Kd.C_drew ?_) | exact HR452_0.out)) | (with_reducible refine Kd.C_alloc ?_ _) | (with_reducible refine Kd.C_drewN ?_ _) | (with_reducible refine Kd.C_drew ?_)))
        (case side2 => exact HC452_0.out)
        rintro e w24 ⟨v454, rfl, ho0, hb⟩
        have HS2_ := (hb.cell (World.block_lt_of_cell? _ _ (hHeld.2.2.1))).trans (hHeld.2.2.1)
        have HS3_ := (hb.cell (World.block_lt_of_cell? _ _ (hHeld.2.2.2.1))).trans (hHeld.2.2.2.1)
        have HS4_ := (hb.cell (World.block_lt_of_cell? _ _ (hHeld.2.2.2.2))).trans (hHeld.2.2.2.2)
        refine ⟨_, rfl, ?_⟩
        have n0_ := Aside0.mk (Kd.N_elder' (Kd.N_below HO_7.out bgo_) (Kd.R_base ho0) hb)
        have n1_ := Aside0.mk (Kd.N_elder' (Kd.N_below HO_9.out bgo_) (Kd.R_base ho0) hb)
        have n2_ := Aside0.mk (Kd.V_elder' (by (with_reducible repeat (first | apply Kd.V_alloc | apply Kd.V_drewN | apply Kd.V_drew)); exact HL450_0.out) (Kd.R_base ho0) hb)
        have n3_ := Aside0.mk (Kd.V_elder' (by (with_reducible repeat (first | apply Kd.V_alloc | apply Kd.V_drewN | apply Kd.V_drew)); exact HL452_0.out) (Kd.R_base ho0) hb)
        have n4_ := Aside0.mk (Kd.R_lower (Kd.R_newM (M := fun k_ => (w.heap.size ≤ k_)) ho0 (below_size hbs_) (fun k_ h_ => h_)) (below_size hbs_))
        have n5_ := Aside0.mk (blk_below (g := gb441) (o := .cells #[.int .i64 a0_0, .slice A0_1 l0_1.length c0_1] 29 (0, 0)) (blk_below BK441.out bgo_) hb)
        have n6_ := Aside0.mk (Kd.C_below (by repeat (first | (with_reducible exact HR450_0.out) | (with_reducible refine Kd.C_alloc ?_ _) | (with_reducible refine Kd.C_drewN ?_ _) | (with_reducible refine Kd.C_drew ?_) | exact HR450_0.out)) hb)
        have n7_ := Aside0.mk (Kd.C_below (by repeat (first | (with_reducible exact HR452_0.out) | (with_reducible refine Kd.C_alloc ?_ _) | (with_reducible refine Kd.C_drewN ?_ _) | (with_reducible refine Kd.C_drew ?_) | exact HR452_0.out)) hb)
        have n8_ := Aside0.mk (below_step hbs_ hb)
        clear HO_7
        clear HO_9
        clear HL450_0
        clear HL452_0
        clear BK441
        clear HR450_0
        clear HR452_0
        clear HB
        have HO_7 := n0_
        have HO_9 := n1_
        have HL450_0 := n2_
        have HL452_0 := n3_
        have HO455 := n4_
        have BK441 := n5_
        have HR450_0 := n6_
        have HR452_0 := n7_
        have HB := n8_
        clear n0_ n1_ n2_ n3_ n4_ n5_ n6_ n7_ n8_
        (try replace HL456_0 := HL450_0)
        (try replace HR456_0 := HR450_0)
        (try clear hb)
        (try clear hb2)
        (try clear hk)
        (try clear hi)
        (try clear ho0)
        obtain ⟨Ao25, co25, eo25⟩ := Kd.R_slice HO455.out
        (first | subst eo25 | (injection eo25 with f1_ f2_ f3_; have f4_ := f1_.symm; have f5_ := f3_.symm; clear f1_ f2_ f3_; subst f4_; subst f5_))
        refine hK.out _ _ ⟨(blk_cell BK441.out 0).trans rfl, (blk_cell BK441.out 1).trans rfl, HS2_, HS3_, HS4_⟩ (fun hHeld => ?_)
        clear hK K
        refine norm_ (a' := ?_) ?_ ?_
        rotate_left
        ·show Act.put _ (some 43) _ = _
         simp only [Act.put, nf_]
         rfl
        refine one_ (i := 16) (N := some 48) #[true, true, true, true, true, true, true, true, true, true, true, true, true, true, true, true, true, false, false] rfl rfl (one_of HT_.out (by kernel_rfl)) (by decide) (fun K hK => ?_)
        refine goes_ Try.func77 (by kernel_rfl) rfl #[.slice Ao25 t453.length co25, .slice A450_0 (rd_L1 t443 x10_1).length c450_0] (by rfl) rfl rfl arg_ ?_
        with_reducible refine (spec_l03Before.calls k1 _ _ t453 _ _ (rd_L1 t443 x10_1) true _ ?side1 ?side2 ?side3 ?side4 A19.out).mono ?_
        (case side1 => exact Kd.C_below (Kd.R_reads' HO455.out).2.2 bgo_)
        (case side2 => exact (Kd.R_reads' HO455.out).2.1)
        (case side3 => repeat (first | exact (by repeat (first | (with_reducible exact HR456_0.out) | (with_reducible refine Kd.C_alloc ?_ _) | (with_reducible refine Kd.C_drewN ?_ _) | (with_reducible refine Kd.C_drew ?_) | exact HR456_0.out)) | (with_reducible refine Kd.C_alloc ?_ _) | (with_reducible refine Kd.C_drewN ?_ _) | (with_reducible refine Kd.C_drew ?_)))
        (case side4 => exact HC456_0.out)
        rintro e w' ⟨rfl, ⟨nd, rfl⟩⟩
        refine ⟨_, rfl, ?_⟩
        refine hK.out _ _ ⟨(blk_cell BK441.out 0).trans rfl, (blk_cell BK441.out 1).trans rfl, hHeld.2.2.1, hHeld.2.2.2.1, hHeld.2.2.2.2⟩ (fun hHeld => ?_)
        clear hK K
        refine norm_ (a' := ?_) ?_ ?_
        rotate_left
        ·show Act.put _ (some 48) _ = _
         simp only [Act.put, nf_]
         rfl
        refine pk_ 17 19 49 262143 ?_
        refine pk_ 18 19 50 524287 ?_
        refine done_ (done_of HT_.out (by kernel_rfl)) ?_
        try go_wp2
        first | go_roundg k1 | (refine Handed.intro k1 ?measure ?_; rotate_left; go_step; (try simp only [add_plain]); (repeat apply Exists.intro); refine ⟨?rel, rfl⟩)
        case measure => have := HK1.out; omega
        case rel => exact ⟨(x9_1), (wrap64 (x10_1 + 1)), es_, H', ⟨by have := HK1.out; omega⟩, ⟨by (with_reducible repeat (first | apply Kd.N_alloc | apply Kd.N_drewN | apply Kd.N_drew)); exact Kd.N_mono HO_7.out (fun _ hk => ⟨hk.1.1, ⟨hk.1.2.1, hk.1.2.2⟩⟩)⟩, ⟨by (with_reducible repeat (first | apply Kd.N_alloc | apply Kd.N_drewN | apply Kd.N_drew)); exact Kd.N_mono HO_9.out (fun _ hk => ⟨hk.1.1, ⟨hk.1.2.1, hk.1.2.2⟩⟩)⟩, ⟨blk_below BK441.out bgo_⟩, ⟨hbs_⟩⟩
       ·replace c20 := Bool.eq_false_iff.mpr c20
        subst c20
        have H1 : (if x9_1.length < 5864062014805 then (spec_PrimeCycles.l0 k1 t443 (x9_1 ++ [rd_L1 t443 x10_1]) (wrap64 (x10_1 + 1)) a0_0 l0_1) else (none)) = some (r1, r2) := by rw [if_neg (show ¬ (false = true) by decide)] at H; exact H
        clear H
        have H := H1
        clear H1
        obtain ⟨c26, H⟩ := itn_ H
        have LMc26 := Aside0.mk c26
        clear c26
        obtain ⟨y459, Ny459, H⟩ : ∃ y459 : List (List Int), Aside0 (y459 = (x9_1 ++ [rd_L1 t443 x10_1])) ∧ (spec_PrimeCycles.l0 k1 t443 y459 (wrap64 (x10_1 + 1)) a0_0 l0_1) = some (r1, r2) := ⟨_, ⟨rfl⟩, H⟩
        have H' := Aside0.mk H
        clear H
        obtain ⟨Ao27, co27, eo27⟩ := Kd.N_slice HO_7.out
        subst eo27
        try go_wp2
        have n0_ := Aside0.mk (Kd.N_drew HO_7.out)
        have n1_ := Aside0.mk (Kd.N_drew HO_9.out)
        have n2_ := Aside0.mk (blk_drew BK441.out)
        have n3_ := Aside0.mk (below_drew1 HB.out)
        clear HO_7
        clear HO_9
        clear BK441
        clear HB
        have HO_7 := n0_
        have HO_9 := n1_
        have BK441 := n2_
        have HB := n3_
        clear n0_ n1_ n2_ n3_
        have p450 : 0 ≤ (x10_1 : Int) := od_
        have q450 : x10_1 < (t443.length : Int) := od_
        obtain ⟨ad450, A450_0, c450_0, e450, hx450_0, hl450_0, hi450_0⟩ := at_L1 (Kd.N_reads' HO_7.out).2.2 x10_1 p450 q450
        cases e450
        obtain ⟨ce450, hce450, hMe450, hcc450⟩ := Kd.N_get HO_7.out [] x10_1 p450 (by first | exact q450 | exact od_ | (have e_ := (Kd.N_reads' HO_7.out).1; omega))
        obtain ⟨ua450_0, uc450_0, rfl, ul450_0, ge450_0⟩ := Kd.FK_slice_open hMe450
        have hv450_0 := hcc450 0 _ rfl
        rw [Nat.add_zero, show ((Kd.slice 2 (Kd.int .i64))).sz = 1 from rfl, Nat.mul_one] at hv450_0
        replace hv450_0 := Option.some.inj (hv450_0.symm.trans hx450_0)
        injection hv450_0 with hva_ hvn_ hvc_
        rw [hva_] at ge450_0
        rw [hvc_] at ul450_0
        have HL450_0 := Aside0.mk (show Kd.V (Kd.int .i64) 2 _ w.heap.size _ _ (rd_L1 t443 x10_1) from Kd.V_mk ul450_0 ge450_0)
        clear hva_ hvn_ hvc_ ge450_0 ul450_0
        clear hcc450 hce450
        have HR450_0 := Aside0.mk hi450_0
        have HC450_0 := Aside0.mk hl450_0
        clear hi450_0 hl450_0
        replace p450 := eq_true p450
        replace q450 := eq_true q450
        have p452 : 0 ≤ (x10_1 : Int) := od_
        have q452 : x10_1 < (t443.length : Int) := od_
        obtain ⟨ad452, A452_0, c452_0, e452, hx452_0, hl452_0, hi452_0⟩ := at_L1 (Kd.N_reads' HO_7.out).2.2 x10_1 p452 q452
        obtain rfl : ad450 = ad452 := (by injection e452)
        obtain ⟨ce452, hce452, hMe452, hcc452⟩ := Kd.N_get HO_7.out [] x10_1 p452 (by first | exact q452 | exact od_ | (have e_ := (Kd.N_reads' HO_7.out).1; omega))
        obtain ⟨ua452_0, uc452_0, rfl, ul452_0, ge452_0⟩ := Kd.FK_slice_open hMe452
        have hv452_0 := hcc452 0 _ rfl
        rw [Nat.add_zero, show ((Kd.slice 2 (Kd.int .i64))).sz = 1 from rfl, Nat.mul_one] at hv452_0
        replace hv452_0 := Option.some.inj (hv452_0.symm.trans hx452_0)
        injection hv452_0 with hva_ hvn_ hvc_
        rw [hva_] at ge452_0
        rw [hvc_] at ul452_0
        have HL452_0 := Aside0.mk (show Kd.V (Kd.int .i64) 2 _ w.heap.size _ _ (rd_L1 t443 x10_1) from Kd.V_mk ul452_0 ge452_0)
        clear hva_ hvn_ hvc_ ge452_0 ul452_0
        clear hcc452 hce452
        have HR452_0 := Aside0.mk hi452_0
        have HC452_0 := Aside0.mk hl452_0
        clear hi452_0 hl452_0
        replace p452 := eq_true p452
        replace q452 := eq_true q452
        have p456 : 0 ≤ (x10_1 : Int) := od_
        have q456 : x10_1 < (t443.length : Int) := od_
        obtain ⟨ad456, A456_0, c456_0, e456, hx456_0, hl456_0, hi456_0⟩ := at_L1 (Kd.N_reads' HO_7.out).2.2 x10_1 p456 q456
        obtain rfl : ad450 = ad456 := (by injection e456)
        obtain ⟨ce456, hce456, hMe456, hcc456⟩ := Kd.N_get HO_7.out [] x10_1 p456 (by first | exact q456 | exact od_ | (have e_ := (Kd.N_reads' HO_7.out).1; omega))
        obtain ⟨ua456_0, uc456_0, rfl, ul456_0, ge456_0⟩ := Kd.FK_slice_open hMe456
        have hv456_0 := hcc456 0 _ rfl
        rw [Nat.add_zero, show ((Kd.slice 2 (Kd.int .i64))).sz = 1 from rfl, Nat.mul_one] at hv456_0
        replace hv456_0 := Option.some.inj (hv456_0.symm.trans hx456_0)
        injection hv456_0 with hva_ hvn_ hvc_
        rw [hva_] at ge456_0
        rw [hvc_] at ul456_0
        have HL456_0 := Aside0.mk (show Kd.V (Kd.int .i64) 2 _ w.heap.size _ _ (rd_L1 t443 x10_1) from Kd.V_mk ul456_0 ge456_0)
        clear hva_ hvn_ hvc_ ge456_0 ul456_0
        clear hcc456 hce456
        have HR456_0 := Aside0.mk hi456_0
        have HC456_0 := Aside0.mk hl456_0
        clear hi456_0 hl456_0
        replace p456 := eq_true p456
        replace q456 := eq_true q456
        have ea_ := Option.some.inj (hx450_0.symm.trans hx452_0)
        injection ea_ with ea_ en_ ec_
        subst ea_
        subst ec_
        clear en_
        have ea_ := Option.some.inj (hx450_0.symm.trans hx456_0)
        injection ea_ with ea_ en_ ec_
        subst ea_
        subst ec_
        clear en_
        refine start_ (n := 19) (S := fun w' => w'.cell? ⟨gb441, 0, none⟩ = some (.int .i64 a0_0) ∧ w'.cell? ⟨gb441, 1, none⟩ = some (.slice A0_1 l0_1.length c0_1) ∧ w'.cell? (ad450.add (x10_1).toNat) = some (.slice A450_0 (rd_L1 t443 x10_1).length c450_0) ∧ w'.cell? (ad450.add (x10_1).toNat) = some (.slice A450_0 (rd_L1 t443 x10_1).length c450_0) ∧ w'.cell? (ad450.add (x10_1).toNat) = some (.slice A450_0 (rd_L1 t443 x10_1).length c450_0)) (ds := []) #[false, false, false, false, false, false, false, false, false, false, false, false, false, false, false, false, false, false, false] (by kernel_rfl) rfl rfl ⟨(blk_cell BK441.out 0).trans rfl, (blk_cell BK441.out 1).trans rfl, hx450_0, hx452_0, hx456_0⟩ (fun hHeld => ?_); refine with_tabW spec_PrimeCycles.tab11 spec_PrimeCycles.bits11 (fun HT_ HW_ => ?_)
        generalize wr.drew = w28 at HO_7 HO_9 BK441 HB HL450_0 HL452_0 HL456_0 HR450_0 HR452_0 HR456_0 hx450_0 hx452_0 hx456_0 hHeld ⊢
        refine pk_ 1 19 33 2 ?_
        refine pk_ 2 19 34 6 ?_
        refine pk_ 3 19 35 14 ?_
        refine tk_ 0 19 32 15 hHeld ?_
        refine tk_ 4 19 36 31 hHeld ?_
        refine one_ (i := 5) (N := some 37) #[true, true, true, true, true, true, false, false, false, false, false, false, false, false, false, false, false, false, false] rfl rfl (one_of HT_.out (by kernel_rfl)) (by decide) (fun K hK => ?_)
        refine goes_ Try.func76 (by kernel_rfl) rfl #[.agg #[.int .i64 a0_0, .slice A0_1 l0_1.length c0_1], .slice A450_0 (rd_L1 t443 x10_1).length c450_0] (by rfl) rfl rfl arg_ ?_
        with_reducible refine (spec_l03Prime.calls k1 a0_0 _ _ l0_1 _ _ (rd_L1 t443 x10_1) true _ ?side1 ?side2 ?side3 ?side4 A16.out).mono ?_
        (case side1 => exact Kd.C_below (Kd.C_below HR0_1.out HB.out) bgo_)
        (case side2 => exact HC0_1.out)
        (case side3 => repeat (first | exact (by repeat (first | (with_reducible exact HR450_0.out) | (with_reducible refine Kd.C_alloc ?_ _) | (with_reducible refine Kd.C_drewN ?_ _) | (with_reducible refine Kd.C_drew ?_) | exact HR450_0.out)) | (with_reducible refine Kd.C_alloc ?_ _) | (with_reducible refine Kd.C_drewN ?_ _) | (with_reducible refine Kd.C_drew ?_)))
        (case side4 => exact HC450_0.out)
        rintro e w29 ⟨rfl, hb⟩
        have HS2_ := (hb.cell (World.block_lt_of_cell? _ _ (hHeld.2.2.1))).trans (hHeld.2.2.1)
        have HS3_ := (hb.cell (World.block_lt_of_cell? _ _ (hHeld.2.2.2.1))).trans (hHeld.2.2.2.1)
        have HS4_ := (hb.cell (World.block_lt_of_cell? _ _ (hHeld.2.2.2.2))).trans (hHeld.2.2.2.2)
        refine ⟨_, rfl, ?_⟩
        have n0_ := Aside0.mk (Kd.N_below (Kd.N_below HO_7.out bgo_) hb)
        have n1_ := Aside0.mk (Kd.N_below (Kd.N_below HO_9.out bgo_) hb)
        have n2_ := Aside0.mk (Kd.V_below (by (with_reducible repeat (first | apply Kd.V_alloc | apply Kd.V_drewN | apply Kd.V_drew)); exact HL450_0.out) hb)
        have n3_ := Aside0.mk (blk_below (g := gb441) (o := .cells #[.int .i64 a0_0, .slice A0_1 l0_1.length c0_1] 29 (0, 0)) (blk_below BK441.out bgo_) hb)
        have n4_ := Aside0.mk (Kd.C_below (by repeat (first | (with_reducible exact HR450_0.out) | (with_reducible refine Kd.C_alloc ?_ _) | (with_reducible refine Kd.C_drewN ?_ _) | (with_reducible refine Kd.C_drew ?_) | exact HR450_0.out)) hb)
        have n5_ := Aside0.mk (below_step hbs_ hb)
        clear HO_7
        clear HO_9
        clear HL450_0
        clear BK441
        clear HR450_0
        clear HB
        have HO_7 := n0_
        have HO_9 := n1_
        have HL450_0 := n2_
        have BK441 := n3_
        have HR450_0 := n4_
        have HB := n5_
        clear n0_ n1_ n2_ n3_ n4_ n5_
        (try replace HL452_0 := HL450_0)
        (try replace HR452_0 := HR450_0)
        (try replace HL456_0 := HL450_0)
        (try replace HR456_0 := HR450_0)
        (try clear hb)
        (try clear hb2)
        (try clear hk)
        (try clear hi)
        refine hK.out _ _ ⟨(blk_cell BK441.out 0).trans rfl, (blk_cell BK441.out 1).trans rfl, HS2_, HS3_, HS4_⟩ (fun hHeld => ?_)
        clear hK K
        refine norm_ (a' := ?_) ?_ ?_
        rotate_left
        ·show Act.put _ (some 37) _ = _
         simp only [Act.put, nf_]
         rfl
        refine pk_ 6 19 38 127 ?_
        refine pk_ 7 19 39 255 ?_
        refine pk_ 8 19 40 511 ?_
        refine pk_ 9 19 41 1023 ?_
        refine pk_ 12 19 44 5119 ?_
        refine pk_ 13 19 45 13311 ?_
        refine pk_ 14 19 46 29695 ?_
        refine tk_ 10 19 42 30719 hHeld ?_
        refine tk_ 15 19 47 63487 hHeld ?_
        refine one_ (i := 11) (N := some 43) #[true, true, true, true, true, true, true, true, true, true, true, true, true, true, true, true, false, false, false] rfl rfl (one_of HT_.out (by kernel_rfl)) (by decide) (fun K hK => ?_)
        refine goes_ Try.func78 (by kernel_rfl) rfl #[.slice A450_0 (rd_L1 t443 x10_1).length c450_0] (by rfl) rfl rfl arg_ ?_
        with_reducible refine (spec_l03Least.calls k1 _ _ (rd_L1 t443 x10_1) t453 _ ?side1 ?side2 A18.out).mono ?_
        (case side1 => repeat (first | exact (by repeat (first | (with_reducible exact HR452_0.out) | (with_reducible refine Kd.C_alloc ?_ _) | (with_reducible refine Kd.C_drewN ?_ _) | (with_reducible refine Kd.C_drew ?_) | exact HR452_0.out)) | (with_reducible refine Kd.C_alloc ?_ _) | (with_reducible refine Kd.C_drewN ?_ _) | (with_reducible refine Kd.C_drew ?_)))
        (case side2 => exact HC452_0.out)
        rintro e w30 ⟨v454, rfl, ho0, hb⟩
        have HS2_ := (hb.cell (World.block_lt_of_cell? _ _ (hHeld.2.2.1))).trans (hHeld.2.2.1)
        have HS3_ := (hb.cell (World.block_lt_of_cell? _ _ (hHeld.2.2.2.1))).trans (hHeld.2.2.2.1)
        have HS4_ := (hb.cell (World.block_lt_of_cell? _ _ (hHeld.2.2.2.2))).trans (hHeld.2.2.2.2)
        refine ⟨_, rfl, ?_⟩
        have n0_ := Aside0.mk (Kd.N_elder' (Kd.N_below HO_7.out bgo_) (Kd.R_base ho0) hb)
        have n1_ := Aside0.mk (Kd.N_elder' (Kd.N_below HO_9.out bgo_) (Kd.R_base ho0) hb)
        have n2_ := Aside0.mk (Kd.V_elder' (by (with_reducible repeat (first | apply Kd.V_alloc | apply Kd.V_drewN | apply Kd.V_drew)); exact HL450_0.out) (Kd.R_base ho0) hb)
        have n3_ := Aside0.mk (Kd.V_elder' (by (with_reducible repeat (first | apply Kd.V_alloc | apply Kd.V_drewN | apply Kd.V_drew)); exact HL452_0.out) (Kd.R_base ho0) hb)
        have n4_ := Aside0.mk (Kd.R_lower (Kd.R_newM (M := fun k_ => (w.heap.size ≤ k_)) ho0 (below_size hbs_) (fun k_ h_ => h_)) (below_size hbs_))
        have n5_ := Aside0.mk (blk_below (g := gb441) (o := .cells #[.int .i64 a0_0, .slice A0_1 l0_1.length c0_1] 29 (0, 0)) (blk_below BK441.out bgo_) hb)
        have n6_ := Aside0.mk (Kd.C_below (by repeat (first | (with_reducible exact HR450_0.out) | (with_reducible refine Kd.C_alloc ?_ _) | (with_reducible refine Kd.C_drewN ?_ _) | (with_reducible refine Kd.C_drew ?_) | exact HR450_0.out)) hb)
        have n7_ := Aside0.mk (Kd.C_below (by repeat (first | (with_reducible exact HR452_0.out) | (with_reducible refine Kd.C_alloc ?_ _) | (with_reducible refine Kd.C_drewN ?_ _) | (with_reducible refine Kd.C_drew ?_) | exact HR452_0.out)) hb)
        have n8_ := Aside0.mk (below_step hbs_ hb)
        clear HO_7
        clear HO_9
        clear HL450_0
        clear HL452_0
        clear BK441
        clear HR450_0
        clear HR452_0
        clear HB
        have HO_7 := n0_
        have HO_9 := n1_
        have HL450_0 := n2_
        have HL452_0 := n3_
        have HO455 := n4_
        have BK441 := n5_
        have HR450_0 := n6_
        have HR452_0 := n7_
        have HB := n8_
        clear n0_ n1_ n2_ n3_ n4_ n5_ n6_ n7_ n8_
        (try replace HL456_0 := HL450_0)
        (try replace HR456_0 := HR450_0)
        (try clear hb)
        (try clear hb2)
        (try clear hk)
        (try clear hi)
        (try clear ho0)
        obtain ⟨Ao31, co31, eo31⟩ := Kd.R_slice HO455.out
        (first | subst eo31 | (injection eo31 with f1_ f2_ f3_; have f4_ := f1_.symm; have f5_ := f3_.symm; clear f1_ f2_ f3_; subst f4_; subst f5_))
        refine hK.out _ _ ⟨(blk_cell BK441.out 0).trans rfl, (blk_cell BK441.out 1).trans rfl, HS2_, HS3_, HS4_⟩ (fun hHeld => ?_)
        clear hK K
        refine norm_ (a' := ?_) ?_ ?_
        rotate_left
        ·show Act.put _ (some 43) _ = _
         simp only [Act.put, nf_]
         rfl
        refine one_ (i := 16) (N := some 48) #[true, true, true, true, true, true, true, true, true, true, true, true, true, true, true, true, true, false, false] rfl rfl (one_of HT_.out (by kernel_rfl)) (by decide) (fun K hK => ?_)
        refine goes_ Try.func77 (by kernel_rfl) rfl #[.slice Ao31 t453.length co31, .slice A450_0 (rd_L1 t443 x10_1).length c450_0] (by rfl) rfl rfl arg_ ?_
        with_reducible refine (spec_l03Before.calls k1 _ _ t453 _ _ (rd_L1 t443 x10_1) false _ ?side1 ?side2 ?side3 ?side4 A19.out).mono ?_
        (case side1 => exact Kd.C_below (Kd.R_reads' HO455.out).2.2 bgo_)
        (case side2 => exact (Kd.R_reads' HO455.out).2.1)
        (case side3 => repeat (first | exact (by repeat (first | (with_reducible exact HR456_0.out) | (with_reducible refine Kd.C_alloc ?_ _) | (with_reducible refine Kd.C_drewN ?_ _) | (with_reducible refine Kd.C_drew ?_) | exact HR456_0.out)) | (with_reducible refine Kd.C_alloc ?_ _) | (with_reducible refine Kd.C_drewN ?_ _) | (with_reducible refine Kd.C_drew ?_)))
        (case side4 => exact HC456_0.out)
        rintro e w' ⟨rfl, ⟨nd, rfl⟩⟩
        refine ⟨_, rfl, ?_⟩
        refine hK.out _ _ ⟨(blk_cell BK441.out 0).trans rfl, (blk_cell BK441.out 1).trans rfl, hHeld.2.2.1, hHeld.2.2.2.1, hHeld.2.2.2.2⟩ (fun hHeld => ?_)
        clear hK K
        refine norm_ (a' := ?_) ?_ ?_
        rotate_left
        ·show Act.put _ (some 48) _ = _
         simp only [Act.put, nf_]
         rfl
        refine pk_ 17 19 49 262143 ?_
        refine pk_ 18 19 50 524287 ?_
        refine done_ (done_of HT_.out (by kernel_rfl)) ?_
        have p458 : 0 ≤ (x10_1 : Int) := od_
        have q458 : x10_1 < (t443.length : Int) := od_
        obtain ⟨ad458, A458_0, c458_0, e458, hx458_0, hl458_0, hi458_0⟩ := at_L1 (Kd.N_reads' HO_7.out).2.2 x10_1 p458 q458
        obtain rfl : ad450 = ad458 := (by injection e458)
        obtain ⟨ce458, hce458, hMe458, hcc458⟩ := Kd.N_get HO_7.out [] x10_1 p458 (by first | exact q458 | exact od_ | (have e_ := (Kd.N_reads' HO_7.out).1; omega))
        obtain ⟨ua458_0, uc458_0, rfl, ul458_0, ge458_0⟩ := Kd.FK_slice_open hMe458
        have hv458_0 := hcc458 0 _ rfl
        rw [Nat.add_zero, show ((Kd.slice 2 (Kd.int .i64))).sz = 1 from rfl, Nat.mul_one] at hv458_0
        replace hv458_0 := Option.some.inj (hv458_0.symm.trans hx458_0)
        injection hv458_0 with hva_ hvn_ hvc_
        rw [hva_] at ge458_0
        rw [hvc_] at ul458_0
        have HL458_0 := Aside0.mk (show Kd.V (Kd.int .i64) 2 _ w.heap.size _ _ (rd_L1 t443 x10_1) from Kd.V_mk ul458_0 ge458_0)
        clear hva_ hvn_ hvc_ ge458_0 ul458_0
        clear hcc458 hce458
        have HR458_0 := Aside0.mk hi458_0
        have HC458_0 := Aside0.mk hl458_0
        clear hi458_0 hl458_0
        replace p458 := eq_true p458
        replace q458 := eq_true q458
        have ea_ := Option.some.inj (by first | exact hx456_0.symm.trans hx458_0 | exact hHeld.2.2.1.symm.trans hx458_0)
        injection ea_ with ea_ en_ ec_
        subst ea_
        subst ec_
        clear en_
        try go_wp2_with (first | ((with_reducible refine gate_builtin (b := .append) (xs := #[.tmp 51, .tmp 56]) rfl ?_); at_builtin; refine Kd.N_append (Kd.slice 2 (Kd.int .i64)) (w0 := w) w.heap.size rfl (.tmp 51) (.tmp 56) 22 26 (.slice none 0 0) 24 rfl Try.underlying22 info26 rfl (by decide) (by omega) u9 x9_1 (rd_L1 t443 x10_1) [.slice A450_0 (rd_L1 t443 x10_1).length c450_0] (fun k_ => (w.heap.size ≤ k_) ∧ some k_ ≠ (.slice (some ad450) t443.length co27 : Value).ownBlock ∧ some k_ ≠ (.slice Ao31 t453.length co31 : Value).ownBlock ∧ k_ ≠ gb441) (fun k_ => ((fun k_ => (w.heap.size ≤ k_) ∧ some k_ ≠ (.slice (some ad450) t443.length co27 : Value).ownBlock ∧ some k_ ≠ (.slice Ao31 t453.length co31 : Value).ownBlock ∧ k_ ≠ gb441)) k_ ∧ some k_ ≠ (u9 : Value).ownBlock) rfl rfl ?aP (fun _ hk => hk) ?aF ?aO ?aB ?aS ?aL ?_; (case aP => exact (Kd.FK_slice_mk (Kd.V_reads' (Kd.V_mono (ok' := (fun k_ => ((fun k_ => (w.heap.size ≤ k_) ∧ some k_ ≠ (.slice (some ad450) t443.length co27 : Value).ownBlock ∧ some k_ ≠ (.slice Ao31 t453.length co31 : Value).ownBlock ∧ k_ ≠ gb441)) k_ ∧ some k_ ≠ (u9 : Value).ownBlock)) (HL458_0.out) (fun k_ hk => ⟨⟨hk.1.1.1, ⟨hk.2, ⟨hk.1.2, hk.1.1.2.2⟩⟩⟩, hk.1.1.2.1⟩))).2.1 (Kd.V_F (Kd.V_mono (ok' := (fun k_ => ((fun k_ => (w.heap.size ≤ k_) ∧ some k_ ≠ (.slice (some ad450) t443.length co27 : Value).ownBlock ∧ some k_ ≠ (.slice Ao31 t453.length co31 : Value).ownBlock ∧ k_ ≠ gb441)) k_ ∧ some k_ ≠ (u9 : Value).ownBlock)) (Kd.V_below HL458_0.out bgo_) (fun k_ hk => ⟨⟨hk.1.1.1, ⟨hk.2, ⟨hk.1.2, hk.1.1.2.2⟩⟩⟩, hk.1.1.2.1⟩))))); (case aB => exact hbs_); (case aF => exact (fun k_ hk => ⟨(Nat.le_trans (below_size hbs_) hk), Kd.fresh' (Kd.N_lt (Kd.N_below HO_7.out bgo_)) k_ hk, Kd.fresh' (Kd.R_lt (Kd.R_below HO455.out bgo_)) k_ hk, Kd.freshB (g := gb441) (o := .cells #[.int .i64 a0_0, .slice A0_1 l0_1.length c0_1] 29 (0, 0)) (blk_below BK441.out bgo_) k_ hk⟩)); (case aO => exact (by (with_reducible repeat (first | apply Kd.N_alloc | apply Kd.N_drewN | apply Kd.N_drew)); exact Kd.N_mono HO_9.out (fun _ hk => ⟨hk.1.1, ⟨hk.1.2.1, ⟨hk.2, hk.1.2.2⟩⟩⟩))); (case aS => exact (below_size hbs_)); (case aL => have := LMc26.out; omega); intro v460 w32 ho hb hg hat; rw [← Ny459.out] at ho; replace HO_7 := Aside0.mk (Kd.N_afterv (ok := (fun k_ => (w.heap.size ≤ k_) ∧ some k_ ≠ (.slice Ao31 t453.length co31 : Value).ownBlock ∧ k_ ≠ gb441)) (by (with_reducible repeat (first | apply Kd.N_alloc | apply Kd.N_drewN | apply Kd.N_drew)); exact Kd.N_mono HO_7.out (fun _ hk => ⟨⟨hk.1.1, ⟨hk.2, hk.1.2.2⟩⟩, hk.1.2.1⟩)) hg hat); replace BK441 := Aside0.mk (blk_grown (g := gb441) (o := .cells #[.int .i64 a0_0, .slice A0_1 l0_1.length c0_1] 29 (0, 0)) (blk_below BK441.out bgo_) hg (Kd.N_ne HO_9.out BK441.out (by decide))); (try clear HL450_0); (try clear HL452_0); replace HO455 := Aside0.mk (Kd.R_over' (Kd.R_below HO455.out bgo_) (Kd.N_typed (Kd.N_below HO_9.out bgo_)) (by decide) hg); (try clear HL456_0); (try clear HL458_0); replace HB := Aside0.mk (hb); have HO461 := Aside0.mk (ho); clear HO_9; clear ho hb hg hat))
        first | go_roundg k1 | (refine Handed.intro k1 ?measure ?_; rotate_left; go_step; (try simp only [add_plain]); (repeat apply Exists.intro); refine ⟨?rel, rfl⟩)
        case measure => have := HK1.out; omega
        case rel => exact ⟨(y459), (wrap64 (x10_1 + 1)), es_, H', ⟨by have := HK1.out; omega⟩, ⟨by (with_reducible repeat (first | apply Kd.N_alloc | apply Kd.N_drewN | apply Kd.N_drew)); exact Kd.N_mono HO_7.out (fun _ hk => ⟨hk.1.1, ⟨hk.2, hk.1.2.2⟩⟩)⟩, ⟨by (with_reducible repeat (first | apply Kd.N_alloc | apply Kd.N_drewN | apply Kd.N_drew)); exact Kd.N_mono HO461.out (fun _ hk => ⟨hk.1, ⟨hk.2.1, hk.2.2.2⟩⟩)⟩, ⟨blk_below BK441.out bgo_⟩, ⟨hbs_⟩⟩
      ·replace c17 := Bool.eq_false_iff.mpr c17
       subst c17
       have H1 : (spec_PrimeCycles.l0 k1 t443 x9_1 (wrap64 (x10_1 + 1)) a0_0 l0_1) = some (r1, r2) := by rw [if_neg (show ¬ (false = true) by decide)] at H; exact H
       clear H
       have H := H1
       clear H1
       have H' := Aside0.mk H
       clear H
       obtain ⟨Ao33, co33, eo33⟩ := Kd.N_slice HO_7.out
       subst eo33
       try go_wp2
       have n0_ := Aside0.mk (Kd.N_drew HO_7.out)
       have n1_ := Aside0.mk (Kd.N_drew HO_9.out)
       have n2_ := Aside0.mk (blk_drew BK441.out)
       have n3_ := Aside0.mk (below_drew1 HB.out)
       clear HO_7
       clear HO_9
       clear BK441
       clear HB
       have HO_7 := n0_
       have HO_9 := n1_
       have BK441 := n2_
       have HB := n3_
       clear n0_ n1_ n2_ n3_
       have p450 : 0 ≤ (x10_1 : Int) := od_
       have q450 : x10_1 < (t443.length : Int) := od_
       obtain ⟨ad450, A450_0, c450_0, e450, hx450_0, hl450_0, hi450_0⟩ := at_L1 (Kd.N_reads' HO_7.out).2.2 x10_1 p450 q450
       cases e450
       obtain ⟨ce450, hce450, hMe450, hcc450⟩ := Kd.N_get HO_7.out [] x10_1 p450 (by first | exact q450 | exact od_ | (have e_ := (Kd.N_reads' HO_7.out).1; omega))
       obtain ⟨ua450_0, uc450_0, rfl, ul450_0, ge450_0⟩ := Kd.FK_slice_open hMe450
       have hv450_0 := hcc450 0 _ rfl
       rw [Nat.add_zero, show ((Kd.slice 2 (Kd.int .i64))).sz = 1 from rfl, Nat.mul_one] at hv450_0
       replace hv450_0 := Option.some.inj (hv450_0.symm.trans hx450_0)
       injection hv450_0 with hva_ hvn_ hvc_
       rw [hva_] at ge450_0
       rw [hvc_] at ul450_0
       have HL450_0 := Aside0.mk (show Kd.V (Kd.int .i64) 2 _ w.heap.size _ _ (rd_L1 t443 x10_1) from Kd.V_mk ul450_0 ge450_0)
       clear hva_ hvn_ hvc_ ge450_0 ul450_0
       clear hcc450 hce450
       have HR450_0 := Aside0.mk hi450_0
       have HC450_0 := Aside0.mk hl450_0
       clear hi450_0 hl450_0
       replace p450 := eq_true p450
       replace q450 := eq_true q450
       refine start_ (n := 19) (S := fun w' => w'.cell? ⟨gb441, 0, none⟩ = some (.int .i64 a0_0) ∧ w'.cell? ⟨gb441, 1, none⟩ = some (.slice A0_1 l0_1.length c0_1) ∧ w'.cell? (ad450.add (x10_1).toNat) = some (.slice A450_0 (rd_L1 t443 x10_1).length c450_0)) (ds := []) #[false, false, false, false, false, false, false, false, false, false, false, false, false, false, false, false, false, false, false] (by kernel_rfl) rfl rfl ⟨(blk_cell BK441.out 0).trans rfl, (blk_cell BK441.out 1).trans rfl, hx450_0⟩ (fun hHeld => ?_); refine with_tabW spec_PrimeCycles.tab11 spec_PrimeCycles.bits11 (fun HT_ HW_ => ?_)
       generalize wr.drew = w34 at HO_7 HO_9 BK441 HB HL450_0 HR450_0 hx450_0 hHeld ⊢
       refine pk_ 1 19 33 2 ?_
       refine pk_ 2 19 34 6 ?_
       refine pk_ 3 19 35 14 ?_
       refine tk_ 0 19 32 15 hHeld ?_
       refine tk_ 4 19 36 31 hHeld ?_
       refine one_ (i := 5) (N := some 37) #[true, true, true, true, true, true, false, false, false, false, false, false, false, false, false, false, false, false, false] rfl rfl (one_of HT_.out (by kernel_rfl)) (by decide) (fun K hK => ?_)
       refine goes_ Try.func76 (by kernel_rfl) rfl #[.agg #[.int .i64 a0_0, .slice A0_1 l0_1.length c0_1], .slice A450_0 (rd_L1 t443 x10_1).length c450_0] (by rfl) rfl rfl arg_ ?_
       with_reducible refine (spec_l03Prime.calls k1 a0_0 _ _ l0_1 _ _ (rd_L1 t443 x10_1) false _ ?side1 ?side2 ?side3 ?side4 A16.out).mono ?_
       (case side1 => exact Kd.C_below (Kd.C_below HR0_1.out HB.out) bgo_)
       (case side2 => exact HC0_1.out)
       (case side3 => repeat (first | exact (by repeat (first | (with_reducible exact HR450_0.out) | (with_reducible refine Kd.C_alloc ?_ _) | (with_reducible refine Kd.C_drewN ?_ _) | (with_reducible refine Kd.C_drew ?_) | exact HR450_0.out)) | (with_reducible refine Kd.C_alloc ?_ _) | (with_reducible refine Kd.C_drewN ?_ _) | (with_reducible refine Kd.C_drew ?_)))
       (case side4 => exact HC450_0.out)
       rintro e w35 ⟨rfl, hb⟩
       have HS2_ := (hb.cell (World.block_lt_of_cell? _ _ (hHeld.2.2))).trans (hHeld.2.2)
       refine ⟨_, rfl, ?_⟩
       have n0_ := Aside0.mk (Kd.N_below (Kd.N_below HO_7.out bgo_) hb)
       have n1_ := Aside0.mk (Kd.N_below (Kd.N_below HO_9.out bgo_) hb)
       have n2_ := Aside0.mk (Kd.V_below (by (with_reducible repeat (first | apply Kd.V_alloc | apply Kd.V_drewN | apply Kd.V_drew)); exact HL450_0.out) hb)
       have n3_ := Aside0.mk (blk_below (g := gb441) (o := .cells #[.int .i64 a0_0, .slice A0_1 l0_1.length c0_1] 29 (0, 0)) (blk_below BK441.out bgo_) hb)
       have n4_ := Aside0.mk (Kd.C_below (by repeat (first | (with_reducible exact HR450_0.out) | (with_reducible refine Kd.C_alloc ?_ _) | (with_reducible refine Kd.C_drewN ?_ _) | (with_reducible refine Kd.C_drew ?_) | exact HR450_0.out)) hb)
       have n5_ := Aside0.mk (below_step hbs_ hb)
       clear HO_7
       clear HO_9
       clear HL450_0
       clear BK441
       clear HR450_0
       clear HB
       have HO_7 := n0_
       have HO_9 := n1_
       have HL450_0 := n2_
       have BK441 := n3_
       have HR450_0 := n4_
       have HB := n5_
       clear n0_ n1_ n2_ n3_ n4_ n5_
       (try clear hb)
       (try clear hb2)
       (try clear hk)
       (try clear hi)
       refine hK.out _ _ ⟨(blk_cell BK441.out 0).trans rfl, (blk_cell BK441.out 1).trans rfl, HS2_⟩ (fun hHeld => ?_)
       clear hK K
       refine norm_ (a' := ?_) ?_ ?_
       rotate_left
       ·show Act.put _ (some 37) _ = _
        simp only [Act.put, nf_]
        rfl
       refine pk_ 6 19 38 127 ?_
       refine pure_ (i := 7) (N := some 39) (v := undef) (a' := ?_) #[true, true, true, true, true, true, true, true, false, false, false, false, false, false, false, false, false, false, false] rfl rfl (any_of HT_.out (by kernel_rfl)) (fun _ _ _ h => h) (Or.inr ⟨by rfl, rfl⟩) ?_ ?_
       rotate_left
       ·simp only [Act.put, nf_]
        rfl
       refine pure_ (i := 8) (N := some 40) (v := undef) (a' := ?_) #[true, true, true, true, true, true, true, true, true, false, false, false, false, false, false, false, false, false, false] rfl rfl (any_of HT_.out (by kernel_rfl)) (fun _ _ _ h => h) (Or.inr ⟨by rfl, rfl⟩) ?_ ?_
       rotate_left
       ·simp only [Act.put, nf_]
        rfl
       refine pure_ (i := 9) (N := some 41) (v := undef) (a' := ?_) #[true, true, true, true, true, true, true, true, true, true, false, false, false, false, false, false, false, false, false] rfl rfl (any_of HT_.out (by kernel_rfl)) (fun _ _ _ h => h) (Or.inr ⟨by rfl, rfl⟩) ?_ ?_
       rotate_left
       ·simp only [Act.put, nf_]
        rfl
       refine pure_ (i := 10) (N := some 42) (v := undef) (a' := ?_) #[true, true, true, true, true, true, true, true, true, true, true, false, false, false, false, false, false, false, false] rfl rfl (any_of HT_.out (by kernel_rfl)) (fun _ _ _ h => h) (Or.inr ⟨by rfl, rfl⟩) ?_ ?_
       rotate_left
       ·simp only [Act.put, nf_]
        rfl
       refine pure_ (i := 11) (N := some 43) (v := undef) (a' := ?_) #[true, true, true, true, true, true, true, true, true, true, true, true, false, false, false, false, false, false, false] rfl rfl (any_of HT_.out (by kernel_rfl)) (fun _ _ _ h => h) (Or.inr ⟨by rfl, rfl⟩) ?_ ?_
       rotate_left
       ·simp only [Act.put, nf_]
        rfl
       refine pure_ (i := 12) (N := some 44) (v := undef) (a' := ?_) #[true, true, true, true, true, true, true, true, true, true, true, true, true, false, false, false, false, false, false] rfl rfl (any_of HT_.out (by kernel_rfl)) (fun _ _ _ h => h) (Or.inr ⟨by rfl, rfl⟩) ?_ ?_
       rotate_left
       ·simp only [Act.put, nf_]
        rfl
       refine pure_ (i := 13) (N := some 45) (v := undef) (a' := ?_) #[true, true, true, true, true, true, true, true, true, true, true, true, true, true, false, false, false, false, false] rfl rfl (any_of HT_.out (by kernel_rfl)) (fun _ _ _ h => h) (Or.inr ⟨by rfl, rfl⟩) ?_ ?_
       rotate_left
       ·simp only [Act.put, nf_]
        rfl
       refine pure_ (i := 14) (N := some 46) (v := undef) (a' := ?_) #[true, true, true, true, true, true, true, true, true, true, true, true, true, true, true, false, false, false, false] rfl rfl (any_of HT_.out (by kernel_rfl)) (fun _ _ _ h => h) (Or.inr ⟨by rfl, rfl⟩) ?_ ?_
       rotate_left
       ·simp only [Act.put, nf_]
        rfl
       refine pure_ (i := 15) (N := some 47) (v := undef) (a' := ?_) #[true, true, true, true, true, true, true, true, true, true, true, true, true, true, true, true, false, false, false] rfl rfl (any_of HT_.out (by kernel_rfl)) (fun _ _ _ h => h) (Or.inr ⟨by rfl, rfl⟩) ?_ ?_
       rotate_left
       ·simp only [Act.put, nf_]
        rfl
       refine pure_ (i := 16) (N := some 48) (v := undef) (a' := ?_) #[true, true, true, true, true, true, true, true, true, true, true, true, true, true, true, true, true, false, false] rfl rfl (any_of HT_.out (by kernel_rfl)) (fun _ _ _ h => h) (Or.inr ⟨by rfl, rfl⟩) ?_ ?_
       rotate_left
       ·simp only [Act.put, nf_]
        rfl
       refine pure_ (i := 17) (N := some 49) (v := undef) (a' := ?_) #[true, true, true, true, true, true, true, true, true, true, true, true, true, true, true, true, true, true, false] rfl rfl (any_of HT_.out (by kernel_rfl)) (fun _ _ _ h => h) (Or.inr ⟨by rfl, rfl⟩) ?_ ?_
       rotate_left
       ·simp only [Act.put, nf_]
        rfl
       refine pk_ 18 19 50 524287 ?_
       refine done_ (done_of HT_.out (by kernel_rfl)) ?_
       try go_wp2
       first | go_roundg k1 | (refine Handed.intro k1 ?measure ?_; rotate_left; go_step; (try simp only [add_plain]); (repeat apply Exists.intro); refine ⟨?rel, rfl⟩)
       case measure => have := HK1.out; omega
       case rel => exact ⟨(x9_1), (wrap64 (x10_1 + 1)), es_, H', ⟨by have := HK1.out; omega⟩, ⟨Kd.N_below HO_7.out bgo_⟩, ⟨Kd.N_below HO_9.out bgo_⟩, ⟨blk_below BK441.out bgo_⟩, ⟨hbs_⟩⟩
     ·rw [if_neg c14] at H
      have c14b0 := decide_eq_false c14
      clear c14
      simp only [Option.some.injEq, Prod.mk.injEq] at H
      obtain ⟨rfl, rfl⟩ := H
      obtain ⟨Ao36, co36, eo36⟩ := Kd.N_slice HO_7.out
      subst eo36
      go_wp2
      go_ret2
      exact ⟨_, er_, by (with_reducible repeat (first | apply Kd.N_alloc | apply Kd.N_drewN | apply Kd.N_drew)); exact Kd.N_mono HO_9.out (fun _ hk => hk.1), hbs_⟩
  ·replace c6 := Bool.eq_false_iff.mpr c6
   subst c6
   have H1 : (some (([] : List (List Int)), 3)) = some (r1, r2) := by rw [if_neg (show ¬ (false = true) by decide)] at H; exact H
   clear H
   have H := H1
   clear H1
   simp only [Option.some.injEq, Prod.mk.injEq] at H
   obtain ⟨rfl, rfl⟩ := H
   go_enter Try.func31, Try.ntmps31
   go_wp2_with (first | ((with_reducible refine gate_dst (N := 2) rfl ?_); refine box_event ?hg (N := 2) ?hd (cs := #[.int .i64 a0_0, .slice A0_1 l0_1.length c0_1]) (t := 29) ?hr ?_; (case hd => rfl); (case hg => rfl); (case hr => first | (go_simp; done) | (go_simp; rfl)); intro gb441 hg w37 hbox hb; have BK441 := Aside0.mk (hbox); have GW441 := Aside0.mk ((by rw [hg]; exact (below_size hb_) : w.heap.size ≤ gb441)); have GE441 := Aside0.mk ((by rw [hg]; exact (below_size hb_) : w.heap.size ≤ gb441)); replace HB := Aside0.mk (below_step hb_ hb); clear hb hbox hg; have hcz38_0 : w37.cell? ⟨gb441, 0, none⟩ = some (.int .i64 a0_0) := (blk_cell BK441.out 0).trans rfl; have hcz38_1 : w37.cell? ⟨gb441, 1, none⟩ = some (.slice A0_1 l0_1.length c0_1) := (blk_cell BK441.out 1).trans rfl; have hfz38_0 := blk_frozen BK441.out 0; have hfz38_1 := blk_frozen BK441.out 1) | ((with_reducible refine gate_callee (f := 61) rfl ?_); refine goesL_ (some 13) rfl rfl Try.func61 (by kernel_rfl) rfl #[.agg #[.int .i64 a0_0, .slice A0_1 l0_1.length c0_1], .int .i64 a1, .int .i64 1] rfl arg_ ?_; (with_reducible refine (spec_l03Length.calls k a0_0 _ _ l0_1 a1 1 t442 _ ?side1 ?side2 A3.out).mono ?_); (case side1 => exact Kd.C_below (Kd.C_below HR0_1.out HB.out) bgo_); (case side2 => exact HC0_1.out); rintro e w39 ⟨rfl, hb⟩; refine ⟨_, rfl, ?_⟩; replace BK441 := Aside0.mk (blk_below (g := gb441) (o := .cells #[.int .i64 a0_0, .slice A0_1 l0_1.length c0_1] 29 (0, 0)) (blk_below BK441.out bgo_) hb); replace HB := Aside0.mk (below_step hbs_ hb); (try clear hb); (try clear hb2); (try clear hk); (try clear hi); have hcz40_0 : w39.cell? ⟨gb441, 0, none⟩ = some (.int .i64 a0_0) := (blk_cell BK441.out 0).trans rfl; have hcz40_1 : w39.cell? ⟨gb441, 1, none⟩ = some (.slice A0_1 l0_1.length c0_1) := (blk_cell BK441.out 1).trans rfl; have hfz40_0 := blk_frozen BK441.out 0; have hfz40_1 := blk_frozen BK441.out 1) | ((with_reducible refine gate_callee (f := 73) rfl ?_); refine goesL_ (some 20) rfl rfl Try.func73 (by kernel_rfl) rfl #[.agg #[.int .i64 a0_0, .slice A0_1 l0_1.length c0_1], .int .i64 a1] rfl arg_ ?_; (with_reducible refine (spec_l03All.calls k a0_0 _ _ l0_1 a1 t443 false _ ?side1 ?side2 A5.out).mono ?_); (case side1 => exact Kd.C_below (Kd.C_below HR0_1.out HB.out) bgo_); (case side2 => exact HC0_1.out); rintro e w41 ⟨v444, rfl, ho0, hb⟩; refine ⟨_, rfl, ?_⟩; have HO445 := Aside0.mk (Kd.N_lower (Kd.N_mono (ok' := fun k_ => (w.heap.size ≤ k_) ∧ k_ ≠ gb441) ho0 (fun k_ hk_ => ⟨(Nat.le_trans (below_size hbs_) hk_), (Kd.freshB (g := gb441) (o := .cells #[.int .i64 a0_0, .slice A0_1 l0_1.length c0_1] 29 (0, 0)) (blk_below BK441.out bgo_) k_ hk_)⟩)) (below_size hbs_)); replace BK441 := Aside0.mk (blk_below (g := gb441) (o := .cells #[.int .i64 a0_0, .slice A0_1 l0_1.length c0_1] 29 (0, 0)) (blk_below BK441.out bgo_) hb); replace HB := Aside0.mk (below_step hbs_ hb); (try clear hb); (try clear hb2); (try clear hk); (try clear hi); (try clear ho0)))
   go_ret2
   exact ⟨_, er_, by first | exact Kd.S_nil _ _ _ _ _ | exact Kd.N_nil _ _ _ _ _ | exact Kd.V_nil _ _ _ _ _ | exact Kd.Q_nil _ _ _ _ _ | exact Kd.R_nil _ _ _ _ _, hbs_⟩
 ·rw [if_neg c4] at H
  have c4b0 : (t442 == 0) = false := beq_eq_false_iff_ne.mpr c4
  have c4b1 : (t442 != 0) = true := bne_iff_ne.mpr c4
  simp only [Option.some.injEq, Prod.mk.injEq] at H
  obtain ⟨rfl, rfl⟩ := H
  go_enter Try.func31, Try.ntmps31
  go_wp2_with (first | ((with_reducible refine gate_dst (N := 2) rfl ?_); refine box_event ?hg (N := 2) ?hd (cs := #[.int .i64 a0_0, .slice A0_1 l0_1.length c0_1]) (t := 29) ?hr ?_; (case hd => rfl); (case hg => rfl); (case hr => first | (go_simp; done) | (go_simp; rfl)); intro gb441 hg w42 hbox hb; have BK441 := Aside0.mk (hbox); have GW441 := Aside0.mk ((by rw [hg]; exact (below_size hb_) : w.heap.size ≤ gb441)); have GE441 := Aside0.mk ((by rw [hg]; exact (below_size hb_) : w.heap.size ≤ gb441)); replace HB := Aside0.mk (below_step hb_ hb); clear hb hbox hg; have hcz43_0 : w42.cell? ⟨gb441, 0, none⟩ = some (.int .i64 a0_0) := (blk_cell BK441.out 0).trans rfl; have hcz43_1 : w42.cell? ⟨gb441, 1, none⟩ = some (.slice A0_1 l0_1.length c0_1) := (blk_cell BK441.out 1).trans rfl; have hfz43_0 := blk_frozen BK441.out 0; have hfz43_1 := blk_frozen BK441.out 1) | ((with_reducible refine gate_callee (f := 61) rfl ?_); refine goesL_ (some 13) rfl rfl Try.func61 (by kernel_rfl) rfl #[.agg #[.int .i64 a0_0, .slice A0_1 l0_1.length c0_1], .int .i64 a1, .int .i64 1] rfl arg_ ?_; (with_reducible refine (spec_l03Length.calls k a0_0 _ _ l0_1 a1 1 t442 _ ?side1 ?side2 A3.out).mono ?_); (case side1 => exact Kd.C_below (Kd.C_below HR0_1.out HB.out) bgo_); (case side2 => exact HC0_1.out); rintro e w44 ⟨rfl, hb⟩; refine ⟨_, rfl, ?_⟩; replace BK441 := Aside0.mk (blk_below (g := gb441) (o := .cells #[.int .i64 a0_0, .slice A0_1 l0_1.length c0_1] 29 (0, 0)) (blk_below BK441.out bgo_) hb); replace HB := Aside0.mk (below_step hbs_ hb); (try clear hb); (try clear hb2); (try clear hk); (try clear hi)))
  go_ret2
  exact ⟨_, er_, by first | exact Kd.S_nil _ _ _ _ _ | exact Kd.N_nil _ _ _ _ _ | exact Kd.V_nil _ _ _ _ _ | exact Kd.Q_nil _ _ _ _ _ | exact Kd.R_nil _ _ _ _ _, hbs_⟩

/-! ### slices_Equal_int64_int64: function 80 -/
def slices_Equal_int64_int64.l0 : Nat → List Int → List Int → Int → Int → Option (Bool)
 | 0, _, _, _, _ => none
 | k + 1, x0, x1, x12, x13 => if x13 < x12 then (if 0 ≤ x13 then (if x13 < (x0.length : Int) then (if x13 < (x1.length : Int) then (if (rd x0 x13) = (rd x1 x13) then (slices_Equal_int64_int64.l0 k x0 x1 x12 (wrap64 (x13 + 1))) else (some false)) else (none)) else (none)) else (none)) else (some true)
def slices_Equal_int64_int64.f (k : Nat) (l0 : List Int) (l1 : List Int) : Option (Bool) := if (l0.length : Int) = (l1.length : Int) then (slices_Equal_int64_int64.l0 k l0 l1 (l0.length : Int) 0) else (some false)
set_option maxHeartbeats 8000000 in
set_option maxRecDepth 100000 in
theorem slices_Equal_int64_int64.calls (k : Nat) (A0 : Option Addr) (c0 : Nat) (l0 : List Int) (A1 : Option Addr) (c1 : Nat) (l1 : List Int) (r : Bool) (w : World) (hr0 : Kd.C (Kd.int .i64) w A0 l0.length l0) (hc0 : l0.length ≤ c0) (hr1 : Kd.C (Kd.int .i64) w A1 l1.length l1) (hc1 : l1.length ≤ c1) (h : slices_Equal_int64_int64.f k l0 l1 = some r) :
  Calls Try.prog 80 #[.slice A0 l0.length c0, .slice A1 l1.length c1] w fun e w' => e = .returned (.bool r) ∧ Drawn0 w w' := by
 have HR0 := Aside0.mk hr0
 have HC0 := Aside0.mk hc0
 clear hr0 hc0
 have HR1 := Aside0.mk hr1
 have HC1 := Aside0.mk hc1
 clear hr1 hc1
 have H : (if (l0.length : Int) = (l1.length : Int) then (slices_Equal_int64_int64.l0 k l0 l1 (l0.length : Int) 0) else (some false)) = some r := h
 clear h
 by_cases c3 : (l0.length : Int) = (l1.length : Int)
 ·rw [if_pos c3] at H
  have c3b0 : ((l0.length : Int) == (l1.length : Int)) = true := beq_iff_eq.mpr c3
  have c3b1 : ((l0.length : Int) != (l1.length : Int)) = false := bne_eq_false_iff_eq.mpr c3
  have c3b2 : (l0.length == l1.length) = true := by first | simpa using c3 | (simp at c3 ⊢; omega)
  clear c3
  have H' := Aside0.mk H
  clear H
  go_enter Try.func80, Try.ntmps80
  go_wp2
  go_loopg [13] k (fun kq v13 w' => ∃ (x13_1 : Int), v13 = .int .i64 x13_1 ∧ Aside0 (slices_Equal_int64_int64.l0 kq l0 l1 (l0.length : Int) x13_1 = some r) ∧ Aside0 (kq ≤ k) ∧ Drawn0 w w')
  case atStart => exact ⟨(0), es_, H', ⟨Nat.le_refl _⟩, by repeat (first | exact Drawn0.refl _ | apply Drawn0.step)⟩
  case round =>
   clear H'
   obtain ⟨x13_1, rfl, HA, HK1, ⟨m1, rfl⟩⟩ := hrel
   cases gk with
   | zero => exact absurd HA.out (by simp [slices_Equal_int64_int64.l0])
   | succ k1 =>
    have H := HA.out
    clear HA
    simp only [slices_Equal_int64_int64.l0] at H
    by_cases c4 : x13_1 < (l0.length : Int)
    ·rw [if_pos c4] at H
     have c4b0 := decide_eq_true c4
     clear c4
     obtain ⟨c5, H⟩ := itn_ H
     have c5b0 := decide_eq_true c5
     clear c5
     obtain ⟨c6, H⟩ := itn_ H
     have c6b0 := decide_eq_true c6
     clear c6
     obtain ⟨c7, H⟩ := itn_ H
     have c7b0 := decide_eq_true c7
     clear c7
     by_cases c8 : (rd l0 x13_1) = (rd l1 x13_1)
     ·rw [if_pos c8] at H
      have c8b0 : ((rd l0 x13_1) == (rd l1 x13_1)) = true := beq_iff_eq.mpr c8
      have c8b1 : ((rd l0 x13_1) != (rd l1 x13_1)) = false := bne_eq_false_iff_eq.mpr c8
      clear c8
      have H' := Aside0.mk H
      clear H
      have p462 : 0 ≤ (x13_1 : Int) := od_
      have q462 : x13_1 < (l0.length : Int) := od_
      obtain ⟨ad462, e462, hx462_0⟩ := Kd.at_int HR0.out x13_1 p462 q462
      cases e462
      replace p462 := eq_true p462
      replace q462 := eq_true q462
      have p463 : 0 ≤ (x13_1 : Int) := od_
      have q463 : x13_1 < (l1.length : Int) := od_
      obtain ⟨ad463, e463, hx463_0⟩ := Kd.at_int HR1.out x13_1 p463 q463
      cases e463
      replace p463 := eq_true p463
      replace q463 := eq_true q463
      go_wp2
      repeat (go_quiet (fail); try go_wp2)
      go_roundg k1
      case measure => have := HK1.out; omega
      case rel => exact ⟨(wrap64 (x13_1 + 1)), es_, H', ⟨by have := HK1.out; omega⟩, by repeat (first | exact Drawn0.refl _ | apply Drawn0.step)⟩
     ·rw [if_neg c8] at H
      have c8b0 : ((rd l0 x13_1) == (rd l1 x13_1)) = false := beq_eq_false_iff_ne.mpr c8
      have c8b1 : ((rd l0 x13_1) != (rd l1 x13_1)) = true := bne_iff_ne.mpr c8
      obtain rfl := Option.some.inj H
      have p462 : 0 ≤ (x13_1 : Int) := od_
      have q462 : x13_1 < (l0.length : Int) := od_
      obtain ⟨ad462, e462, hx462_0⟩ := Kd.at_int HR0.out x13_1 p462 q462
      cases e462
      replace p462 := eq_true p462
      replace q462 := eq_true q462
      have p463 : 0 ≤ (x13_1 : Int) := od_
      have q463 : x13_1 < (l1.length : Int) := od_
      obtain ⟨ad463, e463, hx463_0⟩ := Kd.at_int HR1.out x13_1 p463 q463
      cases e463
      replace p463 := eq_true p463
      replace q463 := eq_true q463
      go_wp2
      repeat (go_quiet (fail); try go_wp2)
      go_ret
      exact ⟨es_, by repeat (first | exact Drawn0.refl _ | apply Drawn0.step)⟩
    ·rw [if_neg c4] at H
     have c4b0 := decide_eq_false c4
     clear c4
     obtain rfl := Option.some.inj H
     go_wp2
     go_ret
     exact ⟨es_, by repeat (first | exact Drawn0.refl _ | apply Drawn0.step)⟩
 ·rw [if_neg c3] at H
  have c3b0 : ((l0.length : Int) == (l1.length : Int)) = false := beq_eq_false_iff_ne.mpr c3
  have c3b1 : ((l0.length : Int) != (l1.length : Int)) = true := bne_iff_ne.mpr c3
  have c3b2 : (l0.length == l1.length) = false := by first | simpa using c3 | (simp at c3 ⊢; omega)
  obtain rfl := Option.some.inj H
  go_enter Try.func80, Try.ntmps80
  go_wp2
  go_ret
  exact ⟨es_, by repeat (first | exact Drawn0.refl _ | apply Drawn0.step)⟩

-- NOT PRINTED: function 146 (slices_Grow_int64_int64)

-- NOT PRINTED: function 128 (slices_Concat_int64_int64)

/-! ### impl_turned: function 113 -/
set_option maxHeartbeats 8000000 in
set_option maxRecDepth 100000 in
theorem impl_turned.grow (a1 : Int) (w : World) (h0 : 0 < a1) (h1 : a1 ≤ 1000) :
  Calls Try.prog 146 #[.slice none 0 0, .int .i64 a1] w fun e w' => ∃ v : Value, e = .returned v ∧ Kd.R (Kd.int .i64) 2 w' w.heap.size (fun _ => True) v [] ∧ Below w.heap.size w w' := by
 have HB := Aside0.mk (Below.refl w.heap.size w)
 have c1 : decide (a1 < 0) = false := decide_eq_false (by omega)
 have c2 : decide (0 < a1) = true := decide_eq_true h0
 have c3 : IntKind.i64.wrap a1 = a1 := (i64_w _).trans (by unfold wrap64; omega)
 have L1 := Aside0.mk h0
 have L2 := Aside0.mk h1
 clear h0 h1
 obtain ⟨i02, hi02, _, hsz2, _⟩ := info_parts info2
 go_enter Try.func146, Try.ntmps146
 go_wp2_with (first | ((with_reducible refine gate_builtin (b := .append) (xs := #[.tmp 20, .tmp 21]) rfl ?_); at_builtin; refine Kd.R_append_zeros (Kd.int .i64) (w0 := w) w.heap.size rfl (.tmp 20) (.tmp 21) 26 3 2 (.int .i64 0) 8 rfl Try.underlying26 Try.underlying3 info2 rfl (by decide) (by omega) (.slice none 0 0) [] 0 a1 (fun _ => True) rfl rfl rfl (fun _ _ => trivial) (Kd.R_nil _ _ _ _ _) (Int.le_of_lt L1.out) HB.out (Nat.le_refl _) (by have := L2.out; simp; omega) ?_; intro v1 w3 ho hb hg hat; have HO := Aside0.mk ho; clear HB; have HB := Aside0.mk hb; clear ho hb hg hat; obtain ⟨A1, c1_, e1⟩ := Kd.R_slice HO.out; subst e1; have hr := Kd.R_take (m := 0) HO.out (by omega); have hcut := cut_to (P := Try.prog) 26 2 .i64 Try.underlying26 hi02 A1 ([] ++ List.replicate a1.toNat (0 : Int)).length c1_ 0 (by omega) (by omega) (Kd.R_reads' HO.out).2.1; have HR := Aside0.mk hr; clear hr HO))
 go_ret
 exact ⟨_, rfl, HR.out, HB.out⟩
set_option maxHeartbeats 8000000 in
set_option maxRecDepth 100000 in
theorem impl_turned.concat (A1 A2 : Option Addr) (c1 c2 : Nat) (l1 l2 : List Int) (g : Nat) (w : World) (hg : w.heap[g]? = some (.cells #[.slice A1 l1.length c1, .slice A2 l2.length c2] 26 (0, 0))) (h1 : Kd.C (Kd.int .i64) w A1 l1.length l1) (h2 : Kd.C (Kd.int .i64) w A2 l2.length l2) (h0 : 0 < l1.length + l2.length) (hm : l1.length + l2.length ≤ 1000) :
  Calls Try.prog 128 #[.slice (some ⟨g, 0, none⟩) 2 2] w fun e w' => ∃ v : Value, e = .returned v ∧ Kd.R (Kd.int .i64) 2 w' w.heap.size (fun _ => True) v (l1 ++ l2) ∧ Below w.heap.size w w' := by
 have HB := Aside0.mk (Below.refl w.heap.size w)
 have BK := Aside0.mk hg
 have H1 := Aside0.mk h1
 have H2 := Aside0.mk h2
 have L0 := Aside0.mk h0
 have L1 := Aside0.mk hm
 obtain ⟨s2, hs2⟩ : ∃ s2 : Int, s2 = (l1.length : Int) + (l2.length : Int) := ⟨_, rfl⟩
 have a1 : wrap64 (l1.length : Int) = (l1.length : Int) := (by unfold wrap64; omega)
 have a2 : wrap64 ((l1.length : Int) + (l2.length : Int)) = s2 := (by unfold wrap64; omega)
 have b1 : decide ((l1.length : Int) < 0) = false := decide_eq_false (by omega)
 have b2 : decide (s2 < 0) = false := decide_eq_false (by omega)
 have HS := Aside0.mk hs2
 clear hs2
 clear hg h1 h2 h0 hm
 go_enter Try.func128, Try.ntmps128
 go_wp2
 go_loopg [3, 11] 2 (fun kq v3 v11 w' => ((kq = 2 ∧ v11 = .int .i64 0 ∧ v3 = .int .i64 0) ∨ (kq = 1 ∧ v11 = .int .i64 1 ∧ v3 = .int .i64 (l1.length : Int)) ∨ (kq = 0 ∧ v11 = .int .i64 2 ∧ v3 = .int .i64 s2)) ∧ Aside0 (Below w.heap.size w w'))
 case atStart => exact ⟨.inl ⟨rfl, rfl, rfl⟩, HB⟩
 case round =>
  obtain ⟨hcase, HB⟩ := hrel
  have BK' := Aside0.mk (blk_below BK.out HB.out)
  have hx0 := (blk_cell BK'.out 0).trans (show #[(.slice A1 l1.length c1 : Value), .slice A2 l2.length c2][0]? = some (.slice A1 l1.length c1) from rfl)
  have hx1 := (blk_cell BK'.out 1).trans (show #[(.slice A1 l1.length c1 : Value), .slice A2 l2.length c2][1]? = some (.slice A2 l2.length c2) from rfl)
  rcases hcase with ⟨rfl, rfl, rfl⟩ | ⟨rfl, rfl, rfl⟩ | ⟨rfl, rfl, rfl⟩
  ·go_wp2
   go_roundg 1
   case measure => omega
   case rel => exact ⟨.inr (.inl ⟨rfl, rfl, by rw [a1]⟩), HB⟩
  ·go_wp2
   go_roundg 0
   case measure => omega
   case rel => exact ⟨.inr (.inr ⟨rfl, rfl, by rw [a2]⟩), HB⟩
  ·go_wp2_with (first | ((with_reducible refine gate_callee (f := 146) rfl ?_); refine goesL_ (some 24) rfl rfl Try.func146 (by kernel_rfl) rfl #[.slice none 0 0, .int .i64 s2] rfl (by (try simp only [List.map_toArray, List.map_cons, List.map_nil]); first | done | rfl) ?_; (with_reducible refine (impl_turned.grow s2 _ ?side1 ?side2).mono ?_); (case side1 => have := HS.out; have := L0.out; omega); (case side2 => have := HS.out; have := L1.out; omega); rintro e w5 ⟨v24, rfl, ho0, hb⟩; refine ⟨_, rfl, ?_⟩; have n0_ := Aside0.mk (Kd.R_lower ho0 (below_size HB.out)); have n1_ := Aside0.mk (below_step HB.out hb); clear HB; have HO := n0_; have HB := n1_; clear n0_ n1_ ho0 hb))
   go_loopg [6, 27] 2 (fun kq v6 v27 w' => ((kq = 2 ∧ v27 = .int .i64 0 ∧ Aside0 (Kd.R (Kd.int .i64) 2 w' w.heap.size (fun _ => True) v6 [])) ∨ (kq = 1 ∧ v27 = .int .i64 1 ∧ Aside0 (Kd.R (Kd.int .i64) 2 w' w.heap.size (fun _ => True) v6 l1)) ∨ (kq = 0 ∧ v27 = .int .i64 2 ∧ Aside0 (Kd.R (Kd.int .i64) 2 w' w.heap.size (fun _ => True) v6 (l1 ++ l2)))) ∧ Aside0 (Below w.heap.size w w'))
   case atStart => exact ⟨.inl ⟨rfl, rfl, HO⟩, HB⟩
   case round =>
    clear hx0 hx1 BK' HO
    obtain ⟨hcase, HB⟩ := hrel
    have BK' := Aside0.mk (blk_below BK.out HB.out)
    have hx0 := (blk_cell BK'.out 0).trans (show #[(.slice A1 l1.length c1 : Value), .slice A2 l2.length c2][0]? = some (.slice A1 l1.length c1) from rfl)
    have hx1 := (blk_cell BK'.out 1).trans (show #[(.slice A1 l1.length c1 : Value), .slice A2 l2.length c2][1]? = some (.slice A2 l2.length c2) from rfl)
    rcases hcase with ⟨rfl, rfl, HO⟩ | ⟨rfl, rfl, HO⟩ | ⟨rfl, rfl, HO⟩
    ·go_wp2_with (first | ((with_reducible refine gate_builtin (b := .append) (xs := #[.tmp 31, .tmp 32]) rfl ?_); at_builtin; refine Kd.R_append_rows (Kd.int .i64) (w0 := w) w.heap.size rfl (.tmp 31) (.tmp 32) 26 2 (.int .i64 0) 8 rfl Try.underlying26 info2 rfl (by decide) (by omega) u6 ([]) l1 _ _ _ (fun _ => True) (fun _ => False) rfl rfl ?aO ?aR (fun _ _ h => h) (fun _ h => h.elim) ?aF ?aB ?aS ?aL ?_; (case aR => exact (Kd.C_below H1.out HB.out)); (case aB => exact HB.out); (case aF => exact (fun _ _ => trivial)); (case aO => exact HO.out); (case aS => exact below_size HB.out); (case aL => have := L1.out; simp; omega); intro v251 w9 ho hb hg hat; have n0_ := Aside0.mk hb; have n1_ := Aside0.mk ho; clear HB HO; have HB := n0_; have HO := n1_; clear n0_ n1_ ho hb hg hat))
     go_roundg 1
     case measure => omega
     case rel => exact ⟨.inr (.inl ⟨rfl, rfl, HO⟩), HB⟩
    ·go_wp2_with (first | ((with_reducible refine gate_builtin (b := .append) (xs := #[.tmp 31, .tmp 32]) rfl ?_); at_builtin; refine Kd.R_append_rows (Kd.int .i64) (w0 := w) w.heap.size rfl (.tmp 31) (.tmp 32) 26 2 (.int .i64 0) 8 rfl Try.underlying26 info2 rfl (by decide) (by omega) u6 (l1) l2 _ _ _ (fun _ => True) (fun _ => False) rfl rfl ?aO ?aR (fun _ _ h => h) (fun _ h => h.elim) ?aF ?aB ?aS ?aL ?_; (case aR => exact (Kd.C_below H2.out HB.out)); (case aB => exact HB.out); (case aF => exact (fun _ _ => trivial)); (case aO => exact HO.out); (case aS => exact below_size HB.out); (case aL => have := L1.out; simp; omega); intro v251 w9 ho hb hg hat; have n0_ := Aside0.mk hb; have n1_ := Aside0.mk ho; clear HB HO; have HB := n0_; have HO := n1_; clear n0_ n1_ ho hb hg hat))
     go_roundg 0
     case measure => omega
     case rel => exact ⟨.inr (.inr ⟨rfl, rfl, HO⟩), HB⟩
    ·go_wp2
     go_ret
     exact ⟨_, rfl, HO.out, HB.out⟩
def impl_turned.f (l0 : List Int) (a1 : Int) : Option (List Int) := if 0 ≤ a1 then (if a1 ≤ (l0.length : Int) then (if 0 < l0.length then (if l0.length ≤ 1000 then some (l0.drop a1.toNat ++ l0.take a1.toNat) else none) else none) else none) else none
set_option maxHeartbeats 8000000 in
set_option maxRecDepth 100000 in
theorem impl_turned.calls (A0 : Option Addr) (c0 : Nat) (l0 : List Int) (a1 : Int) (r : List Int) (w : World) (hr0 : Kd.C (Kd.int .i64) w A0 l0.length l0) (hc0 : l0.length ≤ c0) (h : impl_turned.f l0 a1 = some r) :
  Calls Try.prog 113 #[.slice A0 l0.length c0, .int .i64 a1] w fun e w' => ∃ v0_ : Value, e = .returned (v0_) ∧ Kd.R (Kd.int .i64) 2 w' w.heap.size (fun _ => True) v0_ r ∧ Below w.heap.size w w' := by
 unfold impl_turned.f at h
 by_cases c1 : 0 ≤ a1
 ·rw [if_pos c1] at h
  by_cases c2 : a1 ≤ (l0.length : Int)
  ·rw [if_pos c2] at h
   by_cases c3 : 0 < l0.length
   ·rw [if_pos c3] at h
    by_cases c4 : l0.length ≤ 1000
    ·rw [if_pos c4] at h
     obtain rfl := Option.some.inj h
     clear h
     have L3 := Aside0.mk c3
     have L4 := Aside0.mk c4
     have L1 := Aside0.mk c1
     have L2 := Aside0.mk c2
     have HB := Aside0.mk (Below.refl w.heap.size w)
     obtain ⟨i0, hi0, _, hsz, _⟩ := info_parts info2
     obtain ⟨B1, hcut1, hA1, hC1⟩ := print_drop_of (P := Try.prog) (Value.int .i64) 0 26 2 .i64 Try.underlying26 hi0 hsz A0 c0 l0 a1 c1 c2 hc0
     obtain ⟨hcut2, hA2, hC2⟩ := print_take_of (P := Try.prog) (Value.int .i64) 0 26 2 .i64 Try.underlying26 hi0 hsz A0 c0 l0 a1 c1 c2 hc0
     have H1 := Aside0.mk (Kd.C_of_reads (h1 := fun _ => rfl) (hA1 _ (Kd.reads_of_C hr0)))
     have H2 := Aside0.mk (Kd.C_of_reads (h1 := fun _ => rfl) (hA2 _ (Kd.reads_of_C hr0)))
     have ht : (l0.take a1.toNat).length = a1.toNat := (by rw [List.length_take]; omega)
     have hd : (l0.drop a1.toNat).length = l0.length - a1.toNat := List.length_drop
     have LT := Aside0.mk ht
     have LD := Aside0.mk hd
     clear hr0 hc0 c1 c2 c3 c4 hA1 hA2 hC1 hC2 hsz ht hd
     go_enter Try.func113, Try.ntmps113
     go_wp2
     refine start_ (n := 9) (S := fun w' => True) (ds := []) #[false, false, false, false, false, false, false, false, false] (by kernel_rfl) rfl rfl trivial (fun hHeld => ?_)
     refine pure_ (i := 0) (N := some 5) (v := ?_) (a' := ?_) #[true, false, false, false, false, false, false, false, false] rfl rfl (by kernel_rfl) (fun _ _ _ h => h) (Or.inl ⟨by rfl, ?_⟩) ?_ ?_
     rotate_left
     ·intro w'
      go_simp
      with_reducible rfl
     rotate_left
     ·simp only [Act.put, nf_]
      rfl
     refine pure_ (i := 1) (N := some 6) (v := ?_) (a' := ?_) #[true, true, false, false, false, false, false, false, false] rfl rfl (by kernel_rfl) (fun _ _ _ h => h) (Or.inl ⟨by rfl, ?_⟩) ?_ ?_
     rotate_left
     ·intro w'
      go_simp
      with_reducible rfl
     rotate_left
     ·simp only [Act.put, nf_]
      rfl
     refine pure_ (i := 2) (N := some 7) (v := ?_) (a' := ?_) #[true, true, true, false, false, false, false, false, false] rfl rfl (by kernel_rfl) (fun _ _ _ h => h) (Or.inl ⟨by rfl, ?_⟩) ?_ ?_
     rotate_left
     ·intro w'
      go_simp
      with_reducible rfl
     rotate_left
     ·simp only [Act.put, nf_]
      rfl
     refine pure_ (i := 3) (N := some 8) (v := ?_) (a' := ?_) #[true, true, true, true, false, false, false, false, false] rfl rfl (by kernel_rfl) (fun _ _ _ h => h) (Or.inl ⟨by rfl, ?_⟩) ?_ ?_
     rotate_left
     ·intro w'
      go_simp
      with_reducible rfl
     rotate_left
     ·simp only [Act.put, nf_]
      rfl
     refine pure_ (i := 4) (N := some 9) (v := ?_) (a' := ?_) #[true, true, true, true, true, false, false, false, false] rfl rfl (by kernel_rfl) (fun _ _ _ h => h) (Or.inl ⟨by rfl, ?_⟩) ?_ ?_
     rotate_left
     ·intro w'
      go_simp
      with_reducible rfl
     rotate_left
     ·simp only [Act.put, nf_]
      rfl
     refine pure_ (i := 5) (N := some 10) (v := ?_) (a' := ?_) #[true, true, true, true, true, true, false, false, false] rfl rfl (by kernel_rfl) (fun _ _ _ h => h) (Or.inl ⟨by rfl, ?_⟩) ?_ ?_
     rotate_left
     ·intro w'
      go_simp
      with_reducible rfl
     rotate_left
     ·simp only [Act.put, nf_]
      rfl
     refine one_ (i := 6) (N := some 11) #[true, true, true, true, true, true, true, false, false] rfl rfl (by kernel_rfl) (by decide) (fun K hK => ?_)
     refine event_step (by rfl) (v := .slice (some ⟨w.drew.heap.size, 0, none⟩) 2 2) (w1 := World.alloc w.drew (.cells #[.slice B1 (l0.drop a1.toNat).length (c0 - a1.toNat), .slice A0 (l0.take a1.toNat).length c0] 26 (0, 0))) ?hr ?_
     case hr => first | (go_simp; done) | (go_simp; rfl)
     have BK := Aside0.mk (blk_new w.drew (.cells #[.slice B1 (l0.drop a1.toNat).length (c0 - a1.toNat), .slice A0 (l0.take a1.toNat).length c0] 26 (0, 0)))
     have HB2 := Aside0.mk (below_alloc (below_drew1 HB.out) (.cells #[.slice B1 (l0.drop a1.toNat).length (c0 - a1.toNat), .slice A0 (l0.take a1.toNat).length c0] 26 (0, 0)))
     refine hK.out _ _ trivial (fun hHeld => ?_)
     clear hK K
     refine norm_ (a' := ?_) ?_ ?_
     rotate_left
     ·show Act.put _ (some 11) _ = _
      simp only [Act.put, nf_]
      rfl
     refine one_ (i := 7) (N := some 12) #[true, true, true, true, true, true, true, true, false] rfl rfl (by kernel_rfl) (by decide) (fun K hK => ?_)
     refine goes_ Try.func128 (by kernel_rfl) rfl #[.slice (some ⟨w.drew.heap.size, 0, none⟩) 2 2] (by rfl) rfl rfl (by (try simp only [List.map_toArray, List.map_cons, List.map_nil]); first | done | rfl) ?_
     refine (impl_turned.concat B1 A0 (c0 - a1.toNat) c0 (l0.drop a1.toNat) (l0.take a1.toNat) w.drew.heap.size _ BK.out (Kd.C_below H1.out HB2.out) (Kd.C_below H2.out HB2.out) ?s1 ?s2).mono ?_
     case s1 => have := L3.out; have := LT.out; have := LD.out; have := L1.out; have := L2.out; omega
     case s2 => have := L4.out; have := LT.out; have := LD.out; have := L1.out; have := L2.out; omega
     rintro e w17 ⟨v85, rfl, ho0, hb⟩
     refine ⟨_, rfl, ?_⟩
     have HO := Aside0.mk (Kd.R_lower ho0 (below_size HB2.out))
     have HB3 := Aside0.mk (below_step HB2.out hb)
     clear ho0 hb
     refine hK.out _ _ trivial (fun hHeld => ?_)
     clear hK K
     refine norm_ (a' := ?_) ?_ ?_
     rotate_left
     ·show Act.put _ (some 12) _ = _
      simp only [Act.put, nf_]
      rfl
     refine pure_ (i := 8) (N := some 4) (v := ?_) (a' := ?_) #[true, true, true, true, true, true, true, true, true] rfl rfl (by kernel_rfl) (fun _ _ _ h => h) (Or.inl ⟨by rfl, ?_⟩) ?_ ?_
     rotate_left
     ·intro w'
      go_simp
      with_reducible rfl
     rotate_left
     ·simp only [Act.put, nf_]
      rfl
     refine done_ (by kernel_rfl) ?_
     try go_wp2
     go_ret
     exact ⟨_, rfl, HO.out, HB3.out⟩
    ·rw [if_neg c4] at h; cases h
   ·rw [if_neg c3] at h; cases h
  ·rw [if_neg c2] at h; cases h
 ·rw [if_neg c1] at h; cases h

/-! ### impl_Graph_isStraight: function 114 -/
def impl_Graph_isStraight.l0 : Nat → List Int → List Int → Int → Int → Int → List (List Int) → Option (Bool)
 | 0, _, _, _, _, _, _ => none
 | k + 1, x1, x12, x13, x14, x466000, x466001 => if x14 < x13 then (if 0 ≤ x14 then (if x14 < (x12.length : Int) then (if (x1.length : Int) = 0 then (none) else (if 0 ≤ (Int.tmod (wrap64 (x14 + 1)) (x1.length : Int)) then (if (Int.tmod (wrap64 (x14 + 1)) (x1.length : Int)) < (x1.length : Int) then ((impl_Graph_ends.f x466000 x466001 (rd x12 x14)).bind fun bt468 => ((impl_Graph_ends.f x466000 x466001 (rd x1 (Int.tmod (wrap64 (x14 + 1)) (x1.length : Int)))).bind fun bt470 => (if bt470.1 = bt468.2 then (if (rd x1 (Int.tmod (wrap64 (x14 + 1)) (x1.length : Int))) = (Go.bits .xor .i64 (rd x12 x14) 1) then (some false) else (impl_Graph_isStraight.l0 k x1 x12 x13 (wrap64 (x14 + 1)) x466000 x466001)) else (some false)))) else (none)) else (none))) else (none)) else (none)) else (some (decide ((x1.length : Int) > 0)))
def impl_Graph_isStraight.f (k : Nat) (a0_0 : Int) (l0_1 : List (List Int)) (l1 : List Int) : Option (Bool) := impl_Graph_isStraight.l0 k l1 l1 (l1.length : Int) 0 a0_0 l0_1
set_option maxHeartbeats 8000000 in
set_option maxRecDepth 100000 in
theorem impl_Graph_isStraight.calls (k : Nat) (a0_0 : Int) (A0_1 : Option Addr) (c0_1 : Nat) (l0_1 : List (List Int)) (A1 : Option Addr) (c1 : Nat) (l1 : List Int) (r : Bool) (w : World) (hr0_1 : Kd.C (Kd.slice 2 (Kd.int .i64)) w A0_1 l0_1.length l0_1) (hc0_1 : l0_1.length ≤ c0_1) (hr1 : Kd.C (Kd.int .i64) w A1 l1.length l1) (hc1 : l1.length ≤ c1) (h : impl_Graph_isStraight.f k a0_0 l0_1 l1 = some r) :
  Calls Try.prog 114 #[.agg #[.int .i64 a0_0, .slice A0_1 l0_1.length c0_1], .slice A1 l1.length c1] w fun e w' => e = .returned (.bool r) ∧ Below w.heap.size w w' := by
 have hu29 := Try.underlying29
 have HR0_1 := Aside0.mk hr0_1
 have HC0_1 := Aside0.mk hc0_1
 clear hr0_1 hc0_1
 have HR1 := Aside0.mk hr1
 have HC1 := Aside0.mk hc1
 clear hr1 hc1
 have HB := Aside0.mk (Below.refl w.heap.size w)
 have H : (impl_Graph_isStraight.l0 k l1 l1 (l1.length : Int) 0 a0_0 l0_1) = some r := h
 clear h
 have H' := Aside0.mk H
 clear H
 go_enter Try.func114, Try.ntmps114
 go_wp2_with (first | ((with_reducible refine gate_dst (N := 2) rfl ?_); refine box_event ?hg (N := 2) ?hd (cs := #[.int .i64 a0_0, .slice A0_1 l0_1.length c0_1]) (t := 29) ?hr ?_; (case hd => rfl); (case hg => rfl); (case hr => first | (go_simp; done) | (go_simp; rfl)); intro gb465 hg w3 hbox hb; have BK465 := Aside0.mk (hbox); have GW465 := Aside0.mk ((by rw [hg]; exact (below_size hb_) : w.heap.size ≤ gb465)); have GE465 := Aside0.mk ((by rw [hg]; exact (below_size hb_) : w.heap.size ≤ gb465)); replace HB := Aside0.mk (below_step hb_ hb); clear hb hbox hg))
 go_loopg [14] k (fun kq v14 w' => ∃ (x14_1 : Int), v14 = .int .i64 x14_1 ∧ Aside0 (impl_Graph_isStraight.l0 kq l1 l1 (l1.length : Int) x14_1 a0_0 l0_1 = some r) ∧ Aside0 (kq ≤ k) ∧ Aside0 (w'.heap[gb465]? = some (.cells #[.int .i64 a0_0, (.slice A0_1 l0_1.length c0_1)] 29 (0, 0))) ∧ Aside0 (Below w.heap.size w w'))
 case atStart => exact ⟨(0), es_, H', ⟨Nat.le_refl _⟩, ⟨blk_below BK465.out bgo_⟩, ⟨hbs_⟩⟩
 case round =>
  clear H'
  obtain ⟨x14_1, rfl, HA, HK1, BK465, HB⟩ := hrel
  cases gk with
  | zero => exact absurd HA.out (by simp [impl_Graph_isStraight.l0])
  | succ k1 =>
   have H := HA.out
   clear HA
   simp only [impl_Graph_isStraight.l0] at H
   by_cases c4 : x14_1 < (l1.length : Int)
   ·rw [if_pos c4] at H
    have c4b0 := decide_eq_true c4
    clear c4
    obtain ⟨c5, H⟩ := itn_ H
    have c5b0 := decide_eq_true c5
    clear c5
    obtain ⟨c6, H⟩ := itn_ H
    have c6b0 := decide_eq_true c6
    clear c6
    by_cases c7 : (l1.length : Int) = 0
    ·rw [if_pos c7] at H
     exact absurd H (by simp)
    ·rw [if_neg c7] at H
     have c7b0 : ((l1.length : Int) == 0) = false := beq_eq_false_iff_ne.mpr c7
     have c7b1 : ((l1.length : Int) != 0) = true := bne_iff_ne.mpr c7
     have c7b2 : ¬ (l1 = []) := fun h_ => c7 (by rw [h_]; rfl)
     obtain ⟨ji8, hji8⟩ : ∃ j_ : Int, (Int.tmod (wrap64 (x14_1 + 1)) (l1.length : Int)) = j_ := ⟨_, rfl⟩
     (try rw [hji8])
     replace H : (if 0 ≤ (ji8) then (if (ji8) < (l1.length : Int) then ((impl_Graph_ends.f a0_0 l0_1 (rd l1 x14_1)).bind fun bt468 => ((impl_Graph_ends.f a0_0 l0_1 (rd l1 (ji8))).bind fun bt470 => (if bt470.1 = bt468.2 then (if (rd l1 (ji8)) = (Go.bits .xor .i64 (rd l1 x14_1) 1) then (some false) else (impl_Graph_isStraight.l0 k1 l1 l1 (l1.length : Int) (wrap64 (x14_1 + 1)) a0_0 l0_1)) else (some false)))) else (none)) else (none)) = some r := by first | (rw [hji8] at H; exact H) | (simp only [hji8] at H ⊢; exact H)
     obtain ⟨c9, H⟩ := itn_ H
     have c9b0 := decide_eq_true c9
     clear c9
     obtain ⟨c10, H⟩ := itn_ H
     have c10b0 := decide_eq_true c10
     clear c10
     obtain ⟨⟨t468, t469⟩, A11, H⟩ := bnd_ H
     dsimp only at H
     obtain ⟨⟨t470, t471⟩, A12, H⟩ := bnd_ H
     dsimp only at H
     by_cases c13 : t470 = t469
     ·rw [if_pos c13] at H
      have c13b0 : (t470 == t469) = true := beq_iff_eq.mpr c13
      have c13b1 : (t470 != t469) = false := bne_eq_false_iff_eq.mpr c13
      clear c13
      by_cases c14 : (rd l1 (ji8)) = (Go.bits .xor .i64 (rd l1 x14_1) 1)
      ·rw [if_pos c14] at H
       have c14b0 : ((rd l1 (ji8)) == (Go.bits .xor .i64 (rd l1 x14_1) 1)) = true := beq_iff_eq.mpr c14
       have c14b1 : ((rd l1 (ji8)) != (Go.bits .xor .i64 (rd l1 x14_1) 1)) = false := bne_eq_false_iff_eq.mpr c14
       clear c14
       obtain rfl := Option.some.inj H
       have p466 : 0 ≤ (x14_1 : Int) := od_
       have q466 : x14_1 < (l1.length : Int) := od_
       obtain ⟨ad466, e466, hx466_0⟩ := Kd.at_int HR1.out x14_1 p466 q466
       cases e466
       (try replace hx466_0 := (HB.out.cell (World.block_lt_of_cell? w _ hx466_0)).trans hx466_0)
       replace p466 := eq_true p466
       replace q466 := eq_true q466
       have p467 : 0 ≤ ((ji8) : Int) := od_
       have q467 : (ji8) < (l1.length : Int) := od_
       obtain ⟨ad467, e467, hx467_0⟩ := Kd.at_int HR1.out (ji8) p467 q467
       obtain rfl : ad466 = ad467 := (by injection e467)
       (try replace hx467_0 := (HB.out.cell (World.block_lt_of_cell? w _ hx467_0)).trans hx467_0)
       replace p467 := eq_true p467
       replace q467 := eq_true q467
       have hcz15_0 : wr.cell? ⟨gb465, 0, none⟩ = some (.int .i64 a0_0) := (blk_cell BK465.out 0).trans rfl
       have hcz15_1 : wr.cell? ⟨gb465, 1, none⟩ = some (.slice A0_1 l0_1.length c0_1) := (blk_cell BK465.out 1).trans rfl
       have hfz15_0 := blk_frozen BK465.out 0
       have hfz15_1 := blk_frozen BK465.out 1
       go_wp2_with (first | ((with_reducible refine gate_callee (f := 71) rfl ?_); refine goesL_ (some 30) rfl rfl Try.func71 (by kernel_rfl) rfl #[.agg #[.int .i64 a0_0, .slice A0_1 l0_1.length c0_1], .int .i64 (rd l1 x14_1)] rfl arg_ ?_; (with_reducible refine (impl_Graph_ends.calls a0_0 _ _ l0_1 (rd l1 x14_1) t468 t469 _ ?side1 ?side2 A11.out).mono ?_); (case side1 => exact Kd.C_below (Kd.C_below HR0_1.out HB.out) bgo_); (case side2 => exact HC0_1.out); rintro e w16 ⟨rfl, hb⟩; refine ⟨_, rfl, ?_⟩; replace BK465 := Aside0.mk (blk_below (g := gb465) (o := .cells #[.int .i64 a0_0, .slice A0_1 l0_1.length c0_1] 29 (0, 0)) (blk_below BK465.out bgo_) hb); replace HB := Aside0.mk (below_step hbs_ hb); (try clear hb); (try clear hb2); (try clear hk); (try clear hi); have hcz17_0 : w16.cell? ⟨gb465, 0, none⟩ = some (.int .i64 a0_0) := (blk_cell BK465.out 0).trans rfl; have hcz17_1 : w16.cell? ⟨gb465, 1, none⟩ = some (.slice A0_1 l0_1.length c0_1) := (blk_cell BK465.out 1).trans rfl; have hfz17_0 := blk_frozen BK465.out 0; have hfz17_1 := blk_frozen BK465.out 1) | ((with_reducible refine gate_callee (f := 71) rfl ?_); refine goesL_ (some 36) rfl rfl Try.func71 (by kernel_rfl) rfl #[.agg #[.int .i64 a0_0, .slice A0_1 l0_1.length c0_1], .int .i64 (rd l1 (ji8))] rfl (by (try simp only [List.map_toArray, List.map_cons, List.map_nil]); first | done | (simp only [hji8]; rfl) | rfl | (simp only [List.length_drop, List.length_take]; rfl)) ?_; (with_reducible refine (impl_Graph_ends.calls a0_0 _ _ l0_1 (rd l1 (ji8)) t470 t471 _ ?side1 ?side2 A12.out).mono ?_); (case side1 => exact Kd.C_below (Kd.C_below HR0_1.out HB.out) bgo_); (case side2 => exact HC0_1.out); rintro e w18 ⟨rfl, hb⟩; refine ⟨_, rfl, ?_⟩; replace BK465 := Aside0.mk (blk_below (g := gb465) (o := .cells #[.int .i64 a0_0, .slice A0_1 l0_1.length c0_1] 29 (0, 0)) (blk_below BK465.out bgo_) hb); replace HB := Aside0.mk (below_step hbs_ hb); (try clear hb); (try clear hb2); (try clear hk); (try clear hi)))
       go_ret
       exact ⟨by first | rfl | (simp [errW_none, errW_some] <;> rfl) | (simp only [← hji8]; first | rfl | (simp [errW_none, errW_some] <;> rfl)) | (simp [*, errW_none, errW_some] <;> rfl), hbs_⟩
      ·rw [if_neg c14] at H
       have c14b0 : ((rd l1 (ji8)) == (Go.bits .xor .i64 (rd l1 x14_1) 1)) = false := beq_eq_false_iff_ne.mpr c14
       have c14b1 : ((rd l1 (ji8)) != (Go.bits .xor .i64 (rd l1 x14_1) 1)) = true := bne_iff_ne.mpr c14
       have H' := Aside0.mk H
       clear H
       have p466 : 0 ≤ (x14_1 : Int) := od_
       have q466 : x14_1 < (l1.length : Int) := od_
       obtain ⟨ad466, e466, hx466_0⟩ := Kd.at_int HR1.out x14_1 p466 q466
       cases e466
       (try replace hx466_0 := (HB.out.cell (World.block_lt_of_cell? w _ hx466_0)).trans hx466_0)
       replace p466 := eq_true p466
       replace q466 := eq_true q466
       have p467 : 0 ≤ ((ji8) : Int) := od_
       have q467 : (ji8) < (l1.length : Int) := od_
       obtain ⟨ad467, e467, hx467_0⟩ := Kd.at_int HR1.out (ji8) p467 q467
       obtain rfl : ad466 = ad467 := (by injection e467)
       (try replace hx467_0 := (HB.out.cell (World.block_lt_of_cell? w _ hx467_0)).trans hx467_0)
       replace p467 := eq_true p467
       replace q467 := eq_true q467
       have hcz19_0 : wr.cell? ⟨gb465, 0, none⟩ = some (.int .i64 a0_0) := (blk_cell BK465.out 0).trans rfl
       have hcz19_1 : wr.cell? ⟨gb465, 1, none⟩ = some (.slice A0_1 l0_1.length c0_1) := (blk_cell BK465.out 1).trans rfl
       have hfz19_0 := blk_frozen BK465.out 0
       have hfz19_1 := blk_frozen BK465.out 1
       go_wp2_with (first | ((with_reducible refine gate_callee (f := 71) rfl ?_); refine goesL_ (some 30) rfl rfl Try.func71 (by kernel_rfl) rfl #[.agg #[.int .i64 a0_0, .slice A0_1 l0_1.length c0_1], .int .i64 (rd l1 x14_1)] rfl arg_ ?_; (with_reducible refine (impl_Graph_ends.calls a0_0 _ _ l0_1 (rd l1 x14_1) t468 t469 _ ?side1 ?side2 A11.out).mono ?_); (case side1 => exact Kd.C_below (Kd.C_below HR0_1.out HB.out) bgo_); (case side2 => exact HC0_1.out); rintro e w20 ⟨rfl, hb⟩; refine ⟨_, rfl, ?_⟩; replace BK465 := Aside0.mk (blk_below (g := gb465) (o := .cells #[.int .i64 a0_0, .slice A0_1 l0_1.length c0_1] 29 (0, 0)) (blk_below BK465.out bgo_) hb); replace HB := Aside0.mk (below_step hbs_ hb); (try clear hb); (try clear hb2); (try clear hk); (try clear hi); have hcz21_0 : w20.cell? ⟨gb465, 0, none⟩ = some (.int .i64 a0_0) := (blk_cell BK465.out 0).trans rfl; have hcz21_1 : w20.cell? ⟨gb465, 1, none⟩ = some (.slice A0_1 l0_1.length c0_1) := (blk_cell BK465.out 1).trans rfl; have hfz21_0 := blk_frozen BK465.out 0; have hfz21_1 := blk_frozen BK465.out 1) | ((with_reducible refine gate_callee (f := 71) rfl ?_); refine goesL_ (some 36) rfl rfl Try.func71 (by kernel_rfl) rfl #[.agg #[.int .i64 a0_0, .slice A0_1 l0_1.length c0_1], .int .i64 (rd l1 (ji8))] rfl (by (try simp only [List.map_toArray, List.map_cons, List.map_nil]); first | done | (simp only [hji8]; rfl) | rfl | (simp only [List.length_drop, List.length_take]; rfl)) ?_; (with_reducible refine (impl_Graph_ends.calls a0_0 _ _ l0_1 (rd l1 (ji8)) t470 t471 _ ?side1 ?side2 A12.out).mono ?_); (case side1 => exact Kd.C_below (Kd.C_below HR0_1.out HB.out) bgo_); (case side2 => exact HC0_1.out); rintro e w22 ⟨rfl, hb⟩; refine ⟨_, rfl, ?_⟩; replace BK465 := Aside0.mk (blk_below (g := gb465) (o := .cells #[.int .i64 a0_0, .slice A0_1 l0_1.length c0_1] 29 (0, 0)) (blk_below BK465.out bgo_) hb); replace HB := Aside0.mk (below_step hbs_ hb); (try clear hb); (try clear hb2); (try clear hk); (try clear hi)))
       first | (go_roundg k1) | ((try subst hji8); (go_roundg k1))
       case measure => have := HK1.out; omega
       case rel => exact ⟨(wrap64 (x14_1 + 1)), es_, H', ⟨by have := HK1.out; omega⟩, ⟨blk_below BK465.out bgo_⟩, ⟨hbs_⟩⟩
     ·rw [if_neg c13] at H
      have c13b0 : (t470 == t469) = false := beq_eq_false_iff_ne.mpr c13
      have c13b1 : (t470 != t469) = true := bne_iff_ne.mpr c13
      obtain rfl := Option.some.inj H
      have p466 : 0 ≤ (x14_1 : Int) := od_
      have q466 : x14_1 < (l1.length : Int) := od_
      obtain ⟨ad466, e466, hx466_0⟩ := Kd.at_int HR1.out x14_1 p466 q466
      cases e466
      (try replace hx466_0 := (HB.out.cell (World.block_lt_of_cell? w _ hx466_0)).trans hx466_0)
      replace p466 := eq_true p466
      replace q466 := eq_true q466
      have p467 : 0 ≤ ((ji8) : Int) := od_
      have q467 : (ji8) < (l1.length : Int) := od_
      obtain ⟨ad467, e467, hx467_0⟩ := Kd.at_int HR1.out (ji8) p467 q467
      obtain rfl : ad466 = ad467 := (by injection e467)
      (try replace hx467_0 := (HB.out.cell (World.block_lt_of_cell? w _ hx467_0)).trans hx467_0)
      replace p467 := eq_true p467
      replace q467 := eq_true q467
      have hcz23_0 : wr.cell? ⟨gb465, 0, none⟩ = some (.int .i64 a0_0) := (blk_cell BK465.out 0).trans rfl
      have hcz23_1 : wr.cell? ⟨gb465, 1, none⟩ = some (.slice A0_1 l0_1.length c0_1) := (blk_cell BK465.out 1).trans rfl
      have hfz23_0 := blk_frozen BK465.out 0
      have hfz23_1 := blk_frozen BK465.out 1
      go_wp2_with (first | ((with_reducible refine gate_callee (f := 71) rfl ?_); refine goesL_ (some 30) rfl rfl Try.func71 (by kernel_rfl) rfl #[.agg #[.int .i64 a0_0, .slice A0_1 l0_1.length c0_1], .int .i64 (rd l1 x14_1)] rfl arg_ ?_; (with_reducible refine (impl_Graph_ends.calls a0_0 _ _ l0_1 (rd l1 x14_1) t468 t469 _ ?side1 ?side2 A11.out).mono ?_); (case side1 => exact Kd.C_below (Kd.C_below HR0_1.out HB.out) bgo_); (case side2 => exact HC0_1.out); rintro e w24 ⟨rfl, hb⟩; refine ⟨_, rfl, ?_⟩; replace BK465 := Aside0.mk (blk_below (g := gb465) (o := .cells #[.int .i64 a0_0, .slice A0_1 l0_1.length c0_1] 29 (0, 0)) (blk_below BK465.out bgo_) hb); replace HB := Aside0.mk (below_step hbs_ hb); (try clear hb); (try clear hb2); (try clear hk); (try clear hi); have hcz25_0 : w24.cell? ⟨gb465, 0, none⟩ = some (.int .i64 a0_0) := (blk_cell BK465.out 0).trans rfl; have hcz25_1 : w24.cell? ⟨gb465, 1, none⟩ = some (.slice A0_1 l0_1.length c0_1) := (blk_cell BK465.out 1).trans rfl; have hfz25_0 := blk_frozen BK465.out 0; have hfz25_1 := blk_frozen BK465.out 1) | ((with_reducible refine gate_callee (f := 71) rfl ?_); refine goesL_ (some 36) rfl rfl Try.func71 (by kernel_rfl) rfl #[.agg #[.int .i64 a0_0, .slice A0_1 l0_1.length c0_1], .int .i64 (rd l1 (ji8))] rfl (by (try simp only [List.map_toArray, List.map_cons, List.map_nil]); first | done | (simp only [hji8]; rfl) | rfl | (simp only [List.length_drop, List.length_take]; rfl)) ?_; (with_reducible refine (impl_Graph_ends.calls a0_0 _ _ l0_1 (rd l1 (ji8)) t470 t471 _ ?side1 ?side2 A12.out).mono ?_); (case side1 => exact Kd.C_below (Kd.C_below HR0_1.out HB.out) bgo_); (case side2 => exact HC0_1.out); rintro e w26 ⟨rfl, hb⟩; refine ⟨_, rfl, ?_⟩; replace BK465 := Aside0.mk (blk_below (g := gb465) (o := .cells #[.int .i64 a0_0, .slice A0_1 l0_1.length c0_1] 29 (0, 0)) (blk_below BK465.out bgo_) hb); replace HB := Aside0.mk (below_step hbs_ hb); (try clear hb); (try clear hb2); (try clear hk); (try clear hi)))
      go_ret
      exact ⟨by first | rfl | (simp [errW_none, errW_some] <;> rfl) | (simp only [← hji8]; first | rfl | (simp [errW_none, errW_some] <;> rfl)) | (simp [*, errW_none, errW_some] <;> rfl), hbs_⟩
   ·rw [if_neg c4] at H
    have c4b0 := decide_eq_false c4
    clear c4
    obtain rfl := Option.some.inj H
    go_wp2
    go_ret
    exact ⟨er_, hbs_⟩

/-! ### impl_Graph_isPrime: function 79 -/
def impl_Graph_isPrime.l0 : Nat → List Int → Int → Int → List (List Int) → Option (Bool)
 | 0, _, _, _, _ => none
 | k + 1, x1, x5, x473000, x473001 => if x5 < (x1.length : Int) then ((impl_turned.f x1 x5).bind fun t474 => ((slices_Equal_int64_int64.f k t474 x1).bind fun t477 => (if t477 = true then (some false) else (impl_Graph_isPrime.l0 k x1 (wrap64 (x5 + 1)) x473000 x473001)))) else ((impl_Graph_isStraight.f k x473000 x473001 x1).bind fun t473 => (some t473))
def impl_Graph_isPrime.f (k : Nat) (a0_0 : Int) (l0_1 : List (List Int)) (l1 : List Int) : Option (Bool) := impl_Graph_isPrime.l0 k l1 1 a0_0 l0_1
set_option maxHeartbeats 8000000 in
set_option maxRecDepth 100000 in
theorem impl_Graph_isPrime.calls (k : Nat) (a0_0 : Int) (A0_1 : Option Addr) (c0_1 : Nat) (l0_1 : List (List Int)) (A1 : Option Addr) (c1 : Nat) (l1 : List Int) (r : Bool) (w : World) (hr0_1 : Kd.C (Kd.slice 2 (Kd.int .i64)) w A0_1 l0_1.length l0_1) (hc0_1 : l0_1.length ≤ c0_1) (hr1 : Kd.C (Kd.int .i64) w A1 l1.length l1) (hc1 : l1.length ≤ c1) (h : impl_Graph_isPrime.f k a0_0 l0_1 l1 = some r) :
  Calls Try.prog 79 #[.agg #[.int .i64 a0_0, .slice A0_1 l0_1.length c0_1], .slice A1 l1.length c1] w fun e w' => e = .returned (.bool r) ∧ Below w.heap.size w w' := by
 have hu29 := Try.underlying29
 have HR0_1 := Aside0.mk hr0_1
 have HC0_1 := Aside0.mk hc0_1
 clear hr0_1 hc0_1
 have HR1 := Aside0.mk hr1
 have HC1 := Aside0.mk hc1
 clear hr1 hc1
 have HB := Aside0.mk (Below.refl w.heap.size w)
 have H : (impl_Graph_isPrime.l0 k l1 1 a0_0 l0_1) = some r := h
 clear h
 have H' := Aside0.mk H
 clear H
 go_enter Try.func79, Try.ntmps79
 go_wp2_with (first | ((with_reducible refine gate_dst (N := 2) rfl ?_); refine box_event ?hg (N := 2) ?hd (cs := #[.int .i64 a0_0, .slice A0_1 l0_1.length c0_1]) (t := 29) ?hr ?_; (case hd => rfl); (case hg => rfl); (case hr => first | (go_simp; done) | (go_simp; rfl)); intro gb472 hg w3 hbox hb; have BK472 := Aside0.mk (hbox); have GW472 := Aside0.mk ((by rw [hg]; exact (below_size hb_) : w.heap.size ≤ gb472)); have GE472 := Aside0.mk ((by rw [hg]; exact (below_size hb_) : w.heap.size ≤ gb472)); replace HB := Aside0.mk (below_step hb_ hb); clear hb hbox hg))
 go_loopg [5] k (fun kq v5 w' => ∃ (x5_1 : Int), v5 = .int .i64 x5_1 ∧ Aside0 (impl_Graph_isPrime.l0 kq l1 x5_1 a0_0 l0_1 = some r) ∧ Aside0 (kq ≤ k) ∧ Aside0 (w'.heap[gb472]? = some (.cells #[.int .i64 a0_0, (.slice A0_1 l0_1.length c0_1)] 29 (0, 0))) ∧ Aside0 (Below w.heap.size w w'))
 case atStart => exact ⟨(1), es_, H', ⟨Nat.le_refl _⟩, ⟨blk_below BK472.out bgo_⟩, ⟨hbs_⟩⟩
 case round =>
  clear H'
  obtain ⟨x5_1, rfl, HA, HK1, BK472, HB⟩ := hrel
  cases gk with
  | zero => exact absurd HA.out (by simp [impl_Graph_isPrime.l0])
  | succ k1 =>
   have H := HA.out
   clear HA
   simp only [impl_Graph_isPrime.l0] at H
   by_cases c4 : x5_1 < (l1.length : Int)
   ·rw [if_pos c4] at H
    have c4b0 := decide_eq_true c4
    clear c4
    obtain ⟨t474, A5, H⟩ := bnd_ H
    obtain ⟨t477, A6, H⟩ := bnd_ H
    by_cases c7 : t477 = true
    ·subst c7
     have H1 : (some false) = some r := by rw [if_pos rfl] at H; exact H
     clear H
     have H := H1
     clear H1
     obtain rfl := Option.some.inj H
     go_wp2_with (first | ((with_reducible refine gate_callee (f := 113) rfl ?_); refine goesL_ (some 14) rfl rfl Try.func113 (by kernel_rfl) rfl #[.slice A1 l1.length c1, .int .i64 x5_1] rfl arg_ ?_; (with_reducible refine (impl_turned.calls _ _ l1 x5_1 t474 _ ?side1 ?side2 A5.out).mono ?_); (case side1 => exact Kd.C_below (Kd.C_below HR1.out HB.out) bgo_); (case side2 => exact HC1.out); rintro e w8 ⟨v475, rfl, ho0, hb⟩; refine ⟨_, rfl, ?_⟩; have HO476 := Aside0.mk (Kd.R_lower ho0 (below_size hbs_)); replace BK472 := Aside0.mk (blk_below (g := gb472) (o := .cells #[.int .i64 a0_0, .slice A0_1 l0_1.length c0_1] 29 (0, 0)) (blk_below BK472.out bgo_) hb); replace HB := Aside0.mk (below_step hbs_ hb); (try clear hb); (try clear hb2); (try clear hk); (try clear hi); (try clear ho0); obtain ⟨Ao9, co9, eo9⟩ := Kd.R_slice HO476.out; subst eo9) | ((with_reducible refine gate_callee (f := 80) rfl ?_); refine goesL_ (some 16) rfl rfl Try.func80 (by kernel_rfl) rfl #[.slice Ao9 t474.length co9, .slice A1 l1.length c1] rfl arg_ ?_; (with_reducible refine (slices_Equal_int64_int64.calls k1 _ _ t474 _ _ l1 true _ ?side1 ?side2 ?side3 ?side4 A6.out).mono ?_); (case side1 => exact Kd.C_below (Kd.R_reads' HO476.out).2.2 bgo_); (case side2 => exact (Kd.R_reads' HO476.out).2.1); (case side3 => exact Kd.C_below (Kd.C_below HR1.out HB.out) bgo_); (case side4 => exact HC1.out); rintro e w' ⟨rfl, ⟨nd, rfl⟩⟩; refine ⟨_, rfl, ?_⟩))
     go_ret
     exact ⟨er_, hbs_⟩
    ·replace c7 := Bool.eq_false_iff.mpr c7
     subst c7
     have H1 : (impl_Graph_isPrime.l0 k1 l1 (wrap64 (x5_1 + 1)) a0_0 l0_1) = some r := by rw [if_neg (show ¬ (false = true) by decide)] at H; exact H
     clear H
     have H := H1
     clear H1
     have H' := Aside0.mk H
     clear H
     go_wp2_with (first | ((with_reducible refine gate_callee (f := 113) rfl ?_); refine goesL_ (some 14) rfl rfl Try.func113 (by kernel_rfl) rfl #[.slice A1 l1.length c1, .int .i64 x5_1] rfl arg_ ?_; (with_reducible refine (impl_turned.calls _ _ l1 x5_1 t474 _ ?side1 ?side2 A5.out).mono ?_); (case side1 => exact Kd.C_below (Kd.C_below HR1.out HB.out) bgo_); (case side2 => exact HC1.out); rintro e w10 ⟨v475, rfl, ho0, hb⟩; refine ⟨_, rfl, ?_⟩; have HO476 := Aside0.mk (Kd.R_lower ho0 (below_size hbs_)); replace BK472 := Aside0.mk (blk_below (g := gb472) (o := .cells #[.int .i64 a0_0, .slice A0_1 l0_1.length c0_1] 29 (0, 0)) (blk_below BK472.out bgo_) hb); replace HB := Aside0.mk (below_step hbs_ hb); (try clear hb); (try clear hb2); (try clear hk); (try clear hi); (try clear ho0); obtain ⟨Ao11, co11, eo11⟩ := Kd.R_slice HO476.out; subst eo11) | ((with_reducible refine gate_callee (f := 80) rfl ?_); refine goesL_ (some 16) rfl rfl Try.func80 (by kernel_rfl) rfl #[.slice Ao11 t474.length co11, .slice A1 l1.length c1] rfl arg_ ?_; (with_reducible refine (slices_Equal_int64_int64.calls k1 _ _ t474 _ _ l1 false _ ?side1 ?side2 ?side3 ?side4 A6.out).mono ?_); (case side1 => exact Kd.C_below (Kd.R_reads' HO476.out).2.2 bgo_); (case side2 => exact (Kd.R_reads' HO476.out).2.1); (case side3 => exact Kd.C_below (Kd.C_below HR1.out HB.out) bgo_); (case side4 => exact HC1.out); rintro e w' ⟨rfl, ⟨nd, rfl⟩⟩; refine ⟨_, rfl, ?_⟩))
     first | go_roundg k1 | (refine Handed.intro k1 ?measure ?_; rotate_left; go_step; (try simp only [add_plain]); (repeat apply Exists.intro); refine ⟨?rel, rfl⟩)
     case measure => have := HK1.out; omega
     case rel => exact ⟨(wrap64 (x5_1 + 1)), es_, H', ⟨by have := HK1.out; omega⟩, ⟨blk_below BK472.out bgo_⟩, ⟨hbs_⟩⟩
   ·rw [if_neg c4] at H
    have c4b0 := decide_eq_false c4
    clear c4
    obtain ⟨t473, A12, H⟩ := bnd_ H
    obtain rfl := Option.some.inj H
    have hcz13_0 : wr.cell? ⟨gb472, 0, none⟩ = some (.int .i64 a0_0) := (blk_cell BK472.out 0).trans rfl
    have hcz13_1 : wr.cell? ⟨gb472, 1, none⟩ = some (.slice A0_1 l0_1.length c0_1) := (blk_cell BK472.out 1).trans rfl
    have hfz13_0 := blk_frozen BK472.out 0
    have hfz13_1 := blk_frozen BK472.out 1
    go_wp2_with (first | ((with_reducible refine gate_callee (f := 114) rfl ?_); refine goesL_ (some 19) rfl rfl Try.func114 (by kernel_rfl) rfl #[.agg #[.int .i64 a0_0, .slice A0_1 l0_1.length c0_1], .slice A1 l1.length c1] rfl arg_ ?_; (with_reducible refine (impl_Graph_isStraight.calls k1 a0_0 _ _ l0_1 _ _ l1 t473 _ ?side1 ?side2 ?side3 ?side4 A12.out).mono ?_); (case side1 => exact Kd.C_below (Kd.C_below HR0_1.out HB.out) bgo_); (case side2 => exact HC0_1.out); (case side3 => exact Kd.C_below (Kd.C_below HR1.out HB.out) bgo_); (case side4 => exact HC1.out); rintro e w14 ⟨rfl, hb⟩; refine ⟨_, rfl, ?_⟩; replace BK472 := Aside0.mk (blk_below (g := gb472) (o := .cells #[.int .i64 a0_0, .slice A0_1 l0_1.length c0_1] 29 (0, 0)) (blk_below BK472.out bgo_) hb); replace HB := Aside0.mk (below_step hbs_ hb); (try clear hb); (try clear hb2); (try clear hk); (try clear hi)))
    go_ret
    exact ⟨er_, hbs_⟩

/-! ### cmp_isNaN_int64: function 147 -/
def cmp_isNaN_int64.f (a0 : Int) : Option (Bool) := some (a0 != a0)
set_option maxHeartbeats 8000000 in
set_option maxRecDepth 100000 in
theorem cmp_isNaN_int64.calls (a0 : Int) (r : Bool) (w : World) (h : cmp_isNaN_int64.f a0 = some r) :
  Calls Try.prog 147 #[.int .i64 a0] w fun e w' => e = .returned (.bool r) ∧ Drawn0 w w' := by
 have H : (some (a0 != a0)) = some r := h
 clear h
 obtain rfl := Option.some.inj H
 go_enter Try.func147, Try.ntmps147
 go_wp2
 go_ret
 exact ⟨es_, by repeat (first | exact Drawn0.refl _ | apply Drawn0.step)⟩

/-! ### cmp_Compare_int64: function 129 -/
def cmp_Compare_int64.f (a0 : Int) (a1 : Int) : Option (Int) := (cmp_isNaN_int64.f a0).bind fun t478 => ((cmp_isNaN_int64.f a1).bind fun t479 => (if t478 = true then (if t479 = true then (some 0) else (some (-1))) else (if t479 = true then (some 1) else (if a0 < a1 then (some (-1)) else (if a0 > a1 then (some 1) else (some 0))))))
set_option maxHeartbeats 8000000 in
set_option maxRecDepth 100000 in
theorem cmp_Compare_int64.calls (a0 : Int) (a1 : Int) (r : Int) (w : World) (h : cmp_Compare_int64.f a0 a1 = some r) :
  Calls Try.prog 129 #[.int .i64 a0, .int .i64 a1] w fun e w' => e = .returned (.int .i64 r) ∧ Drawn0 w w' := by
 have H : ((cmp_isNaN_int64.f a0).bind fun t478 => ((cmp_isNaN_int64.f a1).bind fun t479 => (if t478 = true then (if t479 = true then (some 0) else (some (-1))) else (if t479 = true then (some 1) else (if a0 < a1 then (some (-1)) else (if a0 > a1 then (some 1) else (some 0))))))) = some r := h
 clear h
 obtain ⟨t478, A3, H⟩ := bnd_ H
 obtain ⟨t479, A4, H⟩ := bnd_ H
 by_cases c5 : t478 = true
 ·subst c5
  have H1 : (if t479 = true then (some 0) else (some (-1))) = some r := by rw [if_pos rfl] at H; exact H
  clear H
  have H := H1
  clear H1
  by_cases c6 : t479 = true
  ·subst c6
   have H1 : (some 0) = some r := by rw [if_pos rfl] at H; exact H
   clear H
   have H := H1
   clear H1
   obtain rfl := Option.some.inj H
   go_enter Try.func129, Try.ntmps129
   go_wp2_with (first | ((with_reducible refine gate_callee (f := 147) rfl ?_); refine goesL_ (some 8) rfl rfl Try.func147 (by kernel_rfl) rfl #[.int .i64 a0] rfl arg_ ?_; (with_reducible refine (cmp_isNaN_int64.calls a0 true _ A3.out).mono ?_); rintro e w' ⟨rfl, ⟨nd, rfl⟩⟩; refine ⟨_, rfl, ?_⟩) | ((with_reducible refine gate_callee (f := 147) rfl ?_); refine goesL_ (some 10) rfl rfl Try.func147 (by kernel_rfl) rfl #[.int .i64 a1] rfl arg_ ?_; (with_reducible refine (cmp_isNaN_int64.calls a1 true _ A4.out).mono ?_); rintro e w' ⟨rfl, ⟨nd, rfl⟩⟩; refine ⟨_, rfl, ?_⟩))
   go_ret
   exact ⟨es_, by repeat (first | exact Drawn0.refl _ | apply Drawn0.step)⟩
  ·replace c6 := Bool.eq_false_iff.mpr c6
   subst c6
   have H1 : (some (-1)) = some r := by rw [if_neg (show ¬ (false = true) by decide)] at H; exact H
   clear H
   have H := H1
   clear H1
   obtain rfl := Option.some.inj H
   go_enter Try.func129, Try.ntmps129
   go_wp2_with (first | ((with_reducible refine gate_callee (f := 147) rfl ?_); refine goesL_ (some 8) rfl rfl Try.func147 (by kernel_rfl) rfl #[.int .i64 a0] rfl arg_ ?_; (with_reducible refine (cmp_isNaN_int64.calls a0 true _ A3.out).mono ?_); rintro e w' ⟨rfl, ⟨nd, rfl⟩⟩; refine ⟨_, rfl, ?_⟩) | ((with_reducible refine gate_callee (f := 147) rfl ?_); refine goesL_ (some 10) rfl rfl Try.func147 (by kernel_rfl) rfl #[.int .i64 a1] rfl arg_ ?_; (with_reducible refine (cmp_isNaN_int64.calls a1 false _ A4.out).mono ?_); rintro e w' ⟨rfl, ⟨nd, rfl⟩⟩; refine ⟨_, rfl, ?_⟩))
   go_ret
   exact ⟨es_, by repeat (first | exact Drawn0.refl _ | apply Drawn0.step)⟩
 ·replace c5 := Bool.eq_false_iff.mpr c5
  subst c5
  have H1 : (if t479 = true then (some 1) else (if a0 < a1 then (some (-1)) else (if a0 > a1 then (some 1) else (some 0)))) = some r := by rw [if_neg (show ¬ (false = true) by decide)] at H; exact H
  clear H
  have H := H1
  clear H1
  by_cases c7 : t479 = true
  ·subst c7
   have H1 : (some 1) = some r := by rw [if_pos rfl] at H; exact H
   clear H
   have H := H1
   clear H1
   obtain rfl := Option.some.inj H
   go_enter Try.func129, Try.ntmps129
   go_wp2_with (first | ((with_reducible refine gate_callee (f := 147) rfl ?_); refine goesL_ (some 8) rfl rfl Try.func147 (by kernel_rfl) rfl #[.int .i64 a0] rfl arg_ ?_; (with_reducible refine (cmp_isNaN_int64.calls a0 false _ A3.out).mono ?_); rintro e w' ⟨rfl, ⟨nd, rfl⟩⟩; refine ⟨_, rfl, ?_⟩) | ((with_reducible refine gate_callee (f := 147) rfl ?_); refine goesL_ (some 10) rfl rfl Try.func147 (by kernel_rfl) rfl #[.int .i64 a1] rfl arg_ ?_; (with_reducible refine (cmp_isNaN_int64.calls a1 true _ A4.out).mono ?_); rintro e w' ⟨rfl, ⟨nd, rfl⟩⟩; refine ⟨_, rfl, ?_⟩))
   go_ret
   exact ⟨es_, by repeat (first | exact Drawn0.refl _ | apply Drawn0.step)⟩
  ·replace c7 := Bool.eq_false_iff.mpr c7
   subst c7
   have H1 : (if a0 < a1 then (some (-1)) else (if a0 > a1 then (some 1) else (some 0))) = some r := by rw [if_neg (show ¬ (false = true) by decide)] at H; exact H
   clear H
   have H := H1
   clear H1
   by_cases c8 : a0 < a1
   ·rw [if_pos c8] at H
    have c8b0 := decide_eq_true c8
    clear c8
    obtain rfl := Option.some.inj H
    go_enter Try.func129, Try.ntmps129
    go_wp2_with (first | ((with_reducible refine gate_callee (f := 147) rfl ?_); refine goesL_ (some 8) rfl rfl Try.func147 (by kernel_rfl) rfl #[.int .i64 a0] rfl arg_ ?_; (with_reducible refine (cmp_isNaN_int64.calls a0 false _ A3.out).mono ?_); rintro e w' ⟨rfl, ⟨nd, rfl⟩⟩; refine ⟨_, rfl, ?_⟩) | ((with_reducible refine gate_callee (f := 147) rfl ?_); refine goesL_ (some 10) rfl rfl Try.func147 (by kernel_rfl) rfl #[.int .i64 a1] rfl arg_ ?_; (with_reducible refine (cmp_isNaN_int64.calls a1 false _ A4.out).mono ?_); rintro e w' ⟨rfl, ⟨nd, rfl⟩⟩; refine ⟨_, rfl, ?_⟩))
    go_ret
    exact ⟨es_, by repeat (first | exact Drawn0.refl _ | apply Drawn0.step)⟩
   ·rw [if_neg c8] at H
    have c8b0 := decide_eq_false c8
    clear c8
    by_cases c9 : a0 > a1
    ·rw [if_pos c9] at H
     have c9b0 := decide_eq_true c9
     clear c9
     obtain rfl := Option.some.inj H
     go_enter Try.func129, Try.ntmps129
     go_wp2_with (first | ((with_reducible refine gate_callee (f := 147) rfl ?_); refine goesL_ (some 8) rfl rfl Try.func147 (by kernel_rfl) rfl #[.int .i64 a0] rfl arg_ ?_; (with_reducible refine (cmp_isNaN_int64.calls a0 false _ A3.out).mono ?_); rintro e w' ⟨rfl, ⟨nd, rfl⟩⟩; refine ⟨_, rfl, ?_⟩) | ((with_reducible refine gate_callee (f := 147) rfl ?_); refine goesL_ (some 10) rfl rfl Try.func147 (by kernel_rfl) rfl #[.int .i64 a1] rfl arg_ ?_; (with_reducible refine (cmp_isNaN_int64.calls a1 false _ A4.out).mono ?_); rintro e w' ⟨rfl, ⟨nd, rfl⟩⟩; refine ⟨_, rfl, ?_⟩))
     go_ret
     exact ⟨es_, by repeat (first | exact Drawn0.refl _ | apply Drawn0.step)⟩
    ·rw [if_neg c9] at H
     have c9b0 := decide_eq_false c9
     clear c9
     obtain rfl := Option.some.inj H
     go_enter Try.func129, Try.ntmps129
     go_wp2_with (first | ((with_reducible refine gate_callee (f := 147) rfl ?_); refine goesL_ (some 8) rfl rfl Try.func147 (by kernel_rfl) rfl #[.int .i64 a0] rfl arg_ ?_; (with_reducible refine (cmp_isNaN_int64.calls a0 false _ A3.out).mono ?_); rintro e w' ⟨rfl, ⟨nd, rfl⟩⟩; refine ⟨_, rfl, ?_⟩) | ((with_reducible refine gate_callee (f := 147) rfl ?_); refine goesL_ (some 10) rfl rfl Try.func147 (by kernel_rfl) rfl #[.int .i64 a1] rfl arg_ ?_; (with_reducible refine (cmp_isNaN_int64.calls a1 false _ A4.out).mono ?_); rintro e w' ⟨rfl, ⟨nd, rfl⟩⟩; refine ⟨_, rfl, ?_⟩))
     go_ret
     exact ⟨es_, by repeat (first | exact Drawn0.refl _ | apply Drawn0.step)⟩

/-! ### slices_Compare_int64_int64: function 115 -/
def slices_Compare_int64_int64.l0 : Nat → List Int → List Int → List Int → Int → Int → Option (Int)
 | 0, _, _, _, _, _ => none
 | k + 1, x0, x1, x9, x10, x11 => if x11 < x10 then (if 0 ≤ x11 then (if x11 < (x9.length : Int) then (if x11 ≥ (x1.length : Int) then (some 1) else (if x11 < (x1.length : Int) then ((cmp_Compare_int64.f (rd x9 x11) (rd x1 x11)).bind fun t482 => (if t482 = 0 then (slices_Compare_int64_int64.l0 k x0 x1 x9 x10 (wrap64 (x11 + 1))) else (some t482))) else (none))) else (none)) else (none)) else (if (x0.length : Int) < (x1.length : Int) then (some (-1)) else (some 0))
def slices_Compare_int64_int64.f (k : Nat) (l0 : List Int) (l1 : List Int) : Option (Int) := slices_Compare_int64_int64.l0 k l0 l1 l0 (l0.length : Int) 0
set_option maxHeartbeats 8000000 in
set_option maxRecDepth 100000 in
theorem slices_Compare_int64_int64.calls (k : Nat) (A0 : Option Addr) (c0 : Nat) (l0 : List Int) (A1 : Option Addr) (c1 : Nat) (l1 : List Int) (r : Int) (w : World) (hr0 : Kd.C (Kd.int .i64) w A0 l0.length l0) (hc0 : l0.length ≤ c0) (hr1 : Kd.C (Kd.int .i64) w A1 l1.length l1) (hc1 : l1.length ≤ c1) (h : slices_Compare_int64_int64.f k l0 l1 = some r) :
  Calls Try.prog 115 #[.slice A0 l0.length c0, .slice A1 l1.length c1] w fun e w' => e = .returned (.int .i64 r) ∧ Drawn0 w w' := by
 have HR0 := Aside0.mk hr0
 have HC0 := Aside0.mk hc0
 clear hr0 hc0
 have HR1 := Aside0.mk hr1
 have HC1 := Aside0.mk hc1
 clear hr1 hc1
 have H : (slices_Compare_int64_int64.l0 k l0 l1 l0 (l0.length : Int) 0) = some r := h
 clear h
 have H' := Aside0.mk H
 clear H
 go_enter Try.func115, Try.ntmps115
 go_wp2
 go_loopg [11] k (fun kq v11 w' => ∃ (x11_1 : Int), v11 = .int .i64 x11_1 ∧ Aside0 (slices_Compare_int64_int64.l0 kq l0 l1 l0 (l0.length : Int) x11_1 = some r) ∧ Aside0 (kq ≤ k) ∧ Drawn0 w w')
 case atStart => exact ⟨(0), es_, H', ⟨Nat.le_refl _⟩, by repeat (first | exact Drawn0.refl _ | apply Drawn0.step)⟩
 case round =>
  clear H'
  obtain ⟨x11_1, rfl, HA, HK1, ⟨m1, rfl⟩⟩ := hrel
  cases gk with
  | zero => exact absurd HA.out (by simp [slices_Compare_int64_int64.l0])
  | succ k1 =>
   have H := HA.out
   clear HA
   simp only [slices_Compare_int64_int64.l0] at H
   by_cases c3 : x11_1 < (l0.length : Int)
   ·rw [if_pos c3] at H
    have c3b0 := decide_eq_true c3
    clear c3
    obtain ⟨c4, H⟩ := itn_ H
    have c4b0 := decide_eq_true c4
    clear c4
    obtain ⟨c5, H⟩ := itn_ H
    have c5b0 := decide_eq_true c5
    clear c5
    by_cases c6 : x11_1 ≥ (l1.length : Int)
    ·rw [if_pos c6] at H
     have c6b0 := decide_eq_true c6
     clear c6
     obtain rfl := Option.some.inj H
     have p480 : 0 ≤ (x11_1 : Int) := od_
     have q480 : x11_1 < (l0.length : Int) := od_
     obtain ⟨ad480, e480, hx480_0⟩ := Kd.at_int HR0.out x11_1 p480 q480
     cases e480
     replace p480 := eq_true p480
     replace q480 := eq_true q480
     go_wp2
     go_ret
     exact ⟨es_, by repeat (first | exact Drawn0.refl _ | apply Drawn0.step)⟩
    ·rw [if_neg c6] at H
     have c6b0 := decide_eq_false c6
     clear c6
     obtain ⟨c7, H⟩ := itn_ H
     have c7b0 := decide_eq_true c7
     clear c7
     obtain ⟨t482, A8, H⟩ := bnd_ H
     by_cases c9 : t482 = 0
     ·rw [if_pos c9] at H
      have c9b0 : (t482 == 0) = true := beq_iff_eq.mpr c9
      have c9b1 : (t482 != 0) = false := bne_eq_false_iff_eq.mpr c9
      clear c9
      have H' := Aside0.mk H
      clear H
      have p480 : 0 ≤ (x11_1 : Int) := od_
      have q480 : x11_1 < (l0.length : Int) := od_
      obtain ⟨ad480, e480, hx480_0⟩ := Kd.at_int HR0.out x11_1 p480 q480
      cases e480
      replace p480 := eq_true p480
      replace q480 := eq_true q480
      have p481 : 0 ≤ (x11_1 : Int) := od_
      have q481 : x11_1 < (l1.length : Int) := od_
      obtain ⟨ad481, e481, hx481_0⟩ := Kd.at_int HR1.out x11_1 p481 q481
      cases e481
      replace p481 := eq_true p481
      replace q481 := eq_true q481
      go_wp2_with (first | ((with_reducible refine gate_callee (f := 129) rfl ?_); refine goesL_ (some 26) rfl rfl Try.func129 (by kernel_rfl) rfl #[.int .i64 (rd l0 x11_1), .int .i64 (rd l1 x11_1)] rfl arg_ ?_; (with_reducible refine (cmp_Compare_int64.calls (rd l0 x11_1) (rd l1 x11_1) t482 _ A8.out).mono ?_); rintro e w' ⟨rfl, ⟨nd, rfl⟩⟩; refine ⟨_, rfl, ?_⟩))
      go_roundg k1
      case measure => have := HK1.out; omega
      case rel => exact ⟨(wrap64 (x11_1 + 1)), es_, H', ⟨by have := HK1.out; omega⟩, by repeat (first | exact Drawn0.refl _ | apply Drawn0.step)⟩
     ·rw [if_neg c9] at H
      have c9b0 : (t482 == 0) = false := beq_eq_false_iff_ne.mpr c9
      have c9b1 : (t482 != 0) = true := bne_iff_ne.mpr c9
      obtain rfl := Option.some.inj H
      have p480 : 0 ≤ (x11_1 : Int) := od_
      have q480 : x11_1 < (l0.length : Int) := od_
      obtain ⟨ad480, e480, hx480_0⟩ := Kd.at_int HR0.out x11_1 p480 q480
      cases e480
      replace p480 := eq_true p480
      replace q480 := eq_true q480
      have p481 : 0 ≤ (x11_1 : Int) := od_
      have q481 : x11_1 < (l1.length : Int) := od_
      obtain ⟨ad481, e481, hx481_0⟩ := Kd.at_int HR1.out x11_1 p481 q481
      cases e481
      replace p481 := eq_true p481
      replace q481 := eq_true q481
      go_wp2_with (first | ((with_reducible refine gate_callee (f := 129) rfl ?_); refine goesL_ (some 26) rfl rfl Try.func129 (by kernel_rfl) rfl #[.int .i64 (rd l0 x11_1), .int .i64 (rd l1 x11_1)] rfl arg_ ?_; (with_reducible refine (cmp_Compare_int64.calls (rd l0 x11_1) (rd l1 x11_1) t482 _ A8.out).mono ?_); rintro e w' ⟨rfl, ⟨nd, rfl⟩⟩; refine ⟨_, rfl, ?_⟩))
      go_ret
      exact ⟨es_, by repeat (first | exact Drawn0.refl _ | apply Drawn0.step)⟩
   ·rw [if_neg c3] at H
    have c3b0 := decide_eq_false c3
    clear c3
    by_cases c10 : (l0.length : Int) < (l1.length : Int)
    ·rw [if_pos c10] at H
     have c10b0 := decide_eq_true c10
     have c10b1 : decide (l0.length < l1.length) = true := decide_eq_true (Int.ofNat_lt.mp c10)
     clear c10
     obtain rfl := Option.some.inj H
     go_wp2
     go_ret
     exact ⟨es_, by repeat (first | exact Drawn0.refl _ | apply Drawn0.step)⟩
    ·rw [if_neg c10] at H
     have c10b0 := decide_eq_false c10
     have c10b1 : decide (l0.length < l1.length) = false := decide_eq_false (fun h => c10 (Int.ofNat_lt.mpr h))
     clear c10
     obtain rfl := Option.some.inj H
     go_wp2
     go_ret
     exact ⟨es_, by repeat (first | exact Drawn0.refl _ | apply Drawn0.step)⟩

/-! ### impl_leastTurn: function 81 -/
def impl_leastTurn.l0 : Nat → List Int → List Int → Int → Int → Option (List Int)
 | 0, _, _, _, _ => none
 | k + 1, x0, x3, x9, x10 => if x10 < x9 then ((impl_turned.f x0 x10).bind fun t486 => ((slices_Compare_int64_int64.f k t486 x3).bind fun t489 => (if t489 < 0 then (impl_leastTurn.l0 k x0 t486 x9 (wrap64 (x10 + 1))) else (impl_leastTurn.l0 k x0 x3 x9 (wrap64 (x10 + 1)))))) else (some x3)
def impl_leastTurn.f (k : Nat) (l0 : List Int) : Option (List Int) := (slices_Clone_int64_int64.f l0).bind fun t483 => (impl_leastTurn.l0 k l0 t483 (l0.length : Int) 0)
set_option maxHeartbeats 8000000 in
set_option maxRecDepth 100000 in
theorem impl_leastTurn.calls (k : Nat) (A0 : Option Addr) (c0 : Nat) (l0 : List Int) (r : List Int) (w : World) (hr0 : Kd.C (Kd.int .i64) w A0 l0.length l0) (hc0 : l0.length ≤ c0) (h : impl_leastTurn.f k l0 = some r) :
  Calls Try.prog 81 #[.slice A0 l0.length c0] w fun e w' => ∃ v0_ : Value, e = .returned (v0_) ∧ Kd.R (Kd.int .i64) 2 w' w.heap.size (fun _ => True) v0_ r ∧ Below w.heap.size w w' := by
 have HR0 := Aside0.mk hr0
 have HC0 := Aside0.mk hc0
 clear hr0 hc0
 have HB := Aside0.mk (Below.refl w.heap.size w)
 have H : ((slices_Clone_int64_int64.f l0).bind fun t483 => (impl_leastTurn.l0 k l0 t483 (l0.length : Int) 0)) = some r := h
 clear h
 obtain ⟨t483, A2, H⟩ := bnd_ H
 have H' := Aside0.mk H
 clear H
 go_enter Try.func81, Try.ntmps81
 go_wp2_with (first | ((with_reducible refine gate_callee (f := 106) rfl ?_); refine goesL_ (some 7) rfl rfl Try.func106 (by kernel_rfl) rfl #[.slice A0 l0.length c0] rfl arg_ ?_; (with_reducible refine (slices_Clone_int64_int64.calls _ _ l0 t483 _ ?side1 ?side2 A2.out).mono ?_); (case side1 => exact Kd.C_below HR0.out bgo_); (case side2 => exact HC0.out); rintro e w3 ⟨v484, rfl, ho0, hb⟩; refine ⟨_, rfl, ?_⟩; have HO485 := Aside0.mk (Kd.R_lower ho0 (below_size hb_)); replace HB := Aside0.mk (below_step hb_ hb); (try clear hb); (try clear hb2); (try clear hk); (try clear hi); (try clear ho0)))
 go_loopg [3, 10] k (fun kq v3 v10 w' => ∃ (x3_1 : List Int) (x10_1 : Int), v10 = .int .i64 x10_1 ∧ Aside0 (impl_leastTurn.l0 kq l0 x3_1 (l0.length : Int) x10_1 = some r) ∧ Aside0 (kq ≤ k) ∧ Aside0 (Kd.R (Kd.int .i64) 2 w' w.heap.size (fun _ => True) v3 x3_1) ∧ Aside0 (Below w.heap.size w w'))
 case atStart => exact ⟨(t483), (0), es_, H', ⟨Nat.le_refl _⟩, ⟨Kd.R_below HO485.out bgo_⟩, ⟨hb_⟩⟩
 case round =>
  clear H'
  obtain ⟨x3_1, x10_1, rfl, HA, HK1, HO_3, HB⟩ := hrel
  cases gk with
  | zero => exact absurd HA.out (by simp [impl_leastTurn.l0])
  | succ k1 =>
   have H := HA.out
   clear HA
   simp only [impl_leastTurn.l0] at H
   by_cases c4 : x10_1 < (l0.length : Int)
   ·rw [if_pos c4] at H
    have c4b0 := decide_eq_true c4
    clear c4
    obtain ⟨t486, A5, H⟩ := bnd_ H
    obtain ⟨t489, A6, H⟩ := bnd_ H
    by_cases c7 : t489 < 0
    ·rw [if_pos c7] at H
     have c7b0 := decide_eq_true c7
     clear c7
     have H' := Aside0.mk H
     clear H
     go_wp2_with (first | ((with_reducible refine gate_callee (f := 113) rfl ?_); refine goesL_ (some 15) rfl rfl Try.func113 (by kernel_rfl) rfl #[.slice A0 l0.length c0, .int .i64 x10_1] rfl arg_ ?_; (with_reducible refine (impl_turned.calls _ _ l0 x10_1 t486 _ ?side1 ?side2 A5.out).mono ?_); (case side1 => exact Kd.C_below (Kd.C_below HR0.out HB.out) bgo_); (case side2 => exact HC0.out); rintro e w8 ⟨v487, rfl, ho0, hb⟩; refine ⟨_, rfl, ?_⟩; have HO488 := Aside0.mk (Kd.R_lower (Kd.R_new' ho0 (Kd.R_lt (Kd.R_below HO_3.out bgo_))) (below_size hb_)); replace HO_3 := Aside0.mk (Kd.R_elder' (Kd.R_below HO_3.out bgo_) (Kd.R_base ho0) hb); replace HB := Aside0.mk (below_step hb_ hb); (try clear hb); (try clear hb2); (try clear hk); (try clear hi); (try clear ho0); obtain ⟨Ao9, co9, eo9⟩ := Kd.R_slice HO488.out; subst eo9; obtain ⟨Ao10, co10, eo10⟩ := Kd.R_slice HO_3.out; subst eo10) | ((with_reducible refine gate_callee (f := 115) rfl ?_); refine goesL_ (some 18) rfl rfl Try.func115 (by kernel_rfl) rfl #[.slice Ao9 t486.length co9, .slice Ao10 x3_1.length co10] rfl arg_ ?_; (with_reducible refine (slices_Compare_int64_int64.calls k1 _ _ t486 _ _ x3_1 t489 _ ?side1 ?side2 ?side3 ?side4 A6.out).mono ?_); (case side1 => exact Kd.C_below (Kd.R_reads' HO488.out).2.2 bgo_); (case side2 => exact (Kd.R_reads' HO488.out).2.1); (case side3 => exact Kd.C_below (Kd.R_reads' HO_3.out).2.2 bgo_); (case side4 => exact (Kd.R_reads' HO_3.out).2.1); rintro e w' ⟨rfl, ⟨nd, rfl⟩⟩; refine ⟨_, rfl, ?_⟩))
     first | go_roundg k1 | (refine Handed.intro k1 ?measure ?_; rotate_left; go_step; (try simp only [add_plain]); (repeat apply Exists.intro); refine ⟨?rel, rfl⟩)
     case measure => have := HK1.out; omega
     case rel => exact ⟨(t486), (wrap64 (x10_1 + 1)), es_, H', ⟨by have := HK1.out; omega⟩, ⟨by (with_reducible repeat (first | apply Kd.R_alloc | apply Kd.R_drewN | apply Kd.R_drew)); exact Kd.R_mono HO488.out (fun _ hk => trivial)⟩, ⟨hb_⟩⟩
    ·rw [if_neg c7] at H
     have c7b0 := decide_eq_false c7
     clear c7
     have H' := Aside0.mk H
     clear H
     go_wp2_with (first | ((with_reducible refine gate_callee (f := 113) rfl ?_); refine goesL_ (some 15) rfl rfl Try.func113 (by kernel_rfl) rfl #[.slice A0 l0.length c0, .int .i64 x10_1] rfl arg_ ?_; (with_reducible refine (impl_turned.calls _ _ l0 x10_1 t486 _ ?side1 ?side2 A5.out).mono ?_); (case side1 => exact Kd.C_below (Kd.C_below HR0.out HB.out) bgo_); (case side2 => exact HC0.out); rintro e w11 ⟨v487, rfl, ho0, hb⟩; refine ⟨_, rfl, ?_⟩; have HO488 := Aside0.mk (Kd.R_lower (Kd.R_new' ho0 (Kd.R_lt (Kd.R_below HO_3.out bgo_))) (below_size hb_)); replace HO_3 := Aside0.mk (Kd.R_elder' (Kd.R_below HO_3.out bgo_) (Kd.R_base ho0) hb); replace HB := Aside0.mk (below_step hb_ hb); (try clear hb); (try clear hb2); (try clear hk); (try clear hi); (try clear ho0); obtain ⟨Ao12, co12, eo12⟩ := Kd.R_slice HO488.out; subst eo12; obtain ⟨Ao13, co13, eo13⟩ := Kd.R_slice HO_3.out; subst eo13) | ((with_reducible refine gate_callee (f := 115) rfl ?_); refine goesL_ (some 18) rfl rfl Try.func115 (by kernel_rfl) rfl #[.slice Ao12 t486.length co12, .slice Ao13 x3_1.length co13] rfl arg_ ?_; (with_reducible refine (slices_Compare_int64_int64.calls k1 _ _ t486 _ _ x3_1 t489 _ ?side1 ?side2 ?side3 ?side4 A6.out).mono ?_); (case side1 => exact Kd.C_below (Kd.R_reads' HO488.out).2.2 bgo_); (case side2 => exact (Kd.R_reads' HO488.out).2.1); (case side3 => exact Kd.C_below (Kd.R_reads' HO_3.out).2.2 bgo_); (case side4 => exact (Kd.R_reads' HO_3.out).2.1); rintro e w' ⟨rfl, ⟨nd, rfl⟩⟩; refine ⟨_, rfl, ?_⟩))
     first | go_roundg k1 | (refine Handed.intro k1 ?measure ?_; rotate_left; go_step; (try simp only [add_plain]); (repeat apply Exists.intro); refine ⟨?rel, rfl⟩)
     case measure => have := HK1.out; omega
     case rel => exact ⟨(x3_1), (wrap64 (x10_1 + 1)), es_, H', ⟨by have := HK1.out; omega⟩, ⟨by (with_reducible repeat (first | apply Kd.R_alloc | apply Kd.R_drewN | apply Kd.R_drew)); exact Kd.R_mono HO_3.out (fun _ hk => trivial)⟩, ⟨hb_⟩⟩
   ·rw [if_neg c4] at H
    have c4b0 := decide_eq_false c4
    clear c4
    obtain rfl := Option.some.inj H
    go_wp2
    go_ret
    exact ⟨_, er_, (Kd.R_below HO_3.out bgo_), hb_⟩

/-! ### impl_PrimeCycles: function 32 -/
def impl_PrimeCycles.l0 : Nat → List (List Int) → List (List Int) → Int → Int → Int → List (List Int) → Option ((List (List Int)) × Int)
 | 0, _, _, _, _, _, _ => none
 | k + 1, x6, x8, x22, x23, x491000, x491001 => if x23 < x22 then (if 0 ≤ x23 then (if x23 < (x6.length : Int) then ((impl_Graph_isPrime.f k x491000 x491001 (rd_L1 x6 x23)).bind fun t499 => (if t499 = true then ((impl_leastTurn.f k (rd_L1 x6 x23)).bind fun t500 => ((slices_Equal_int64_int64.f k (rd_L1 x6 x23) t500).bind fun t503 => (if t503 = true then (if x8.length < 5864062014805 then (impl_PrimeCycles.l0 k x6 (x8 ++ [rd_L1 x6 x23]) x22 (wrap64 (x23 + 1)) x491000 x491001) else (none)) else (impl_PrimeCycles.l0 k x6 x8 x22 (wrap64 (x23 + 1)) x491000 x491001)))) else (impl_PrimeCycles.l0 k x6 x8 x22 (wrap64 (x23 + 1)) x491000 x491001))) else (none)) else (none)) else (some (x8, 0))
def impl_PrimeCycles.f (k : Nat) (a0_0 : Int) (l0_1 : List (List Int)) (a1 : Int) : Option ((List (List Int)) × Int) := (impl_ClosedWalks.f k a0_0 l0_1 a1).bind fun bt491 => (if bt491.2 = 0 then (impl_PrimeCycles.l0 k bt491.1 (([] : List (List Int))) (bt491.1.length : Int) 0 a0_0 l0_1) else (some (([] : List (List Int)), bt491.2)))
structure impl_PrimeCycles.Z (zs : List (List Int × Nat)) (xs : List (List Int)) (i : Int) : Prop where
 eq : zs.map Prod.fst = xs
 pos : 0 ≤ i
 lt : ∀ p ∈ zs, (p.2 : Int) < i
 pw : zs.Pairwise (fun p q => p.2 < q.2)
theorem impl_PrimeCycles.Z.len {zs : List (List Int × Nat)} {xs : List (List Int)} {i : Int} (h : impl_PrimeCycles.Z zs xs i) : zs.length = xs.length := by rw [← h.eq, List.length_map]
theorem impl_PrimeCycles.Z_nil {y : List (List Int)} (h : y = []) : impl_PrimeCycles.Z [] y 0 := ⟨h.symm, Int.le_refl _, fun _ h => (List.not_mem_nil h).elim, .nil⟩
theorem impl_PrimeCycles.Z_next {zs : List (List Int × Nat)} {xs : List (List Int)} {i : Int} (h : impl_PrimeCycles.Z zs xs i) (j : Int) (n : Nat) (hj : j = i) (hn : j < (n : Int)) (hm : n ≤ 9223372036854775807) :
  impl_PrimeCycles.Z zs xs (wrap64 (j + 1)) ∧ ∀ {r : List Int} {y : List (List Int)}, y = xs ++ [r] → impl_PrimeCycles.Z (zs ++ [(r, j.toNat)]) y (wrap64 (j + 1)) := by
 subst hj
 have hp := h.pos
 rw [show wrap64 (j + 1) = j + 1 by unfold wrap64; omega]
 refine ⟨⟨h.eq, by omega, fun p hq => by have := h.lt p hq; omega, h.pw⟩, fun {r y} hy => ⟨?_, by omega, fun p hq => ?_, ?_⟩⟩
 ·rw [List.map_append, h.eq, hy]; rfl
 ·rcases List.mem_append.1 hq with hq | hq
  ·have := h.lt p hq; omega
  ·rw [List.mem_singleton.1 hq]
   show ((j.toNat : Nat) : Int) < j + 1
   omega
 ·refine List.pairwise_append.2 ⟨h.pw, List.pairwise_singleton _ _, fun p hq q hr => ?_⟩
  rw [List.mem_singleton.1 hr]
  show p.2 < j.toNat
  have := h.lt p hq
  omega
open Classical in
theorem impl_PrimeCycles.sel {α : Type} {d : Kd α} {f : Nat → Nat} {e : Nat} {w : World} {base : Nat} {ok : Nat → Prop} {v : Value} {zs : List (α × Nat)} (h : (Kd.tag f d).R e w base ok v zs) (hp : zs.Pairwise (fun p q => p.2 < q.2)) : Kd.S d e w base ok v (zs.map Prod.fst) := by
 obtain ⟨h0, inner, ho, hr⟩ := h
 have hinj : ∀ (i j : Nat) (p q : α × Nat), zs[i]? = some p → zs[j]? = some q → p.2 = q.2 → i = j := by
  intro i j p q hi hj hpq
  rw [List.pairwise_iff_getElem] at hp
  obtain ⟨hi1, hi2⟩ := List.getElem?_eq_some_iff.1 hi
  obtain ⟨hj1, hj2⟩ := List.getElem?_eq_some_iff.1 hj
  subst hi2 hj2
  rcases Nat.lt_trichotomy i j with hl | hl | hl
  ·have := hp i j hi1 hj1 hl; omega
  ·exact hl
  ·have := hp j i hj1 hi1 hl; omega
 refine ⟨fun b => if hx : ∃ (j : Nat) (p : α × Nat), zs[j]? = some p ∧ p.2 = f b then Classical.choose hx else 0, h0, inner, by rw [List.length_zipIdx, List.length_map]; exact ho, by rw [List.length_zipIdx, List.length_map]; exact hr.1, fun j p hj => ?_⟩
 rw [List.getElem?_zipIdx, Nat.zero_add] at hj
 obtain ⟨x, hx, rfl⟩ := Option.map_eq_some_iff.1 hj
 rw [List.getElem?_map] at hx
 obtain ⟨q, hq, rfl⟩ := Option.map_eq_some_iff.1 hx
 refine d.M_mono (fun b hb => ⟨hb.1, ?_⟩) (hr.2 j q hq)
 have h2 : f b = q.2 := hb.2
 have hex : ∃ (j : Nat) (p : α × Nat), zs[j]? = some p ∧ p.2 = f b := ⟨j, q, hq, h2.symm⟩
 show (if hx : ∃ (j : Nat) (p : α × Nat), zs[j]? = some p ∧ p.2 = f b then Classical.choose hx else 0) = j
 rw [dif_pos hex]
 obtain ⟨p, hp1, hp2⟩ := Classical.choose_spec hex
 exact hinj _ _ _ _ hp1 hq (hp2.trans h2)
theorem impl_PrimeCycles.row {f : Nat → Nat} {w : World} {base n cap : Nat} {ok : Nat → Prop} {ad : Addr} {xs : List (List Int)} (h : (Kd.tag f (Kd.slice 2 (Kd.int .i64))).R 26 w base ok (.slice (some ad) n cap) xs.zipIdx) (i : Int) (h0 : 0 ≤ i) (h1 : i < (xs.length : Int)) {A : Option Addr} {m c : Nat} (hx : w.cell? (ad.add i.toNat) = some (.slice A m c)) :
  (Kd.int .i64).R 2 w base (fun k => (ok k ∧ some k ≠ (Value.slice (some ad) n cap).ownBlock) ∧ f k = i.toNat) (.slice A m c) (rd_L1 xs i) := by
 have hn := (Kd.S_reads' ⟨f, h⟩).1
 obtain ⟨cs, _, hM, hc⟩ := Kd.R_getA h ([], 0) i h0 (by rw [hn]; exact h1)
 have hil : i.toNat < xs.length := by omega
 have he : xs.zipIdx.getD i.toNat ([], 0) = (rd_L1 xs i, i.toNat) := by
  rw [List.getD_eq_getElem?_getD, List.getElem?_zipIdx, Nat.zero_add, List.getElem?_eq_getElem hil]
  show (xs[i.toNat], i.toNat) = (xs.getD i.toNat [], i.toNat)
  rw [List.getD_eq_getElem?_getD, List.getElem?_eq_getElem hil]; rfl
 rw [he] at hM
 obtain ⟨v, rfl, hR⟩ := hM
 have hv := hc 0 v rfl
 rw [Nat.add_zero, show ((Kd.tag f (Kd.slice 2 (Kd.int .i64)))).sz = 1 from rfl, Nat.mul_one] at hv
 have hv2 := Option.some.inj (hv.symm.trans hx)
 subst hv2
 exact hR
set_option maxHeartbeats 8000000 in
set_option maxRecDepth 100000 in
theorem impl_PrimeCycles.calls (k : Nat) (a0_0 : Int) (A0_1 : Option Addr) (c0_1 : Nat) (l0_1 : List (List Int)) (a1 : Int) (r1 : List (List Int)) (r2 : Int) (w : World) (hr0_1 : Kd.C (Kd.slice 2 (Kd.int .i64)) w A0_1 l0_1.length l0_1) (hc0_1 : l0_1.length ≤ c0_1) (h : impl_PrimeCycles.f k a0_0 l0_1 a1 = some (r1, r2)) :
  Calls Try.prog 32 #[.agg #[.int .i64 a0_0, .slice A0_1 l0_1.length c0_1], .int .i64 a1] w fun e w' => ∃ v0_ : Value, e = .returned (.tuple #[v0_, .int .i64 r2]) ∧ Kd.S (Kd.slice 2 (Kd.int .i64)) 26 w' w.heap.size (fun _ => True) v0_ r1 ∧ Below w.heap.size w w' := by
 have hu29 := Try.underlying29
 have HR0_1 := Aside0.mk hr0_1
 have HC0_1 := Aside0.mk hc0_1
 clear hr0_1 hc0_1
 have HB := Aside0.mk (Below.refl w.heap.size w)
 have H : ((impl_ClosedWalks.f k a0_0 l0_1 a1).bind fun bt491 => (if bt491.2 = 0 then (impl_PrimeCycles.l0 k bt491.1 (([] : List (List Int))) (bt491.1.length : Int) 0 a0_0 l0_1) else (some (([] : List (List Int)), bt491.2)))) = some (r1, r2) := h
 clear h
 obtain ⟨⟨t491, t494⟩, A3, H⟩ := bnd_ H
 dsimp only at H
 by_cases c4 : t494 = 0
 ·rw [if_pos c4] at H
  have c4b0 : (t494 == 0) = true := beq_iff_eq.mpr c4
  have c4b1 : (t494 != 0) = false := bne_eq_false_iff_eq.mpr c4
  clear c4
  obtain ⟨y495, Ny495, H⟩ : ∃ y495 : List (List Int), Aside0 (y495 = (([] : List (List Int)))) ∧ (impl_PrimeCycles.l0 k t491 y495 (t491.length : Int) 0 a0_0 l0_1) = some (r1, r2) := ⟨_, ⟨rfl⟩, H⟩
  have H' := Aside0.mk H
  clear H
  go_enter Try.func32, Try.ntmps32
  go_wp2_with (first | ((with_reducible refine gate_dst (N := 2) rfl ?_); refine box_event ?hg (N := 2) ?hd (cs := #[.int .i64 a0_0, .slice A0_1 l0_1.length c0_1]) (t := 29) ?hr ?_; (case hd => rfl); (case hg => rfl); (case hr => first | (go_simp; done) | (go_simp; rfl)); intro gb490 hg w5 hbox hb; have BK490 := Aside0.mk (hbox); have GW490 := Aside0.mk ((by rw [hg]; exact (below_size hb_) : w.heap.size ≤ gb490)); have GE490 := Aside0.mk ((by rw [hg]; exact (below_size hb_) : w.heap.size ≤ gb490)); replace HB := Aside0.mk (below_step hb_ hb); clear hb hbox hg; have hcz6_0 : w5.cell? ⟨gb490, 0, none⟩ = some (.int .i64 a0_0) := (blk_cell BK490.out 0).trans rfl; have hcz6_1 : w5.cell? ⟨gb490, 1, none⟩ = some (.slice A0_1 l0_1.length c0_1) := (blk_cell BK490.out 1).trans rfl; have hfz6_0 := blk_frozen BK490.out 0; have hfz6_1 := blk_frozen BK490.out 1) | ((with_reducible refine gate_callee (f := 30) rfl ?_); refine goesL_ (some 14) rfl rfl Try.func30 (by kernel_rfl) rfl #[.agg #[.int .i64 a0_0, .slice A0_1 l0_1.length c0_1], .int .i64 a1] rfl arg_ ?_; (with_reducible refine (impl_ClosedWalks.calls k a0_0 _ _ l0_1 a1 t491 t494 _ ?side1 ?side2 A3.out).mono ?_); (case side1 => exact Kd.C_below (Kd.C_below HR0_1.out HB.out) bgo_); (case side2 => exact HC0_1.out); rintro e w7 ⟨v492, rfl, ho0, hb⟩; refine ⟨_, rfl, ?_⟩; obtain ⟨f, ho0⟩ := ho0; have HO493 := Aside0.mk (Kd.R_lower (Kd.R_mono (ok' := fun k_ => (w.heap.size ≤ k_) ∧ k_ ≠ gb490) (Kd.R_bound ho0) (fun k_ hk_ => ⟨(Nat.le_trans (below_size hbs_) hk_.2.1), (Kd.freshB (g := gb490) (o := .cells #[.int .i64 a0_0, .slice A0_1 l0_1.length c0_1] 29 (0, 0)) (blk_below BK490.out bgo_) k_ hk_.2.1)⟩)) (below_size hbs_)); replace BK490 := Aside0.mk (blk_below (g := gb490) (o := .cells #[.int .i64 a0_0, .slice A0_1 l0_1.length c0_1] 29 (0, 0)) (blk_below BK490.out bgo_) hb); replace HB := Aside0.mk (below_step hbs_ hb); (try clear hb); (try clear hb2); (try clear hk); (try clear hi); (try clear ho0)) | ((with_reducible refine gate_dst (N := 20) rfl ?_); refine Kd.R_lit (Kd.tag f (Kd.slice 2 (Kd.int .i64))) _ 26 ?hg (N := 20) ?hd (xs := ([] : List (List Int × Nat))) (inner := []) (ok := (fun k_ => (w.heap.size ≤ k_) ∧ some k_ ≠ (v492 : Value).ownBlock ∧ k_ ≠ gb490)) (okp := (fun k_ => (w.heap.size ≤ k_) ∧ some k_ ≠ (v492 : Value).ownBlock ∧ k_ ≠ gb490)) ?hr ?hp (fun _ hk => hk) ((show ∀ k_, w7.heap.size ≤ k_ → (fun k_ => (w.heap.size ≤ k_) ∧ some k_ ≠ (v492 : Value).ownBlock ∧ k_ ≠ gb490) k_ from fun k_ hk => ⟨(Nat.le_trans (below_size hbs_) hk), Kd.fresh' (Kd.R_lt (Kd.R_below HO493.out bgo_)) k_ hk, Kd.freshB (g := gb490) (o := .cells #[.int .i64 a0_0, .slice A0_1 l0_1.length c0_1] 29 (0, 0)) (blk_below BK490.out bgo_) k_ hk⟩) _ (Nat.le_refl _)) (Below.refl _ _) (Nat.le_refl _) (by simp) ?_; (case hd => rfl); (case hg => rfl); (case hr => first | (go_simp; done) | (go_simp; rfl)); (case hp => exact (Reps.none _ _)); intro v496 w8 ho9 hb hg_ hnew_; clear hg_ hnew_; replace HO493 := Aside0.mk (Kd.R_elder' (Kd.R_below HO493.out bgo_) (Kd.R_base ho9) hb); have HO497 := Aside0.mk (Kd.R_lower ho9 (below_size hbs_)); replace BK490 := Aside0.mk (blk_below (g := gb490) (o := .cells #[.int .i64 a0_0, .slice A0_1 l0_1.length c0_1] 29 (0, 0)) (blk_below BK490.out bgo_) hb); replace HB := Aside0.mk (below_step hbs_ hb); clear hb ho9; obtain ⟨Ao10, co10, eo10⟩ := Kd.S_slice ⟨f, HO493.out⟩; subst eo10))
  go_loopg [8, 23] k (fun kq v8 v23 w' => ∃ (zs : List (List Int × Nat)) (x8_1 : List (List Int)) (x23_1 : Int), v23 = .int .i64 x23_1 ∧ Aside0 (impl_PrimeCycles.Z zs x8_1 x23_1) ∧ Aside0 (impl_PrimeCycles.l0 kq t491 x8_1 (t491.length : Int) x23_1 a0_0 l0_1 = some (r1, r2)) ∧ Aside0 (kq ≤ k) ∧ Aside0 ((Kd.tag f (Kd.slice 2 (Kd.int .i64))).R 26 w' w.heap.size (fun k_ => (w.heap.size ≤ k_) ∧ some k_ ≠ (v8 : Value).ownBlock ∧ k_ ≠ gb490) (.slice Ao10 t491.length co10) t491.zipIdx) ∧ Aside0 ((Kd.tag f (Kd.slice 2 (Kd.int .i64))).R 26 w' w.heap.size (fun k_ => (w.heap.size ≤ k_) ∧ some k_ ≠ ((.slice Ao10 t491.length co10) : Value).ownBlock ∧ k_ ≠ gb490) v8 zs) ∧ Aside0 (w'.heap[gb490]? = some (.cells #[.int .i64 a0_0, (.slice A0_1 l0_1.length c0_1)] 29 (0, 0))) ∧ Aside0 (Below w.heap.size w w'))
  case atStart => exact ⟨[], y495, (0), es_, ⟨impl_PrimeCycles.Z_nil Ny495.out⟩, H', ⟨Nat.le_refl _⟩, ⟨by (with_reducible repeat (first | apply Kd.R_alloc | apply Kd.R_drewN | apply Kd.R_drew)); exact Kd.R_mono HO493.out (fun _ hk => ⟨hk.1.1, ⟨hk.2, hk.1.2⟩⟩)⟩, ⟨Kd.R_below HO497.out bgo_⟩, ⟨blk_below BK490.out bgo_⟩, ⟨hbs_⟩⟩
  case round =>
   clear H'
   obtain ⟨zs, x8_1, x23_1, rfl, HZ, HA, HK1, HO_6, HO_8, BK490, HB⟩ := hrel
   cases gk with
   | zero => exact absurd HA.out (by simp [impl_PrimeCycles.l0])
   | succ k1 =>
    have H := HA.out
    clear HA
    simp only [impl_PrimeCycles.l0] at H
    by_cases c11 : x23_1 < (t491.length : Int)
    ·rw [if_pos c11] at H
     have c11b0 := decide_eq_true c11
     clear c11
     obtain ⟨c12, H⟩ := itn_ H
     have c12b0 := decide_eq_true c12
     clear c12
     obtain ⟨c13, H⟩ := itn_ H
     have c13b0 := decide_eq_true c13
     clear c13
     obtain ⟨t499, A14, H⟩ := bnd_ H
     by_cases c15 : t499 = true
     ·subst c15
      have H1 : ((impl_leastTurn.f k1 (rd_L1 t491 x23_1)).bind fun t500 => ((slices_Equal_int64_int64.f k1 (rd_L1 t491 x23_1) t500).bind fun t503 => (if t503 = true then (if x8_1.length < 5864062014805 then (impl_PrimeCycles.l0 k1 t491 (x8_1 ++ [rd_L1 t491 x23_1]) (t491.length : Int) (wrap64 (x23_1 + 1)) a0_0 l0_1) else (none)) else (impl_PrimeCycles.l0 k1 t491 x8_1 (t491.length : Int) (wrap64 (x23_1 + 1)) a0_0 l0_1)))) = some (r1, r2) := by rw [if_pos rfl] at H; exact H
      clear H
      have H := H1
      clear H1
      obtain ⟨t500, A16, H⟩ := bnd_ H
      obtain ⟨t503, A17, H⟩ := bnd_ H
      by_cases c18 : t503 = true
      ·subst c18
       have H1 : (if x8_1.length < 5864062014805 then (impl_PrimeCycles.l0 k1 t491 (x8_1 ++ [rd_L1 t491 x23_1]) (t491.length : Int) (wrap64 (x23_1 + 1)) a0_0 l0_1) else (none)) = some (r1, r2) := by rw [if_pos rfl] at H; exact H
       clear H
       have H := H1
       clear H1
       obtain ⟨c19, H⟩ := itn_ H
       have LMc19 := Aside0.mk c19
       clear c19
       obtain ⟨y504, Ny504, H⟩ : ∃ y504 : List (List Int), Aside0 (y504 = (x8_1 ++ [rd_L1 t491 x23_1])) ∧ (impl_PrimeCycles.l0 k1 t491 y504 (t491.length : Int) (wrap64 (x23_1 + 1)) a0_0 l0_1) = some (r1, r2) := ⟨_, ⟨rfl⟩, H⟩
       have H' := Aside0.mk H
       clear H
       have p498 : 0 ≤ (x23_1 : Int) := od_
       have q498 : x23_1 < (t491.length : Int) := od_
       obtain ⟨ad498, A498_0, c498_0, e498, hx498_0, hl498_0, hi498_0⟩ := at_L1 (Kd.S_reads' ⟨f, HO_6.out⟩).2.2 x23_1 p498 q498
       cases e498
       have HL498_0 := Aside0.mk (impl_PrimeCycles.row HO_6.out x23_1 p498 q498 hx498_0)
       have HM498 := (Kd.S_reads' ⟨f, HO_6.out⟩).2.2.2.1
       have HZ' := impl_PrimeCycles.Z_next HZ.out (x23_1) (t491.length) rfl q498 HM498
       clear HM498
       have HR498_0 := Aside0.mk hi498_0
       have HC498_0 := Aside0.mk hl498_0
       clear hi498_0 hl498_0
       replace p498 := eq_true p498
       replace q498 := eq_true q498
       have hcz20_0 : wr.cell? ⟨gb490, 0, none⟩ = some (.int .i64 a0_0) := (blk_cell BK490.out 0).trans rfl
       have hcz20_1 : wr.cell? ⟨gb490, 1, none⟩ = some (.slice A0_1 l0_1.length c0_1) := (blk_cell BK490.out 1).trans rfl
       have hfz20_0 := blk_frozen BK490.out 0
       have hfz20_1 := blk_frozen BK490.out 1
       go_wp2_with (first | ((with_reducible refine gate_callee (f := 79) rfl ?_); refine goesL_ (some 29) rfl rfl Try.func79 (by kernel_rfl) rfl #[.agg #[.int .i64 a0_0, .slice A0_1 l0_1.length c0_1], .slice A498_0 (rd_L1 t491 x23_1).length c498_0] rfl arg_ ?_; (with_reducible refine (impl_Graph_isPrime.calls k1 a0_0 _ _ l0_1 _ _ (rd_L1 t491 x23_1) true _ ?side1 ?side2 ?side3 ?side4 A14.out).mono ?_); (case side1 => exact Kd.C_below (Kd.C_below HR0_1.out HB.out) bgo_); (case side2 => exact HC0_1.out); (case side3 => repeat (first | exact (by repeat (first | (with_reducible exact HR498_0.out) | (with_reducible refine Kd.C_alloc ?_ _) | (with_reducible refine Kd.C_drewN ?_ _) | (with_reducible refine Kd.C_drew ?_) | exact HR498_0.out)) | (with_reducible refine Kd.C_alloc ?_ _) | (with_reducible refine Kd.C_drewN ?_ _) | (with_reducible refine Kd.C_drew ?_))); (case side4 => exact HC498_0.out); rintro e w21 ⟨rfl, hb⟩; refine ⟨_, rfl, ?_⟩; replace HO_6 := Aside0.mk (Kd.R_below (Kd.R_below HO_6.out bgo_) hb); replace HO_8 := Aside0.mk (Kd.R_below (Kd.R_below HO_8.out bgo_) hb); replace HL498_0 := Aside0.mk (Kd.R_below (Kd.R_below HL498_0.out bgo_) hb); replace BK490 := Aside0.mk (blk_below (g := gb490) (o := .cells #[.int .i64 a0_0, .slice A0_1 l0_1.length c0_1] 29 (0, 0)) (blk_below BK490.out bgo_) hb); replace HR498_0 := Aside0.mk (Kd.C_below (by repeat (first | (with_reducible exact HR498_0.out) | (with_reducible refine Kd.C_alloc ?_ _) | (with_reducible refine Kd.C_drewN ?_ _) | (with_reducible refine Kd.C_drew ?_) | exact HR498_0.out)) hb); replace HB := Aside0.mk (below_step hbs_ hb); (try clear hb); (try clear hb2); (try clear hk); (try clear hi)) | (go_at_call 81; (with_reducible refine (impl_leastTurn.calls k1 _ _ (rd_L1 t491 x23_1) t500 _ ?side1 ?side2 A16.out).mono ?_); (case side1 => repeat (first | exact (by repeat (first | (with_reducible exact HR498_0.out) | (with_reducible refine Kd.C_alloc ?_ _) | (with_reducible refine Kd.C_drewN ?_ _) | (with_reducible refine Kd.C_drew ?_) | exact HR498_0.out)) | (with_reducible refine Kd.C_alloc ?_ _) | (with_reducible refine Kd.C_drewN ?_ _) | (with_reducible refine Kd.C_drew ?_))); (case side2 => exact HC498_0.out); rintro e w22 ⟨v501, rfl, ho0, hb⟩; replace HO_6 := Aside0.mk (Kd.R_elder' (Kd.R_below HO_6.out bgo_) (Kd.R_base ho0) hb); replace HO_8 := Aside0.mk (Kd.R_elder' (Kd.R_below HO_8.out bgo_) (Kd.R_base ho0) hb); replace HL498_0 := Aside0.mk (Kd.R_elder' (Kd.R_below HL498_0.out bgo_) (Kd.R_base ho0) hb); have HO502 := Aside0.mk (Kd.R_lower (Kd.R_newM (M := fun k_ => (w.heap.size ≤ k_)) ho0 (below_size hbs_) (fun k_ h_ => h_)) (below_size hbs_)); replace BK490 := Aside0.mk (blk_below (g := gb490) (o := .cells #[.int .i64 a0_0, .slice A0_1 l0_1.length c0_1] 29 (0, 0)) (blk_below BK490.out bgo_) hb); replace HR498_0 := Aside0.mk (Kd.C_below (by repeat (first | (with_reducible exact HR498_0.out) | (with_reducible refine Kd.C_alloc ?_ _) | (with_reducible refine Kd.C_drewN ?_ _) | (with_reducible refine Kd.C_drew ?_) | exact HR498_0.out)) hb); replace HB := Aside0.mk (below_step hbs_ hb); (try clear hb); (try clear hb2); (try clear hk); (try clear hi); (try clear ho0); obtain ⟨Ao23, co23, eo23⟩ := Kd.R_slice HO502.out; subst eo23) | (go_at_call 80; (with_reducible refine (slices_Equal_int64_int64.calls k1 _ _ (rd_L1 t491 x23_1) _ _ t500 true _ ?side1 ?side2 ?side3 ?side4 A17.out).mono ?_); (case side1 => repeat (first | exact (by repeat (first | (with_reducible exact HR498_0.out) | (with_reducible refine Kd.C_alloc ?_ _) | (with_reducible refine Kd.C_drewN ?_ _) | (with_reducible refine Kd.C_drew ?_) | exact HR498_0.out)) | (with_reducible refine Kd.C_alloc ?_ _) | (with_reducible refine Kd.C_drewN ?_ _) | (with_reducible refine Kd.C_drew ?_))); (case side2 => exact HC498_0.out); (case side3 => exact Kd.C_below (Kd.R_reads' HO502.out).2.2 bgo_); (case side4 => exact (Kd.R_reads' HO502.out).2.1); rintro e w' ⟨rfl, ⟨nd, rfl⟩⟩) | ((with_reducible refine gate_builtin (b := .append) (xs := #[.tmp 36, .tmp 38]) rfl ?_); at_builtin; refine Kd.R_append (Kd.tag f (Kd.slice 2 (Kd.int .i64))) (w0 := w) w.heap.size rfl (.tmp 36) (.tmp 38) 22 26 (.slice none 0 0) 24 rfl Try.underlying22 info26 rfl Nat.one_pos (by omega) u8 zs (rd_L1 t491 x23_1, x23_1.toNat) [.slice A498_0 (rd_L1 t491 x23_1).length c498_0] (fun k_ => (w.heap.size ≤ k_) ∧ some k_ ≠ (.slice (some ad498) t491.length co10 : Value).ownBlock ∧ some k_ ≠ (.slice Ao23 t500.length co23 : Value).ownBlock ∧ k_ ≠ gb490) (fun k_ => ((fun k_ => (w.heap.size ≤ k_) ∧ some k_ ≠ (.slice (some ad498) t491.length co10 : Value).ownBlock ∧ some k_ ≠ (.slice Ao23 t500.length co23 : Value).ownBlock ∧ k_ ≠ gb490)) k_ ∧ some k_ ≠ (u8 : Value).ownBlock) rfl rfl ?aP (fun _ hk => hk) ?aF ?aO ?aB ?aS ?aL ?_; (case aP => exact ⟨_, rfl, Kd.R_mono (Kd.R_below HL498_0.out bgo_) (fun k hk => ⟨⟨⟨hk.1.1.1.1, hk.1.1.2, hk.2, hk.1.1.1.2.2⟩, hk.1.1.1.2.1⟩, hk.1.2⟩)⟩); (case aB => exact hbs_); (case aF => exact (fun k_ hk => ⟨(Nat.le_trans (below_size hbs_) hk), Kd.fresh' (Kd.R_lt (Kd.R_below HO_6.out bgo_)) k_ hk, Kd.fresh' (Kd.R_lt (Kd.R_below HO502.out bgo_)) k_ hk, Kd.freshB (g := gb490) (o := .cells #[.int .i64 a0_0, .slice A0_1 l0_1.length c0_1] 29 (0, 0)) (blk_below BK490.out bgo_) k_ hk⟩)); (case aO => exact (by (with_reducible repeat (first | apply Kd.R_alloc | apply Kd.R_drewN | apply Kd.R_drew)); exact Kd.R_mono HO_8.out (fun _ hk => ⟨hk.1.1, ⟨hk.1.2.1, ⟨hk.2, hk.1.2.2⟩⟩⟩))); (case aS => exact (below_size hbs_)); (case aL => have := LMc19.out; have hl_ := HZ.out.len; omega); intro v505 w24 ho hb hg hat; replace HO_6 := Aside0.mk (Kd.R_after (ok := (fun k_ => (w.heap.size ≤ k_) ∧ some k_ ≠ (.slice Ao23 t500.length co23 : Value).ownBlock ∧ k_ ≠ gb490)) (by (with_reducible repeat (first | apply Kd.R_alloc | apply Kd.R_drewN | apply Kd.R_drew)); exact Kd.R_mono HO_6.out (fun _ hk => ⟨⟨hk.1.1, ⟨hk.2, hk.1.2.2⟩⟩, hk.1.2.1⟩)) hg hat); replace BK490 := Aside0.mk (blk_grown (g := gb490) (o := .cells #[.int .i64 a0_0, .slice A0_1 l0_1.length c0_1] 29 (0, 0)) (blk_below BK490.out bgo_) hg (Kd.R_ne HO_8.out BK490.out (by decide))); replace HO502 := Aside0.mk (Kd.R_over' (Kd.R_below HO502.out bgo_) (Kd.R_typed (Kd.R_below HO_8.out bgo_)) (by decide) hg); replace HB := Aside0.mk (hb); have HO506 := Aside0.mk (ho); clear HO_8 HL498_0; clear ho hb hg hat))
       first | go_roundg k1 | (refine Handed.intro k1 ?measure ?_; rotate_left; go_step; (try simp only [add_plain]); (repeat apply Exists.intro); refine ⟨?rel, rfl⟩)
       case measure => have := HK1.out; omega
       case rel => exact ⟨_, y504, (wrap64 (x23_1 + 1)), es_, ⟨HZ'.2 Ny504.out⟩, H', ⟨by have := HK1.out; omega⟩, ⟨by (with_reducible repeat (first | apply Kd.R_alloc | apply Kd.R_drewN | apply Kd.R_drew)); exact Kd.R_mono HO_6.out (fun _ hk => ⟨hk.1.1, ⟨hk.2, hk.1.2.2⟩⟩)⟩, ⟨by (with_reducible repeat (first | apply Kd.R_alloc | apply Kd.R_drewN | apply Kd.R_drew)); exact Kd.R_mono HO506.out (fun _ hk => ⟨hk.1, ⟨hk.2.1, hk.2.2.2⟩⟩)⟩, ⟨blk_below BK490.out bgo_⟩, ⟨hbs_⟩⟩
      ·replace c18 := Bool.eq_false_iff.mpr c18
       subst c18
       have H1 : (impl_PrimeCycles.l0 k1 t491 x8_1 (t491.length : Int) (wrap64 (x23_1 + 1)) a0_0 l0_1) = some (r1, r2) := by rw [if_neg (show ¬ (false = true) by decide)] at H; exact H
       clear H
       have H := H1
       clear H1
       have H' := Aside0.mk H
       clear H
       have p498 : 0 ≤ (x23_1 : Int) := od_
       have q498 : x23_1 < (t491.length : Int) := od_
       obtain ⟨ad498, A498_0, c498_0, e498, hx498_0, hl498_0, hi498_0⟩ := at_L1 (Kd.S_reads' ⟨f, HO_6.out⟩).2.2 x23_1 p498 q498
       cases e498
       have HL498_0 := Aside0.mk (impl_PrimeCycles.row HO_6.out x23_1 p498 q498 hx498_0)
       have HM498 := (Kd.S_reads' ⟨f, HO_6.out⟩).2.2.2.1
       have HZ' := impl_PrimeCycles.Z_next HZ.out (x23_1) (t491.length) rfl q498 HM498
       clear HM498
       have HR498_0 := Aside0.mk hi498_0
       have HC498_0 := Aside0.mk hl498_0
       clear hi498_0 hl498_0
       replace p498 := eq_true p498
       replace q498 := eq_true q498
       have hcz25_0 : wr.cell? ⟨gb490, 0, none⟩ = some (.int .i64 a0_0) := (blk_cell BK490.out 0).trans rfl
       have hcz25_1 : wr.cell? ⟨gb490, 1, none⟩ = some (.slice A0_1 l0_1.length c0_1) := (blk_cell BK490.out 1).trans rfl
       have hfz25_0 := blk_frozen BK490.out 0
       have hfz25_1 := blk_frozen BK490.out 1
       go_wp2_with (first | ((with_reducible refine gate_callee (f := 79) rfl ?_); refine goesL_ (some 29) rfl rfl Try.func79 (by kernel_rfl) rfl #[.agg #[.int .i64 a0_0, .slice A0_1 l0_1.length c0_1], .slice A498_0 (rd_L1 t491 x23_1).length c498_0] rfl arg_ ?_; (with_reducible refine (impl_Graph_isPrime.calls k1 a0_0 _ _ l0_1 _ _ (rd_L1 t491 x23_1) true _ ?side1 ?side2 ?side3 ?side4 A14.out).mono ?_); (case side1 => exact Kd.C_below (Kd.C_below HR0_1.out HB.out) bgo_); (case side2 => exact HC0_1.out); (case side3 => repeat (first | exact (by repeat (first | (with_reducible exact HR498_0.out) | (with_reducible refine Kd.C_alloc ?_ _) | (with_reducible refine Kd.C_drewN ?_ _) | (with_reducible refine Kd.C_drew ?_) | exact HR498_0.out)) | (with_reducible refine Kd.C_alloc ?_ _) | (with_reducible refine Kd.C_drewN ?_ _) | (with_reducible refine Kd.C_drew ?_))); (case side4 => exact HC498_0.out); rintro e w26 ⟨rfl, hb⟩; refine ⟨_, rfl, ?_⟩; replace HO_6 := Aside0.mk (Kd.R_below (Kd.R_below HO_6.out bgo_) hb); replace HO_8 := Aside0.mk (Kd.R_below (Kd.R_below HO_8.out bgo_) hb); replace HL498_0 := Aside0.mk (Kd.R_below (Kd.R_below HL498_0.out bgo_) hb); replace BK490 := Aside0.mk (blk_below (g := gb490) (o := .cells #[.int .i64 a0_0, .slice A0_1 l0_1.length c0_1] 29 (0, 0)) (blk_below BK490.out bgo_) hb); replace HR498_0 := Aside0.mk (Kd.C_below (by repeat (first | (with_reducible exact HR498_0.out) | (with_reducible refine Kd.C_alloc ?_ _) | (with_reducible refine Kd.C_drewN ?_ _) | (with_reducible refine Kd.C_drew ?_) | exact HR498_0.out)) hb); replace HB := Aside0.mk (below_step hbs_ hb); (try clear hb); (try clear hb2); (try clear hk); (try clear hi)) | (go_at_call 81; (with_reducible refine (impl_leastTurn.calls k1 _ _ (rd_L1 t491 x23_1) t500 _ ?side1 ?side2 A16.out).mono ?_); (case side1 => repeat (first | exact (by repeat (first | (with_reducible exact HR498_0.out) | (with_reducible refine Kd.C_alloc ?_ _) | (with_reducible refine Kd.C_drewN ?_ _) | (with_reducible refine Kd.C_drew ?_) | exact HR498_0.out)) | (with_reducible refine Kd.C_alloc ?_ _) | (with_reducible refine Kd.C_drewN ?_ _) | (with_reducible refine Kd.C_drew ?_))); (case side2 => exact HC498_0.out); rintro e w27 ⟨v501, rfl, ho0, hb⟩; replace HO_6 := Aside0.mk (Kd.R_elder' (Kd.R_below HO_6.out bgo_) (Kd.R_base ho0) hb); replace HO_8 := Aside0.mk (Kd.R_elder' (Kd.R_below HO_8.out bgo_) (Kd.R_base ho0) hb); replace HL498_0 := Aside0.mk (Kd.R_elder' (Kd.R_below HL498_0.out bgo_) (Kd.R_base ho0) hb); have HO502 := Aside0.mk (Kd.R_lower (Kd.R_newM (M := fun k_ => (w.heap.size ≤ k_)) ho0 (below_size hbs_) (fun k_ h_ => h_)) (below_size hbs_)); replace BK490 := Aside0.mk (blk_below (g := gb490) (o := .cells #[.int .i64 a0_0, .slice A0_1 l0_1.length c0_1] 29 (0, 0)) (blk_below BK490.out bgo_) hb); replace HR498_0 := Aside0.mk (Kd.C_below (by repeat (first | (with_reducible exact HR498_0.out) | (with_reducible refine Kd.C_alloc ?_ _) | (with_reducible refine Kd.C_drewN ?_ _) | (with_reducible refine Kd.C_drew ?_) | exact HR498_0.out)) hb); replace HB := Aside0.mk (below_step hbs_ hb); (try clear hb); (try clear hb2); (try clear hk); (try clear hi); (try clear ho0); obtain ⟨Ao28, co28, eo28⟩ := Kd.R_slice HO502.out; subst eo28) | (go_at_call 80; (with_reducible refine (slices_Equal_int64_int64.calls k1 _ _ (rd_L1 t491 x23_1) _ _ t500 false _ ?side1 ?side2 ?side3 ?side4 A17.out).mono ?_); (case side1 => repeat (first | exact (by repeat (first | (with_reducible exact HR498_0.out) | (with_reducible refine Kd.C_alloc ?_ _) | (with_reducible refine Kd.C_drewN ?_ _) | (with_reducible refine Kd.C_drew ?_) | exact HR498_0.out)) | (with_reducible refine Kd.C_alloc ?_ _) | (with_reducible refine Kd.C_drewN ?_ _) | (with_reducible refine Kd.C_drew ?_))); (case side2 => exact HC498_0.out); (case side3 => exact Kd.C_below (Kd.R_reads' HO502.out).2.2 bgo_); (case side4 => exact (Kd.R_reads' HO502.out).2.1); rintro e w' ⟨rfl, ⟨nd, rfl⟩⟩))
       first | go_roundg k1 | (refine Handed.intro k1 ?measure ?_; rotate_left; go_step; (try simp only [add_plain]); (repeat apply Exists.intro); refine ⟨?rel, rfl⟩)
       case measure => have := HK1.out; omega
       case rel => exact ⟨zs, x8_1, (wrap64 (x23_1 + 1)), es_, ⟨HZ'.1⟩, H', ⟨by have := HK1.out; omega⟩, ⟨by (with_reducible repeat (first | apply Kd.R_alloc | apply Kd.R_drewN | apply Kd.R_drew)); exact Kd.R_mono HO_6.out (fun _ hk => ⟨hk.1.1, ⟨hk.1.2.1, hk.1.2.2⟩⟩)⟩, ⟨by (with_reducible repeat (first | apply Kd.R_alloc | apply Kd.R_drewN | apply Kd.R_drew)); exact Kd.R_mono HO_8.out (fun _ hk => ⟨hk.1.1, ⟨hk.1.2.1, hk.1.2.2⟩⟩)⟩, ⟨blk_below BK490.out bgo_⟩, ⟨hbs_⟩⟩
     ·replace c15 := Bool.eq_false_iff.mpr c15
      subst c15
      have H1 : (impl_PrimeCycles.l0 k1 t491 x8_1 (t491.length : Int) (wrap64 (x23_1 + 1)) a0_0 l0_1) = some (r1, r2) := by rw [if_neg (show ¬ (false = true) by decide)] at H; exact H
      clear H
      have H := H1
      clear H1
      have H' := Aside0.mk H
      clear H
      have p498 : 0 ≤ (x23_1 : Int) := od_
      have q498 : x23_1 < (t491.length : Int) := od_
      obtain ⟨ad498, A498_0, c498_0, e498, hx498_0, hl498_0, hi498_0⟩ := at_L1 (Kd.S_reads' ⟨f, HO_6.out⟩).2.2 x23_1 p498 q498
      cases e498
      have HL498_0 := Aside0.mk (impl_PrimeCycles.row HO_6.out x23_1 p498 q498 hx498_0)
      have HM498 := (Kd.S_reads' ⟨f, HO_6.out⟩).2.2.2.1
      have HZ' := impl_PrimeCycles.Z_next HZ.out (x23_1) (t491.length) rfl q498 HM498
      clear HM498
      have HR498_0 := Aside0.mk hi498_0
      have HC498_0 := Aside0.mk hl498_0
      clear hi498_0 hl498_0
      replace p498 := eq_true p498
      replace q498 := eq_true q498
      have hcz29_0 : wr.cell? ⟨gb490, 0, none⟩ = some (.int .i64 a0_0) := (blk_cell BK490.out 0).trans rfl
      have hcz29_1 : wr.cell? ⟨gb490, 1, none⟩ = some (.slice A0_1 l0_1.length c0_1) := (blk_cell BK490.out 1).trans rfl
      have hfz29_0 := blk_frozen BK490.out 0
      have hfz29_1 := blk_frozen BK490.out 1
      go_wp2_with (first | ((with_reducible refine gate_callee (f := 79) rfl ?_); refine goesL_ (some 29) rfl rfl Try.func79 (by kernel_rfl) rfl #[.agg #[.int .i64 a0_0, .slice A0_1 l0_1.length c0_1], .slice A498_0 (rd_L1 t491 x23_1).length c498_0] rfl arg_ ?_; (with_reducible refine (impl_Graph_isPrime.calls k1 a0_0 _ _ l0_1 _ _ (rd_L1 t491 x23_1) false _ ?side1 ?side2 ?side3 ?side4 A14.out).mono ?_); (case side1 => exact Kd.C_below (Kd.C_below HR0_1.out HB.out) bgo_); (case side2 => exact HC0_1.out); (case side3 => repeat (first | exact (by repeat (first | (with_reducible exact HR498_0.out) | (with_reducible refine Kd.C_alloc ?_ _) | (with_reducible refine Kd.C_drewN ?_ _) | (with_reducible refine Kd.C_drew ?_) | exact HR498_0.out)) | (with_reducible refine Kd.C_alloc ?_ _) | (with_reducible refine Kd.C_drewN ?_ _) | (with_reducible refine Kd.C_drew ?_))); (case side4 => exact HC498_0.out); rintro e w30 ⟨rfl, hb⟩; refine ⟨_, rfl, ?_⟩; replace HO_6 := Aside0.mk (Kd.R_below (Kd.R_below HO_6.out bgo_) hb); replace HO_8 := Aside0.mk (Kd.R_below (Kd.R_below HO_8.out bgo_) hb); replace HL498_0 := Aside0.mk (Kd.R_below (Kd.R_below HL498_0.out bgo_) hb); replace BK490 := Aside0.mk (blk_below (g := gb490) (o := .cells #[.int .i64 a0_0, .slice A0_1 l0_1.length c0_1] 29 (0, 0)) (blk_below BK490.out bgo_) hb); replace HR498_0 := Aside0.mk (Kd.C_below (by repeat (first | (with_reducible exact HR498_0.out) | (with_reducible refine Kd.C_alloc ?_ _) | (with_reducible refine Kd.C_drewN ?_ _) | (with_reducible refine Kd.C_drew ?_) | exact HR498_0.out)) hb); replace HB := Aside0.mk (below_step hbs_ hb); (try clear hb); (try clear hb2); (try clear hk); (try clear hi)))
      first | go_roundg k1 | (refine Handed.intro k1 ?measure ?_; rotate_left; go_step; (try simp only [add_plain]); (repeat apply Exists.intro); refine ⟨?rel, rfl⟩)
      case measure => have := HK1.out; omega
      case rel => exact ⟨zs, x8_1, (wrap64 (x23_1 + 1)), es_, ⟨HZ'.1⟩, H', ⟨by have := HK1.out; omega⟩, ⟨Kd.R_below HO_6.out bgo_⟩, ⟨Kd.R_below HO_8.out bgo_⟩, ⟨blk_below BK490.out bgo_⟩, ⟨hbs_⟩⟩
    ·rw [if_neg c11] at H
     have c11b0 := decide_eq_false c11
     clear c11
     simp only [Option.some.injEq, Prod.mk.injEq] at H
     obtain ⟨rfl, rfl⟩ := H
     go_wp2
     go_ret2
     exact ⟨_, er_, HZ.out.eq ▸ Kd.S_mono (impl_PrimeCycles.sel HO_8.out HZ.out.pw) (fun _ _ => trivial), hbs_⟩
 ·rw [if_neg c4] at H
  have c4b0 : (t494 == 0) = false := beq_eq_false_iff_ne.mpr c4
  have c4b1 : (t494 != 0) = true := bne_iff_ne.mpr c4
  simp only [Option.some.injEq, Prod.mk.injEq] at H
  obtain ⟨rfl, rfl⟩ := H
  go_enter Try.func32, Try.ntmps32
  go_wp2_with (first | ((with_reducible refine gate_dst (N := 2) rfl ?_); refine box_event ?hg (N := 2) ?hd (cs := #[.int .i64 a0_0, .slice A0_1 l0_1.length c0_1]) (t := 29) ?hr ?_; (case hd => rfl); (case hg => rfl); (case hr => first | (go_simp; done) | (go_simp; rfl)); intro gb490 hg w31 hbox hb; have BK490 := Aside0.mk (hbox); have GW490 := Aside0.mk ((by rw [hg]; exact (below_size hb_) : w.heap.size ≤ gb490)); have GE490 := Aside0.mk ((by rw [hg]; exact (below_size hb_) : w.heap.size ≤ gb490)); replace HB := Aside0.mk (below_step hb_ hb); clear hb hbox hg; have hcz32_0 : w31.cell? ⟨gb490, 0, none⟩ = some (.int .i64 a0_0) := (blk_cell BK490.out 0).trans rfl; have hcz32_1 : w31.cell? ⟨gb490, 1, none⟩ = some (.slice A0_1 l0_1.length c0_1) := (blk_cell BK490.out 1).trans rfl; have hfz32_0 := blk_frozen BK490.out 0; have hfz32_1 := blk_frozen BK490.out 1) | ((with_reducible refine gate_callee (f := 30) rfl ?_); refine goesL_ (some 14) rfl rfl Try.func30 (by kernel_rfl) rfl #[.agg #[.int .i64 a0_0, .slice A0_1 l0_1.length c0_1], .int .i64 a1] rfl arg_ ?_; (with_reducible refine (impl_ClosedWalks.calls k a0_0 _ _ l0_1 a1 t491 t494 _ ?side1 ?side2 A3.out).mono ?_); (case side1 => exact Kd.C_below (Kd.C_below HR0_1.out HB.out) bgo_); (case side2 => exact HC0_1.out); rintro e w33 ⟨v492, rfl, ho0, hb⟩; refine ⟨_, rfl, ?_⟩; replace BK490 := Aside0.mk (blk_below (g := gb490) (o := .cells #[.int .i64 a0_0, .slice A0_1 l0_1.length c0_1] 29 (0, 0)) (blk_below BK490.out bgo_) hb); replace HB := Aside0.mk (below_step hbs_ hb); (try clear hb); (try clear hb2); (try clear hk); (try clear hi); (try clear ho0)))
  go_ret2
  exact ⟨_, er_, by exact Kd.S_nil _ _ _ _ _, hbs_⟩


end Go.Proofs.Ytipigagbgpoecaa.G
