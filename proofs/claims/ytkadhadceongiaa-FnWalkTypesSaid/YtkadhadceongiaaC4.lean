/- The printed functions that this law reaches, and their contracts: part 4. -/
-- printed by this repo's wip/printer out of the kit's print with its own changes
import Derived.Test.YtkadhadceongiaaC3
namespace Go.Proofs.Ytkadhadceongiaa.G
open Go.RowKit Go.Proofs.YtkadhadceongiaaW.PrintWords Go.Proofs.YtkadhadceongiaaW.PrintLast Go.Proofs.YtkadhadceongiaaW.PrintMore
attribute [local go_sem] max2_int min2_int max_two min_two max_three min_three max_four min_four   -- for this text's walks alone
set_option linter.unusedVariables false
set_option linter.unusedSimpArgs false

/-! ### spec_l04Is: function 209 -/
mutual
def spec_l04Is.j0 : Nat → Bool → Int → List (List Int) → Int → List (List Int) → Option (Bool)
 | 0, _, _, _, _, _ => none
 | k + 1, x23, x575000, x575001, x575002, x575003 => if x23 = true then (some false) else (spec_l04Is.l0 k 0 x575000 x575001 x575002 x575003)
def spec_l04Is.l0 : Nat → Int → Int → List (List Int) → Int → List (List Int) → Option (Bool)
 | 0, _, _, _, _, _ => none
 | k + 1, x3, x575000, x575001, x575002, x575003 => if x3 < (x575003.length : Int) then (if 0 ≤ x3 then ((spec_l04Permutation.f k (rd_L2 x575003 x3) x575002).bind fun t578 => (if t578 = true then (spec_l04Is.l0 k (wrap64 (x3 + 1)) x575000 x575001 x575002 x575003) else (some false))) else (none)) else (some true)
end
def spec_l04Is.f (k : Nat) (a0_0 : Int) (l0_1 : List (List Int)) (a0_2 : Int) (l0_3 : List (List Int)) : Option (Bool) := (spec_l01Is.f k a0_0 l0_1).bind fun t575 => (if t575 = true then ((spec_l01In.f a0_2 1 4).bind fun t576 => (if t576 = true then (spec_l04Is.j0 k ((l0_3.length : Int) != (l0_1.length : Int)) a0_0 l0_1 a0_2 l0_3) else (spec_l04Is.j0 k true a0_0 l0_1 a0_2 l0_3))) else (spec_l04Is.j0 k true a0_0 l0_1 a0_2 l0_3))
def spec_l04Is.T6 : Bool × List (List Nat × List Nat) := (true, [([], []), ([0], [0]), ([], []), ([1, 2], [1, 2]), ([3], [3]), ([], []), ([5], [5]), ([4, 6], [4, 6]), ([7], [7])])
def spec_l04Is.B6 : List Nat := [0, 1, 0, 7, 15, 0, 32, 127, 255]
theorem spec_l04Is.tab6 : rtab .any (opsOf Try.f209 6) = spec_l04Is.T6 := by kernel_rfl
theorem spec_l04Is.bits6 : waitsOk spec_l04Is.T6.2 spec_l04Is.B6 = true := by kernel_rfl
set_option maxHeartbeats 8000000 in
set_option maxRecDepth 100000 in
theorem spec_l04Is.calls (k : Nat) (a0_0 : Int) (A0_1 : Option Addr) (c0_1 : Nat) (l0_1 : List (List Int)) (a0_2 : Int) (A0_3 : Option Addr) (c0_3 : Nat) (l0_3 : List (List Int)) (r : Bool) (w : World) (hr0_1 : Kd.C (Kd.slice 2 (Kd.int .i64)) w A0_1 l0_1.length l0_1) (hc0_1 : l0_1.length ≤ c0_1) (hr0_3 : Kd.C (Kd.slice 2 (Kd.int .i64)) w A0_3 l0_3.length l0_3) (hc0_3 : l0_3.length ≤ c0_3) (h : spec_l04Is.f k a0_0 l0_1 a0_2 l0_3 = some r) :
  Calls Try.prog 209 #[.agg #[.int .i64 a0_0, .slice A0_1 l0_1.length c0_1, .int .i64 a0_2, .slice A0_3 l0_3.length c0_3]] w fun e w' => e = .returned (.bool r) ∧ Below w.heap.size w w' := by
 have hu28 := Try.underlying28
 have hu26 := Try.underlying26
 have HR0_1 := m_ hr0_1
 have HC0_1 := m_ hc0_1
 clear hr0_1 hc0_1
 have HR0_3 := m_ hr0_3
 have HC0_3 := m_ hc0_3
 clear hr0_3 hc0_3
 have HB := m_ (Below.refl w.heap.size w)
 have H : ((spec_l01Is.f k a0_0 l0_1).bind fun t575 => (if t575 = true then ((spec_l01In.f a0_2 1 4).bind fun t576 => (if t576 = true then (spec_l04Is.j0 k ((l0_3.length : Int) != (l0_1.length : Int)) a0_0 l0_1 a0_2 l0_3) else (spec_l04Is.j0 k true a0_0 l0_1 a0_2 l0_3))) else (spec_l04Is.j0 k true a0_0 l0_1 a0_2 l0_3))) = some r := h
 clear h
 have HC2 := m_ H
 clear H
 go_enter Try.func209, Try.ntmps209
 go_upto_region 1 with (first | ((with_reducible refine gate_dst (N := 1) rfl ?_); (try (refine gate_guard (by rfl) ?_; dsimp only)); refine bx_ (N := 1) (cs := #[.int .i64 a0_0, .slice A0_1 l0_1.length c0_1, .int .i64 a0_2, .slice A0_3 l0_3.length c0_3]) (t := 28) ?_; intro gb574 hg w3 hbox hb; have BK574 := m_ (hbox); have GW574 := m_ ((by rw [hg]; exact (below_size hb_) : w.heap.size ≤ gb574)); have GE574 := m_ ((by rw [hg]; exact (below_size hb_) : w.heap.size ≤ gb574)); replace HB := m_ (below_step hb_ hb); clear hb hbox hg))
 (try simp only [Act.put, List.setIfInBounds_toArray, List.set_cons_zero, List.set_cons_succ])
 go_cut [23] (fun v23 wc => ∃ (kq : Nat) (x23_1 : Bool), v23 = .bool x23_1 ∧ Aside0 (spec_l04Is.j0 kq x23_1 a0_0 l0_1 a0_2 l0_3 = some r) ∧ Aside0 (kq ≤ k) ∧ Aside0 (wc.heap[gb574]? = some (.cells #[.int .i64 a0_0, (.slice A0_1 l0_1.length c0_1), .int .i64 a0_2, (.slice A0_3 l0_3.length c0_3)] 28 (0, 0))) ∧ Aside0 (Below w.heap.size w wc))
 case first =>
  have H := HC2.out
  clear HC2
  obtain ⟨t575, A4, H⟩ := bnd_ H
  by_cases c5 : t575 = true
  ·subst c5
   have H1 : ((spec_l01In.f a0_2 1 4).bind fun t576 => (if t576 = true then (spec_l04Is.j0 k ((l0_3.length : Int) != (l0_1.length : Int)) a0_0 l0_1 a0_2 l0_3) else (spec_l04Is.j0 k true a0_0 l0_1 a0_2 l0_3))) = some r := by rw [if_pos rfl] at H; exact H
   clear H
   have H := H1
   clear H1
   obtain ⟨t576, A6, H⟩ := bnd_ H
   by_cases c7 : t576 = true
   ·subst c7
    have H1 : (spec_l04Is.j0 k ((l0_3.length : Int) != (l0_1.length : Int)) a0_0 l0_1 a0_2 l0_3) = some r := by rw [if_pos rfl] at H; exact H
    clear H
    have H := H1
    clear H1
    have H' := m_ H
    clear H
    have hcz8_0 := bc0_ BK574.out
    have hcz8_1 := bc1_ BK574.out
    have hcz8_2 := bc2_ BK574.out
    have hcz8_3 := bc3_ BK574.out
    have hfz8_0 := blk_frozen BK574.out 0
    have hfz8_1 := blk_frozen BK574.out 1
    have hfz8_2 := blk_frozen BK574.out 2
    have hfz8_3 := blk_frozen BK574.out 3
    go_wp2_with (first | ((with_reducible refine gate_callee (f := 137) rfl ?_); refine gl_ (some 6) Try.func137 #[.agg #[.int .i64 a0_0, .slice A0_1 l0_1.length c0_1]] ?_; (with_reducible refine (spec_l01Is.calls k a0_0 _ _ l0_1 true _ ?side1 ?side2 A4.out).mono ?_); (case side1 => exact Kd.C_below (Kd.C_below HR0_1.out HB.out) bgo_); (case side2 => exact HC0_1.out); rintro e w9 ⟨rfl, hb⟩; refine ⟨_, rfl, ?_⟩; replace BK574 := m_ (bb_ BK574.out hb); replace HB := m_ (below_step hbs_ hb); clear hb; have hcz10_0 := bc0_ BK574.out; have hcz10_1 := bc1_ BK574.out; have hcz10_2 := bc2_ BK574.out; have hcz10_3 := bc3_ BK574.out; have hfz10_0 := blk_frozen BK574.out 0; have hfz10_1 := blk_frozen BK574.out 1; have hfz10_2 := blk_frozen BK574.out 2; have hfz10_3 := blk_frozen BK574.out 3) | (go_at_call 150; (with_reducible refine (spec_l01In.calls a0_2 1 4 true _ A6.out).mono ?_); rintro e w' ⟨rfl, ⟨nd, rfl⟩⟩))
    go_meet
    case rel => exact ⟨_, (((l0_3.length : Int) != (l0_1.length : Int))), es_, H', ⟨by first | omega | exact Nat.le_refl _⟩, ⟨blk_below BK574.out bgo_⟩, ⟨hbs_⟩⟩
   ·replace c7 := Bool.eq_false_iff.mpr c7
    subst c7
    have H1 : (spec_l04Is.j0 k true a0_0 l0_1 a0_2 l0_3) = some r := by rw [if_neg (show ¬ (false = true) by decide)] at H; exact H
    clear H
    have H := H1
    clear H1
    have H' := m_ H
    clear H
    have hcz11_0 := bc0_ BK574.out
    have hcz11_1 := bc1_ BK574.out
    have hcz11_2 := bc2_ BK574.out
    have hcz11_3 := bc3_ BK574.out
    have hfz11_0 := blk_frozen BK574.out 0
    have hfz11_1 := blk_frozen BK574.out 1
    have hfz11_2 := blk_frozen BK574.out 2
    have hfz11_3 := blk_frozen BK574.out 3
    go_wp2_with (first | ((with_reducible refine gate_callee (f := 137) rfl ?_); refine gl_ (some 6) Try.func137 #[.agg #[.int .i64 a0_0, .slice A0_1 l0_1.length c0_1]] ?_; (with_reducible refine (spec_l01Is.calls k a0_0 _ _ l0_1 true _ ?side1 ?side2 A4.out).mono ?_); (case side1 => exact Kd.C_below (Kd.C_below HR0_1.out HB.out) bgo_); (case side2 => exact HC0_1.out); rintro e w12 ⟨rfl, hb⟩; refine ⟨_, rfl, ?_⟩; replace BK574 := m_ (bb_ BK574.out hb); replace HB := m_ (below_step hbs_ hb); clear hb; have hcz13_0 := bc0_ BK574.out; have hcz13_1 := bc1_ BK574.out; have hcz13_2 := bc2_ BK574.out; have hcz13_3 := bc3_ BK574.out; have hfz13_0 := blk_frozen BK574.out 0; have hfz13_1 := blk_frozen BK574.out 1; have hfz13_2 := blk_frozen BK574.out 2; have hfz13_3 := blk_frozen BK574.out 3) | (go_at_call 150; (with_reducible refine (spec_l01In.calls a0_2 1 4 false _ A6.out).mono ?_); rintro e w' ⟨rfl, ⟨nd, rfl⟩⟩))
    go_meet
    case rel => exact ⟨_, (true), es_, H', ⟨by first | omega | exact Nat.le_refl _⟩, ⟨blk_below BK574.out bgo_⟩, ⟨hbs_⟩⟩
  ·replace c5 := Bool.eq_false_iff.mpr c5
   subst c5
   have H1 : (spec_l04Is.j0 k true a0_0 l0_1 a0_2 l0_3) = some r := by rw [if_neg (show ¬ (false = true) by decide)] at H; exact H
   clear H
   have H := H1
   clear H1
   have H' := m_ H
   clear H
   have hcz14_0 := bc0_ BK574.out
   have hcz14_1 := bc1_ BK574.out
   have hcz14_2 := bc2_ BK574.out
   have hcz14_3 := bc3_ BK574.out
   have hfz14_0 := blk_frozen BK574.out 0
   have hfz14_1 := blk_frozen BK574.out 1
   have hfz14_2 := blk_frozen BK574.out 2
   have hfz14_3 := blk_frozen BK574.out 3
   go_wp2_with (first | ((with_reducible refine gate_callee (f := 137) rfl ?_); refine gl_ (some 6) Try.func137 #[.agg #[.int .i64 a0_0, .slice A0_1 l0_1.length c0_1]] ?_; (with_reducible refine (spec_l01Is.calls k a0_0 _ _ l0_1 false _ ?side1 ?side2 A4.out).mono ?_); (case side1 => exact Kd.C_below (Kd.C_below HR0_1.out HB.out) bgo_); (case side2 => exact HC0_1.out); rintro e w15 ⟨rfl, hb⟩; refine ⟨_, rfl, ?_⟩; replace BK574 := m_ (bb_ BK574.out hb); replace HB := m_ (below_step hbs_ hb); clear hb))
   go_meet
   case rel => exact ⟨_, (true), es_, H', ⟨by first | omega | exact Nat.le_refl _⟩, ⟨blk_below BK574.out bgo_⟩, ⟨hbs_⟩⟩
 case rest =>
  clear HC2
  obtain ⟨kq, x23_1, rfl, HA, HJ1, BK574, HB⟩ := hcut
  cases kq with
  | zero => exact absurd HA.out (by simp [spec_l04Is.j0])
  | succ kj1 =>
   have H := HA.out
   clear HA
   simp only [spec_l04Is.j0] at H
   by_cases c16 : x23_1 = true
   ·subst c16
    have H1 : (some false) = some r := by rw [if_pos rfl] at H; exact H
    clear H
    have H := H1
    clear H1
    obtain rfl := Option.some.inj H
    go_wp2
    go_ret
    exact ⟨er_, hbs_⟩
   ·replace c16 := Bool.eq_false_iff.mpr c16
    subst c16
    have H1 : (spec_l04Is.l0 kj1 0 a0_0 l0_1 a0_2 l0_3) = some r := by rw [if_neg (show ¬ (false = true) by decide)] at H; exact H
    clear H
    have H := H1
    clear H1
    have H' := m_ H
    clear H
    go_wp2
    go_loopg [3] kj1 (fun kq v3 w' => ∃ (x3_2 : Int), v3 = .int .i64 x3_2 ∧ Aside0 (spec_l04Is.l0 kq x3_2 a0_0 l0_1 a0_2 l0_3 = some r) ∧ Aside0 (kq ≤ kj1) ∧ Aside0 (w'.heap[gb574]? = some (.cells #[.int .i64 a0_0, (.slice A0_1 l0_1.length c0_1), .int .i64 a0_2, (.slice A0_3 l0_3.length c0_3)] 28 (0, 0))) ∧ Aside0 (Below w.heap.size w w'))
    case atStart => exact ⟨(0), es_, H', ⟨Nat.le_refl _⟩, ⟨blk_below BK574.out bgo_⟩, ⟨hbs_⟩⟩
    case round =>
     clear H'
     obtain ⟨x3_2, rfl, HA, HK2, BK574, HB⟩ := hrel
     cases gk with
     | zero => exact absurd HA.out (by simp [spec_l04Is.l0])
     | succ k2 =>
      have H := HA.out
      clear HA
      simp only [spec_l04Is.l0] at H
      by_cases c17 : x3_2 < (l0_3.length : Int)
      ·rw [if_pos c17] at H
       have c17b0 := decide_eq_true c17
       clear c17
       obtain ⟨c18, H⟩ := itn_ H
       have c18b0 := decide_eq_true c18
       clear c18
       obtain ⟨t578, A19, H⟩ := bnd_ H
       by_cases c20 : t578 = true
       ·subst c20
        have H1 : (spec_l04Is.l0 k2 (wrap64 (x3_2 + 1)) a0_0 l0_1 a0_2 l0_3) = some r := by rw [if_pos rfl] at H; exact H
        clear H
        have H := H1
        clear H1
        have H' := m_ H
        clear H
        have hcz21_0 := bc0_ BK574.out
        have hcz21_1 := bc1_ BK574.out
        have hcz21_2 := bc2_ BK574.out
        have hcz21_3 := bc3_ BK574.out
        have hfz21_0 := blk_frozen BK574.out 0
        have hfz21_1 := blk_frozen BK574.out 1
        have hfz21_2 := blk_frozen BK574.out 2
        have hfz21_3 := blk_frozen BK574.out 3
        try go_wp2
        replace BK574 := m_ (blk_drew BK574.out)
        replace HB := m_ (below_drew1 HB.out)
        have p577 : 0 ≤ (x3_2 : Int) := od_
        have q577 : x3_2 < (l0_3.length : Int) := od_
        obtain ⟨ad577, A577_0, c577_0, e577, hx577_0, hl577_0, hi577_0⟩ := at_L2 HR0_3.out x3_2 p577 q577
        have hw577_0 := hx577_0
        cases e577
        (try replace hx577_0 := (HB.out.cell (World.block_lt_of_cell? w _ hx577_0)).trans hx577_0)
        have HR577_0 := m_ hi577_0
        have HC577_0 := m_ hl577_0
        clear hi577_0 hl577_0
        replace p577 := eq_true p577
        replace q577 := eq_true q577
        refine start_ (n := 9) (S := fun w' => w'.cell? ⟨gb574, 0, none⟩ = some (.int .i64 a0_0) ∧ w'.cell? ⟨gb574, 1, none⟩ = some (.slice A0_1 l0_1.length c0_1) ∧ w'.cell? ⟨gb574, 2, none⟩ = some (.int .i64 a0_2) ∧ w'.cell? ⟨gb574, 3, none⟩ = some (.slice (some ad577) l0_3.length c0_3) ∧ w'.cell? (ad577.add (x3_2).toNat) = some (.slice A577_0 (rd_L2 l0_3 x3_2).length c577_0)) (ds := []) #[false, false, false, false, false, false, false, false, false] (by kernel_rfl) rfl rfl ⟨bc0_ BK574.out, bc1_ BK574.out, bc2_ BK574.out, bc3_ BK574.out, ((HB.out.cell (World.block_lt_of_cell? _ _ hw577_0)).trans hw577_0)⟩ (fun hHeld => ?_); refine with_tabW spec_l04Is.tab6 spec_l04Is.bits6 (fun HT_ HW_ => ?_)
        generalize wr.drew = w22 at BK574 HB HR577_0 hx577_0 hHeld ⊢
        refine pk_ 0 9 31 1 ?_
        refine pk_ 2 9 33 5 ?_
        refine pk_ 5 9 36 37 ?_
        refine tk_ 1 9 32 39 hHeld ?_
        refine pk_ 3 9 34 47 ?_
        refine tk_ 4 9 35 63 hHeld ?_
        refine tk_ 6 9 37 127 hHeld ?_
        refine on_ 7 9 (some 38) 255 (fun K hK => ?_)
        refine goes_ Try.func241 (by kernel_rfl) rfl #[.slice A577_0 (rd_L2 l0_3 x3_2).length c577_0, .int .i64 a0_2] (by rfl) rfl rfl arg_ ?_
        with_reducible refine (spec_l04Permutation.calls k2 _ _ (rd_L2 l0_3 x3_2) a0_2 true _ ?side1 ?side2 A19.out).mono ?_
        (case side1 => exact Kd.C_below (Kd.C_below HR577_0.out HB.out) bgo_)
        (case side2 => exact HC577_0.out)
        rintro e w23 ⟨rfl, hb⟩
        refine ⟨_, rfl, ?_⟩
        replace BK574 := m_ (bb_ BK574.out hb)
        replace HB := m_ (below_step hbs_ hb)
        refine hK.out _ _ ⟨bc0_ BK574.out, bc1_ BK574.out, bc2_ BK574.out, bc3_ BK574.out, ((HB.out.cell (World.block_lt_of_cell? _ _ hw577_0)).trans hw577_0)⟩ (fun hHeld => ?_)
        clear hK K
        refine nm_ ?_
        refine pk_ 8 9 39 511 ?_
        refine done_ (done_of HT_.out (by kernel_rfl)) ?_
        try go_wp2
        go_roundg k2
        case measure => have := HJ1.out; have := HK2.out; omega
        case rel => exact ⟨(wrap64 (x3_2 + 1)), es_, H', ⟨by have := HJ1.out; have := HK2.out; omega⟩, ⟨blk_below BK574.out bgo_⟩, ⟨hbs_⟩⟩
       ·replace c20 := Bool.eq_false_iff.mpr c20
        subst c20
        have H1 : (some false) = some r := by rw [if_neg (show ¬ (false = true) by decide)] at H; exact H
        clear H
        have H := H1
        clear H1
        obtain rfl := Option.some.inj H
        have hcz24_0 := bc0_ BK574.out
        have hcz24_1 := bc1_ BK574.out
        have hcz24_2 := bc2_ BK574.out
        have hcz24_3 := bc3_ BK574.out
        have hfz24_0 := blk_frozen BK574.out 0
        have hfz24_1 := blk_frozen BK574.out 1
        have hfz24_2 := blk_frozen BK574.out 2
        have hfz24_3 := blk_frozen BK574.out 3
        try go_wp2
        replace BK574 := m_ (blk_drew BK574.out)
        replace HB := m_ (below_drew1 HB.out)
        have p577 : 0 ≤ (x3_2 : Int) := od_
        have q577 : x3_2 < (l0_3.length : Int) := od_
        obtain ⟨ad577, A577_0, c577_0, e577, hx577_0, hl577_0, hi577_0⟩ := at_L2 HR0_3.out x3_2 p577 q577
        have hw577_0 := hx577_0
        cases e577
        (try replace hx577_0 := (HB.out.cell (World.block_lt_of_cell? w _ hx577_0)).trans hx577_0)
        have HR577_0 := m_ hi577_0
        have HC577_0 := m_ hl577_0
        clear hi577_0 hl577_0
        replace p577 := eq_true p577
        replace q577 := eq_true q577
        refine start_ (n := 9) (S := fun w' => w'.cell? ⟨gb574, 0, none⟩ = some (.int .i64 a0_0) ∧ w'.cell? ⟨gb574, 1, none⟩ = some (.slice A0_1 l0_1.length c0_1) ∧ w'.cell? ⟨gb574, 2, none⟩ = some (.int .i64 a0_2) ∧ w'.cell? ⟨gb574, 3, none⟩ = some (.slice (some ad577) l0_3.length c0_3) ∧ w'.cell? (ad577.add (x3_2).toNat) = some (.slice A577_0 (rd_L2 l0_3 x3_2).length c577_0)) (ds := []) #[false, false, false, false, false, false, false, false, false] (by kernel_rfl) rfl rfl ⟨bc0_ BK574.out, bc1_ BK574.out, bc2_ BK574.out, bc3_ BK574.out, ((HB.out.cell (World.block_lt_of_cell? _ _ hw577_0)).trans hw577_0)⟩ (fun hHeld => ?_); refine with_tabW spec_l04Is.tab6 spec_l04Is.bits6 (fun HT_ HW_ => ?_)
        generalize wr.drew = w25 at BK574 HB HR577_0 hx577_0 hHeld ⊢
        refine pk_ 0 9 31 1 ?_
        refine pk_ 2 9 33 5 ?_
        refine pk_ 5 9 36 37 ?_
        refine tk_ 1 9 32 39 hHeld ?_
        refine pk_ 3 9 34 47 ?_
        refine tk_ 4 9 35 63 hHeld ?_
        refine tk_ 6 9 37 127 hHeld ?_
        refine on_ 7 9 (some 38) 255 (fun K hK => ?_)
        refine goes_ Try.func241 (by kernel_rfl) rfl #[.slice A577_0 (rd_L2 l0_3 x3_2).length c577_0, .int .i64 a0_2] (by rfl) rfl rfl arg_ ?_
        with_reducible refine (spec_l04Permutation.calls k2 _ _ (rd_L2 l0_3 x3_2) a0_2 false _ ?side1 ?side2 A19.out).mono ?_
        (case side1 => exact Kd.C_below (Kd.C_below HR577_0.out HB.out) bgo_)
        (case side2 => exact HC577_0.out)
        rintro e w26 ⟨rfl, hb⟩
        refine ⟨_, rfl, ?_⟩
        replace BK574 := m_ (bb_ BK574.out hb)
        replace HB := m_ (below_step hbs_ hb)
        refine hK.out _ _ ⟨bc0_ BK574.out, bc1_ BK574.out, bc2_ BK574.out, bc3_ BK574.out, ((HB.out.cell (World.block_lt_of_cell? _ _ hw577_0)).trans hw577_0)⟩ (fun hHeld => ?_)
        clear hK K
        refine nm_ ?_
        refine pk_ 8 9 39 511 ?_
        refine done_ (done_of HT_.out (by kernel_rfl)) ?_
        try go_wp2
        go_ret
        exact ⟨er_, hbs_⟩
      ·rw [if_neg c17] at H
       have c17b0 := decide_eq_false c17
       clear c17
       obtain rfl := Option.some.inj H
       have hcz27_0 := bc0_ BK574.out
       have hcz27_1 := bc1_ BK574.out
       have hcz27_2 := bc2_ BK574.out
       have hcz27_3 := bc3_ BK574.out
       have hfz27_0 := blk_frozen BK574.out 0
       have hfz27_1 := blk_frozen BK574.out 1
       have hfz27_2 := blk_frozen BK574.out 2
       have hfz27_3 := blk_frozen BK574.out 3
       go_wp2
       go_ret
       exact ⟨er_, hbs_⟩

/-! ### spec_l04Walk: function 110 -/
mutual
def spec_l04Walk.j0 : Nat → List Int → Bool → Int → List (List Int) → Int → List (List Int) → Option (List Int × Int)
 | 0, _, _, _, _, _, _ => none
 | k + 1, x1, x16, x580000, x580001, x580002, x580003 => if x16 = true then (some (([] : List Int), 2)) else ((spec_l02Closed.f k x580000 x580001 x1).bind fun t582 => (if t582 = true then (spec_l04Walk.l0 k x1 (([] : List Int)) 0 x580000 x580001 x580002 x580003) else (some (([] : List Int), 5))))
def spec_l04Walk.l0 : Nat → List Int → List Int → Int → Int → List (List Int) → Int → List (List Int) → Option (List Int × Int)
 | 0, _, _, _, _, _, _, _ => none
 | k + 1, x1, x6, x7, x580000, x580001, x580002, x580003 => if x7 < x580002 then (spec_l04Walk.l1 k x1 x6 x7 x7 0 x580000 x580001 x580002 x580003) else (some (x6, 0))
def spec_l04Walk.l1 : Nat → List Int → List Int → Int → Int → Int → Int → List (List Int) → Int → List (List Int) → Option (List Int × Int)
 | 0, _, _, _, _, _, _, _, _, _ => none
 | k + 1, x1, x6, x7, x8, x9, x580000, x580001, x580002, x580003 => if x9 < (x1.length : Int) then (if 0 ≤ x9 then (if 0 ≤ (wrap64 (Int.tdiv (rd x1 x9) 2)) then (if (wrap64 (Int.tdiv (rd x1 x9) 2)) < (x580003.length : Int) then (if (Int.tmod (rd x1 x9) 2) = 0 then (if 0 ≤ x8 then (if x8 < ((rd_L2 x580003 (wrap64 (Int.tdiv (rd x1 x9) 2))).length : Int) then (spec_l04Walk.l1 k x1 x6 x7 (rd (rd_L2 x580003 (wrap64 (Int.tdiv (rd x1 x9) 2))) x8) (wrap64 (x9 + 1)) x580000 x580001 x580002 x580003) else (none)) else (none)) else (spec_l04Walk.l2 k x1 x6 x7 x8 x9 (rd_L2 x580003 (wrap64 (Int.tdiv (rd x1 x9) 2))) 0 x580000 x580001 x580002 x580003)) else (none)) else (none)) else (none)) else (if x6.length < 17592186044416 then (spec_l04Walk.l0 k x1 (x6 ++ [x8]) (wrap64 (x7 + 1)) x580000 x580001 x580002 x580003) else (none))
def spec_l04Walk.l2 : Nat → List Int → List Int → Int → Int → Int → List Int → Int → Int → List (List Int) → Int → List (List Int) → Option (List Int × Int)
 | 0, _, _, _, _, _, _, _, _, _, _, _ => none
 | k + 1, x1, x6, x7, x8, x9, x10, x11, x580000, x580001, x580002, x580003 => if 0 ≤ x11 then (if x11 < (x10.length : Int) then (if (rd x10 x11) = x8 then (spec_l04Walk.l1 k x1 x6 x7 x11 (wrap64 (x9 + 1)) x580000 x580001 x580002 x580003) else (spec_l04Walk.l2 k x1 x6 x7 x8 x9 x10 (wrap64 (x11 + 1)) x580000 x580001 x580002 x580003)) else (none)) else (none)
end
def spec_l04Walk.f (k : Nat) (a0_0 : Int) (l0_1 : List (List Int)) (a0_2 : Int) (l0_3 : List (List Int)) (l1 : List Int) : Option (List Int × Int) := (spec_l04Is.f k a0_0 l0_1 a0_2 l0_3).bind fun t580 => (if t580 = true then (if (l1.length : Int) = 0 then (spec_l04Walk.j0 k l1 true a0_0 l0_1 a0_2 l0_3) else ((spec_l02Directed.f k a0_0 l0_1 l1).bind fun t581 => (spec_l04Walk.j0 k l1 (!t581) a0_0 l0_1 a0_2 l0_3))) else (some (([] : List Int), 1)))
set_option maxHeartbeats 8000000 in
set_option maxRecDepth 100000 in
theorem spec_l04Walk.calls (k : Nat) (a0_0 : Int) (A0_1 : Option Addr) (c0_1 : Nat) (l0_1 : List (List Int)) (a0_2 : Int) (A0_3 : Option Addr) (c0_3 : Nat) (l0_3 : List (List Int)) (A1 : Option Addr) (c1 : Nat) (l1 : List Int) (r1 : List Int) (r2 : Int) (w : World) (hr0_1 : Kd.C (Kd.slice 2 (Kd.int .i64)) w A0_1 l0_1.length l0_1) (hc0_1 : l0_1.length ≤ c0_1) (hr0_3 : Kd.C (Kd.slice 2 (Kd.int .i64)) w A0_3 l0_3.length l0_3) (hc0_3 : l0_3.length ≤ c0_3) (hr1 : Kd.C (Kd.int .i64) w A1 l1.length l1) (hc1 : l1.length ≤ c1) (h : spec_l04Walk.f k a0_0 l0_1 a0_2 l0_3 l1 = some (r1, r2)) :
  Calls Try.prog 110 #[.agg #[.int .i64 a0_0, .slice A0_1 l0_1.length c0_1, .int .i64 a0_2, .slice A0_3 l0_3.length c0_3], .slice A1 l1.length c1] w fun e w' => ∃ v0_ : Value, e = .returned (.tuple #[v0_, .int .i64 r2]) ∧ Kd.R (Kd.int .i64) 2 w' w.heap.size (fun _ => True) v0_ r1 ∧ Below w.heap.size w w' := by
 have hu28 := Try.underlying28
 have hu26 := Try.underlying26
 have HR0_1 := m_ hr0_1
 have HC0_1 := m_ hc0_1
 clear hr0_1 hc0_1
 have HR0_3 := m_ hr0_3
 have HC0_3 := m_ hc0_3
 clear hr0_3 hc0_3
 have HR1 := m_ hr1
 have HC1 := m_ hc1
 clear hr1 hc1
 have HB := m_ (Below.refl w.heap.size w)
 have H : ((spec_l04Is.f k a0_0 l0_1 a0_2 l0_3).bind fun t580 => (if t580 = true then (if (l1.length : Int) = 0 then (spec_l04Walk.j0 k l1 true a0_0 l0_1 a0_2 l0_3) else ((spec_l02Directed.f k a0_0 l0_1 l1).bind fun t581 => (spec_l04Walk.j0 k l1 (!t581) a0_0 l0_1 a0_2 l0_3))) else (some (([] : List Int), 1)))) = some (r1, r2) := h
 clear h
 obtain ⟨t580, A3, H⟩ := bnd_ H
 by_cases c4 : t580 = true
 ·subst c4
  have H1 : (if (l1.length : Int) = 0 then (spec_l04Walk.j0 k l1 true a0_0 l0_1 a0_2 l0_3) else ((spec_l02Directed.f k a0_0 l0_1 l1).bind fun t581 => (spec_l04Walk.j0 k l1 (!t581) a0_0 l0_1 a0_2 l0_3))) = some (r1, r2) := by rw [if_pos rfl] at H; exact H
  clear H
  have H := H1
  clear H1
  have HC5 := m_ H
  clear H
  go_enter Try.func110, Try.ntmps110
  go_upto_region 3 with (first | ((with_reducible refine gate_dst (N := 2) rfl ?_); refine bx_ (N := 2) (cs := #[.int .i64 a0_0, .slice A0_1 l0_1.length c0_1, .int .i64 a0_2, .slice A0_3 l0_3.length c0_3]) (t := 28) ?_; intro gb579 hg w6 hbox hb; have BK579 := m_ (hbox); have GW579 := m_ ((by rw [hg]; exact (below_size hb_) : w.heap.size ≤ gb579)); have GE579 := m_ ((by rw [hg]; exact (below_size hb_) : w.heap.size ≤ gb579)); replace HB := m_ (below_step hb_ hb); clear hb hbox hg; have hcz7_0 := bc0_ BK579.out; have hcz7_1 := bc1_ BK579.out; have hcz7_2 := bc2_ BK579.out; have hcz7_3 := bc3_ BK579.out; have hfz7_0 := blk_frozen BK579.out 0; have hfz7_1 := blk_frozen BK579.out 1; have hfz7_2 := blk_frozen BK579.out 2; have hfz7_3 := blk_frozen BK579.out 3) | (go_at_call 209; (with_reducible refine (spec_l04Is.calls k a0_0 _ _ l0_1 a0_2 _ _ l0_3 true _ ?side1 ?side2 ?side3 ?side4 A3.out).mono ?_); (case side1 => exact Kd.C_below (Kd.C_below HR0_1.out HB.out) bgo_); (case side2 => exact HC0_1.out); (case side3 => exact Kd.C_below (Kd.C_below HR0_3.out HB.out) bgo_); (case side4 => exact HC0_3.out); rintro e w8 ⟨rfl, hb⟩; replace BK579 := m_ (bb_ BK579.out hb); replace HB := m_ (below_step hbs_ hb); clear hb))
  (try simp only [Act.put, List.setIfInBounds_toArray, List.set_cons_zero, List.set_cons_succ])
  go_cut [16] (fun v16 wc => ∃ (kq : Nat) (x16_4 : Bool), v16 = .bool x16_4 ∧ Aside0 (spec_l04Walk.j0 kq l1 x16_4 a0_0 l0_1 a0_2 l0_3 = some (r1, r2)) ∧ Aside0 (kq ≤ k) ∧ Aside0 (wc.heap[gb579]? = some (.cells #[.int .i64 a0_0, (.slice A0_1 l0_1.length c0_1), .int .i64 a0_2, (.slice A0_3 l0_3.length c0_3)] 28 (0, 0))) ∧ Aside0 (Below w.heap.size w wc))
  case first =>
   have H := HC5.out
   clear HC5
   by_cases c9 : (l1.length : Int) = 0
   ·rw [if_pos c9] at H
    have c9b0 : ((l1.length : Int) == 0) = true := beq_iff_eq.mpr c9
    have c9b1 : ((l1.length : Int) != 0) = false := bne_eq_false_iff_eq.mpr c9
    clear c9
    (first | rw [c9b0] | (simp only [i64_w, i32_w]; rw [c9b0]) | skip)
    have H' := m_ H
    clear H
    go_wp2
    go_meet
    case rel => exact ⟨_, (true), es_, H', ⟨by first | omega | exact Nat.le_refl _⟩, ⟨blk_below BK579.out bgo_⟩, ⟨hbs_⟩⟩
   ·rw [if_neg c9] at H
    have c9b0 : ((l1.length : Int) == 0) = false := beq_eq_false_iff_ne.mpr c9
    have c9b1 : ((l1.length : Int) != 0) = true := bne_iff_ne.mpr c9
    have c9b2 : ¬ (l1 = []) := fun h_ => c9 (by rw [h_]; rfl)
    (first | rw [c9b0] | (simp only [i64_w, i32_w]; rw [c9b0]) | skip)
    obtain ⟨t581, A10, H⟩ := bnd_ H
    have H' := m_ H
    clear H
    have hcz11_0 := bc0_ BK579.out
    have hcz11_1 := bc1_ BK579.out
    have hcz11_2 := bc2_ BK579.out
    have hcz11_3 := bc3_ BK579.out
    have hfz11_0 := blk_frozen BK579.out 0
    have hfz11_1 := blk_frozen BK579.out 1
    have hfz11_2 := blk_frozen BK579.out 2
    have hfz11_3 := blk_frozen BK579.out 3
    go_wp2_with (first | (go_at_call 191; (with_reducible refine (spec_l02Directed.calls k a0_0 _ _ l0_1 _ _ l1 t581 _ ?side1 ?side2 ?side3 ?side4 A10.out).mono ?_); (case side1 => exact Kd.C_below (Kd.C_below HR0_1.out HB.out) bgo_); (case side2 => exact HC0_1.out); (case side3 => exact Kd.C_below (Kd.C_below HR1.out HB.out) bgo_); (case side4 => exact HC1.out); rintro e w12 ⟨rfl, hb⟩; replace BK579 := m_ (bb_ BK579.out hb); replace HB := m_ (below_step hbs_ hb); clear hb))
    go_meet
    case rel => exact ⟨_, (!t581), es_, H', ⟨by first | omega | exact Nat.le_refl _⟩, ⟨blk_below BK579.out bgo_⟩, ⟨hbs_⟩⟩
  case rest =>
   clear HC5
   obtain ⟨kq, x16_4, rfl, HA, HJ4, BK579, HB⟩ := hcut
   cases kq with
   | zero => exact absurd HA.out (by simp [spec_l04Walk.j0])
   | succ kj4 =>
    have H := HA.out
    clear HA
    simp only [spec_l04Walk.j0] at H
    by_cases c13 : x16_4 = true
    ·subst c13
     have H1 : (some (([] : List Int), 2)) = some (r1, r2) := by rw [if_pos rfl] at H; exact H
     clear H
     have H := H1
     clear H1
     simp only [Option.some.injEq, Prod.mk.injEq] at H
     obtain ⟨rfl, rfl⟩ := H
     go_wp2
     go_ret2
     exact ⟨_, er_, by first | exact Kd.R_nil _ _ _ _ _ | exact Kd.N_nil _ _ _ _ _ | exact Kd.V_nil _ _ _ _ _ | exact Kd.Q_nil _ _ _ _ _ | exact Kd.S_nil _ _ _ _ _, hbs_⟩
    ·replace c13 := Bool.eq_false_iff.mpr c13
     subst c13
     have H1 : ((spec_l02Closed.f kj4 a0_0 l0_1 l1).bind fun t582 => (if t582 = true then (spec_l04Walk.l0 kj4 l1 (([] : List Int)) 0 a0_0 l0_1 a0_2 l0_3) else (some (([] : List Int), 5)))) = some (r1, r2) := by rw [if_neg (show ¬ (false = true) by decide)] at H; exact H
     clear H
     have H := H1
     clear H1
     obtain ⟨t582, A14, H⟩ := bnd_ H
     by_cases c15 : t582 = true
     ·subst c15
      have H1 : (spec_l04Walk.l0 kj4 l1 (([] : List Int)) 0 a0_0 l0_1 a0_2 l0_3) = some (r1, r2) := by rw [if_pos rfl] at H; exact H
      clear H
      have H := H1
      clear H1
      obtain ⟨y583, Ny583, H⟩ : ∃ y583 : List Int, Aside0 (y583 = (([] : List Int))) ∧ (spec_l04Walk.l0 kj4 l1 y583 0 a0_0 l0_1 a0_2 l0_3) = some (r1, r2) := ⟨_, ⟨rfl⟩, H⟩
      have H' := m_ H
      clear H
      have hcz16_0 := bc0_ BK579.out
      have hcz16_1 := bc1_ BK579.out
      have hcz16_2 := bc2_ BK579.out
      have hcz16_3 := bc3_ BK579.out
      have hfz16_0 := blk_frozen BK579.out 0
      have hfz16_1 := blk_frozen BK579.out 1
      have hfz16_2 := blk_frozen BK579.out 2
      have hfz16_3 := blk_frozen BK579.out 3
      go_wp2_with (first | (go_at_call 192; (with_reducible refine (spec_l02Closed.calls kj4 a0_0 _ _ l0_1 _ _ l1 true _ ?side1 ?side2 ?side3 ?side4 A14.out).mono ?_); (case side1 => exact Kd.C_below (Kd.C_below HR0_1.out HB.out) bgo_); (case side2 => exact HC0_1.out); (case side3 => exact Kd.C_below (Kd.C_below HR1.out HB.out) bgo_); (case side4 => exact HC1.out); rintro e w17 ⟨rfl, hb⟩; replace BK579 := m_ (bb_ BK579.out hb); replace HB := m_ (below_step hbs_ hb); clear hb) | ((with_reducible refine gate_dst (N := 33) rfl ?_); refine Kd.R_lit (Kd.int .i64) _ 2 ?hg (N := 33) ?hd (xs := ([] : List Int)) (inner := []) (ok := fun _ => True) (okp := fun _ => True) ?hr ?hp (fun _ hk => hk) trivial (Below.refl _ _) (Nat.le_refl _) (by simp) ?_; (case hd => rfl); (case hg => rfl); (case hr => first | (go_simp; done) | (go_simp; rfl)); (case hp => exact (Reps.none _ _)); intro v584 w18 ho19 hb hg_ hnew_; clear hg_ hnew_; rw [← Ny583.out] at ho19; have HO585 := m_ (Kd.R_lower ho19 (below_size hbs_)); replace BK579 := m_ (bb_ BK579.out hb); replace HB := m_ (below_step hbs_ hb); clear hb ho19))
      go_loopg [6, 7] kj4 (fun kq v6 v7 w' => ∃ (x6_2 : List Int) (x7_2 : Int), v7 = .int .i64 x7_2 ∧ Aside0 (spec_l04Walk.l0 kq l1 x6_2 x7_2 a0_0 l0_1 a0_2 l0_3 = some (r1, r2)) ∧ Aside0 (kq ≤ kj4) ∧ Aside0 (Kd.R (Kd.int .i64) 2 w' w.heap.size (fun _ => True) v6 x6_2) ∧ Aside0 (w'.heap[gb579]? = some (.cells #[.int .i64 a0_0, (.slice A0_1 l0_1.length c0_1), .int .i64 a0_2, (.slice A0_3 l0_3.length c0_3)] 28 (0, 0))) ∧ Aside0 (Below w.heap.size w w'))
      case atStart => exact ⟨(y583), (0), es_, H', ⟨Nat.le_refl _⟩, ⟨Kd.R_below HO585.out bgo_⟩, ⟨blk_below BK579.out bgo_⟩, ⟨hbs_⟩⟩
      case round =>
       clear H'
       obtain ⟨x6_2, x7_2, rfl, HA, HK2, HO_6, BK579, HB⟩ := hrel
       cases gk with
       | zero => exact absurd HA.out (by simp [spec_l04Walk.l0])
       | succ k2 =>
        have H := HA.out
        clear HA
        simp only [spec_l04Walk.l0] at H
        by_cases c20 : x7_2 < a0_2
        ·rw [if_pos c20] at H
         have c20b0 := decide_eq_true c20
         clear c20
         have H' := m_ H
         clear H
         have hcz21_0 := bc0_ BK579.out
         have hcz21_1 := bc1_ BK579.out
         have hcz21_2 := bc2_ BK579.out
         have hcz21_3 := bc3_ BK579.out
         have hfz21_0 := blk_frozen BK579.out 0
         have hfz21_1 := blk_frozen BK579.out 1
         have hfz21_2 := blk_frozen BK579.out 2
         have hfz21_3 := blk_frozen BK579.out 3
         go_wp2
         go_loopg [8, 9] k2 (fun kq v8 v9 w' => ∃ (x8_3 : Int) (x9_3 : Int), v8 = .int .i64 x8_3 ∧ v9 = .int .i64 x9_3 ∧ Aside0 (spec_l04Walk.l1 kq l1 x6_2 x7_2 x8_3 x9_3 a0_0 l0_1 a0_2 l0_3 = some (r1, r2)) ∧ Aside0 (kq ≤ k2) ∧ Aside0 (Kd.R (Kd.int .i64) 2 w' w.heap.size (fun _ => True) u6 x6_2) ∧ Aside0 (w'.heap[gb579]? = some (.cells #[.int .i64 a0_0, (.slice A0_1 l0_1.length c0_1), .int .i64 a0_2, (.slice A0_3 l0_3.length c0_3)] 28 (0, 0))) ∧ Aside0 (Below w.heap.size w w'))
         case atStart => exact ⟨(x7_2), (0), es_, es_, H', ⟨Nat.le_refl _⟩, ⟨Kd.R_below HO_6.out bgo_⟩, ⟨blk_below BK579.out bgo_⟩, ⟨hbs_⟩⟩
         case round =>
          clear H'
          obtain ⟨x8_3, x9_3, rfl, rfl, HA, HK3, HO_6, BK579, HB⟩ := hrel
          cases gk with
          | zero => exact absurd HA.out (by simp [spec_l04Walk.l1])
          | succ k3 =>
           have H := HA.out
           clear HA
           simp only [spec_l04Walk.l1] at H
           by_cases c22 : x9_3 < (l1.length : Int)
           ·rw [if_pos c22] at H
            have c22b0 := decide_eq_true c22
            clear c22
            obtain ⟨c23, H⟩ := itn_ H
            have c23b0 := decide_eq_true c23
            clear c23
            obtain ⟨ji24, hji24⟩ : ∃ j_ : Int, (wrap64 (Int.tdiv (rd l1 x9_3) 2)) = j_ := ⟨_, rfl⟩
            (try rw [hji24])
            replace H : (if 0 ≤ (ji24) then (if (ji24) < (l0_3.length : Int) then (if (Int.tmod (rd l1 x9_3) 2) = 0 then (if 0 ≤ x8_3 then (if x8_3 < ((rd_L2 l0_3 (ji24)).length : Int) then (spec_l04Walk.l1 k3 l1 x6_2 x7_2 (rd (rd_L2 l0_3 (ji24)) x8_3) (wrap64 (x9_3 + 1)) a0_0 l0_1 a0_2 l0_3) else (none)) else (none)) else (spec_l04Walk.l2 k3 l1 x6_2 x7_2 x8_3 x9_3 (rd_L2 l0_3 (ji24)) 0 a0_0 l0_1 a0_2 l0_3)) else (none)) else (none)) = some (r1, r2) := by first | (rw [hji24] at H; exact H) | (simp only [hji24] at H ⊢; exact H)
            have hji24w : (IntKind.i64.wrap (Int.tdiv (rd l1 x9_3) 2)) = ji24 := (i64_w _).trans hji24
            obtain ⟨c25, H⟩ := itn_ H
            have c25b0 := decide_eq_true c25
            clear c25
            obtain ⟨c26, H⟩ := itn_ H
            have c26b0 := decide_eq_true c26
            clear c26
            by_cases c27 : (Int.tmod (rd l1 x9_3) 2) = 0
            ·rw [if_pos c27] at H
             have c27b0 : ((Int.tmod (rd l1 x9_3) 2) == 0) = true := beq_iff_eq.mpr c27
             have c27b1 : ((Int.tmod (rd l1 x9_3) 2) != 0) = false := bne_eq_false_iff_eq.mpr c27
             clear c27
             obtain ⟨c28, H⟩ := itn_ H
             have c28b0 := decide_eq_true c28
             clear c28
             obtain ⟨c29, H⟩ := itn_ H
             have c29b0 := decide_eq_true c29
             clear c29
             have H' := m_ H
             clear H
             have hcz30_0 := bc0_ BK579.out
             have hcz30_1 := bc1_ BK579.out
             have hcz30_2 := bc2_ BK579.out
             have hcz30_3 := bc3_ BK579.out
             have hfz30_0 := blk_frozen BK579.out 0
             have hfz30_1 := blk_frozen BK579.out 1
             have hfz30_2 := blk_frozen BK579.out 2
             have hfz30_3 := blk_frozen BK579.out 3
             have p589 : 0 ≤ (x9_3 : Int) := od_
             have q589 : x9_3 < (l1.length : Int) := od_
             obtain ⟨ad589, e589, hx589_0⟩ := Kd.at_int HR1.out x9_3 p589 q589
             cases e589
             (try replace hx589_0 := (HB.out.cell (World.block_lt_of_cell? w _ hx589_0)).trans hx589_0)
             replace p589 := eq_true p589
             replace q589 := eq_true q589
             have p590 : 0 ≤ ((ji24) : Int) := od_
             have q590 : (ji24) < (l0_3.length : Int) := od_
             obtain ⟨ad590, A590_0, c590_0, e590, hx590_0, hl590_0, hi590_0⟩ := at_L2 HR0_3.out (ji24) p590 q590
             cases e590
             (try replace hx590_0 := (HB.out.cell (World.block_lt_of_cell? w _ hx590_0)).trans hx590_0)
             have HR590_0 := m_ hi590_0
             have HC590_0 := m_ hl590_0
             clear hi590_0 hl590_0
             replace p590 := eq_true p590
             replace q590 := eq_true q590
             have p591 : 0 ≤ (x9_3 : Int) := od_
             have q591 : x9_3 < (l1.length : Int) := od_
             obtain ⟨ad591, e591, hx591_0⟩ := Kd.at_int HR1.out x9_3 p591 q591
             obtain rfl : ad589 = ad591 := (by injection e591)
             (try replace hx591_0 := (HB.out.cell (World.block_lt_of_cell? w _ hx591_0)).trans hx591_0)
             replace p591 := eq_true p591
             replace q591 := eq_true q591
             have p592 : 0 ≤ (x8_3 : Int) := od_
             have q592 : x8_3 < ((rd_L2 l0_3 (ji24)).length : Int) := od_
             obtain ⟨ad592, e592, hx592_0⟩ := Kd.at_int HR590_0.out x8_3 p592 q592
             cases e592
             (try replace hx592_0 := (HB.out.cell (World.block_lt_of_cell? w _ hx592_0)).trans hx592_0)
             replace p592 := eq_true p592
             replace q592 := eq_true q592
             go_wp2
             repeat (go_quiet (fail); try go_wp2)
             first | go_roundg k3 | ((try subst hji24); go_roundg k3)
             case measure => have := HJ4.out; have := HK2.out; have := HK3.out; omega
             case rel => exact ⟨(rd (rd_L2 l0_3 (ji24)) x8_3), (wrap64 (x9_3 + 1)), (by first | rfl | (simp; done) | (simp only [← hji24] <;> (first | rfl | simp)) | (simp [*]; done)), es_, H', ⟨by have := HJ4.out; have := HK2.out; have := HK3.out; omega⟩, ⟨Kd.R_below HO_6.out bgo_⟩, ⟨blk_below BK579.out bgo_⟩, ⟨hbs_⟩⟩
            ·rw [if_neg c27] at H
             have c27b0 : ((Int.tmod (rd l1 x9_3) 2) == 0) = false := beq_eq_false_iff_ne.mpr c27
             have c27b1 : ((Int.tmod (rd l1 x9_3) 2) != 0) = true := bne_iff_ne.mpr c27
             have H' := m_ H
             clear H
             have hcz31_0 := bc0_ BK579.out
             have hcz31_1 := bc1_ BK579.out
             have hcz31_2 := bc2_ BK579.out
             have hcz31_3 := bc3_ BK579.out
             have hfz31_0 := blk_frozen BK579.out 0
             have hfz31_1 := blk_frozen BK579.out 1
             have hfz31_2 := blk_frozen BK579.out 2
             have hfz31_3 := blk_frozen BK579.out 3
             have p589 : 0 ≤ (x9_3 : Int) := od_
             have q589 : x9_3 < (l1.length : Int) := od_
             obtain ⟨ad589, e589, hx589_0⟩ := Kd.at_int HR1.out x9_3 p589 q589
             cases e589
             (try replace hx589_0 := (HB.out.cell (World.block_lt_of_cell? w _ hx589_0)).trans hx589_0)
             replace p589 := eq_true p589
             replace q589 := eq_true q589
             have p590 : 0 ≤ ((ji24) : Int) := od_
             have q590 : (ji24) < (l0_3.length : Int) := od_
             obtain ⟨ad590, A590_0, c590_0, e590, hx590_0, hl590_0, hi590_0⟩ := at_L2 HR0_3.out (ji24) p590 q590
             cases e590
             (try replace hx590_0 := (HB.out.cell (World.block_lt_of_cell? w _ hx590_0)).trans hx590_0)
             have HR590_0 := m_ hi590_0
             have HC590_0 := m_ hl590_0
             clear hi590_0 hl590_0
             replace p590 := eq_true p590
             replace q590 := eq_true q590
             have p591 : 0 ≤ (x9_3 : Int) := od_
             have q591 : x9_3 < (l1.length : Int) := od_
             obtain ⟨ad591, e591, hx591_0⟩ := Kd.at_int HR1.out x9_3 p591 q591
             obtain rfl : ad589 = ad591 := (by injection e591)
             (try replace hx591_0 := (HB.out.cell (World.block_lt_of_cell? w _ hx591_0)).trans hx591_0)
             replace p591 := eq_true p591
             replace q591 := eq_true q591
             go_wp2
             repeat (go_quiet (fail); try go_wp2)
             go_loopg [11] k3 (fun kq v11 w' => ∃ (x11_4 : Int), v11 = .int .i64 x11_4 ∧ Aside0 (spec_l04Walk.l2 kq l1 x6_2 x7_2 x8_3 x9_3 (rd_L2 l0_3 (ji24)) x11_4 a0_0 l0_1 a0_2 l0_3 = some (r1, r2)) ∧ Aside0 (kq ≤ k3) ∧ Aside0 (Kd.R (Kd.int .i64) 2 w' w.heap.size (fun _ => True) u6 x6_2) ∧ Aside0 (w'.heap[gb579]? = some (.cells #[.int .i64 a0_0, (.slice A0_1 l0_1.length c0_1), .int .i64 a0_2, (.slice (some ad590) l0_3.length c0_3)] 28 (0, 0))) ∧ Aside0 (Below w.heap.size w w'))
             case atStart => exact ⟨(0), es_, H', ⟨Nat.le_refl _⟩, ⟨Kd.R_below HO_6.out bgo_⟩, ⟨blk_below BK579.out bgo_⟩, ⟨hbs_⟩⟩
             case round =>
              clear H'
              obtain ⟨x11_4, rfl, HA, HK4, HO_6, BK579, HB⟩ := hrel
              cases gk with
              | zero => exact absurd HA.out (by simp [spec_l04Walk.l2])
              | succ k4 =>
               have H := HA.out
               clear HA
               simp only [spec_l04Walk.l2] at H
               obtain ⟨c32, H⟩ := itn_ H
               have c32b0 := decide_eq_true c32
               clear c32
               obtain ⟨c33, H⟩ := itn_ H
               have c33b0 := decide_eq_true c33
               clear c33
               by_cases c34 : (rd (rd_L2 l0_3 (ji24)) x11_4) = x8_3
               ·rw [if_pos c34] at H
                have c34b0 : ((rd (rd_L2 l0_3 (ji24)) x11_4) == x8_3) = true := beq_iff_eq.mpr c34
                have c34b1 : ((rd (rd_L2 l0_3 (ji24)) x11_4) != x8_3) = false := bne_eq_false_iff_eq.mpr c34
                clear c34
                have H' := m_ H
                clear H
                have p593 : 0 ≤ (x11_4 : Int) := od_
                have q593 : x11_4 < ((rd_L2 l0_3 (ji24)).length : Int) := od_
                obtain ⟨ad593, e593, hx593_0⟩ := Kd.at_int HR590_0.out x11_4 p593 q593
                cases e593
                (try replace hx593_0 := (HB.out.cell (World.block_lt_of_cell? w _ hx593_0)).trans hx593_0)
                replace p593 := eq_true p593
                replace q593 := eq_true q593
                go_wp2
                first | go_roundg k4 | ((try subst hji24); go_roundg k4)
                case measure => have := HJ4.out; have := HK2.out; have := HK3.out; have := HK4.out; omega
                case rel => exact ⟨(x11_4), (wrap64 (x9_3 + 1)), es_, es_, H', ⟨by have := HJ4.out; have := HK2.out; have := HK3.out; have := HK4.out; omega⟩, ⟨Kd.R_below HO_6.out bgo_⟩, ⟨blk_below BK579.out bgo_⟩, ⟨hbs_⟩⟩
               ·rw [if_neg c34] at H
                have c34b0 : ((rd (rd_L2 l0_3 (ji24)) x11_4) == x8_3) = false := beq_eq_false_iff_ne.mpr c34
                have c34b1 : ((rd (rd_L2 l0_3 (ji24)) x11_4) != x8_3) = true := bne_iff_ne.mpr c34
                have H' := m_ H
                clear H
                have p593 : 0 ≤ (x11_4 : Int) := od_
                have q593 : x11_4 < ((rd_L2 l0_3 (ji24)).length : Int) := od_
                obtain ⟨ad593, e593, hx593_0⟩ := Kd.at_int HR590_0.out x11_4 p593 q593
                cases e593
                (try replace hx593_0 := (HB.out.cell (World.block_lt_of_cell? w _ hx593_0)).trans hx593_0)
                replace p593 := eq_true p593
                replace q593 := eq_true q593
                go_wp2
                first | go_roundg k4 | ((try subst hji24); go_roundg k4)
                case measure => have := HJ4.out; have := HK2.out; have := HK3.out; have := HK4.out; omega
                case rel => exact ⟨(wrap64 (x11_4 + 1)), es_, H', ⟨by have := HJ4.out; have := HK2.out; have := HK3.out; have := HK4.out; omega⟩, ⟨Kd.R_below HO_6.out bgo_⟩, ⟨blk_below BK579.out bgo_⟩, ⟨hbs_⟩⟩
           ·rw [if_neg c22] at H
            have c22b0 := decide_eq_false c22
            clear c22
            obtain ⟨c35, H⟩ := itn_ H
            have LMc35 := m_ c35
            clear c35
            obtain ⟨y586, Ny586, H⟩ : ∃ y586 : List Int, Aside0 (y586 = (x6_2 ++ [x8_3])) ∧ (spec_l04Walk.l0 k3 l1 y586 (wrap64 (x7_2 + 1)) a0_0 l0_1 a0_2 l0_3) = some (r1, r2) := ⟨_, ⟨rfl⟩, H⟩
            have H' := m_ H
            clear H
            go_wp2_with (first | ((with_reducible refine gate_builtin (b := .append) (xs := #[.tmp 75, .tmp 77]) rfl ?_); at_builtin; refine Kd.R_append (Kd.int .i64) (w0 := w) w.heap.size rfl (.tmp 75) (.tmp 77) 29 2 (.int .i64 0) 8 rfl Try.underlying29 info2 rfl (by decide) (by omega) u6 x6_2 x8_3 [.int .i64 x8_3] (fun _ => True) (fun _ => False) rfl rfl ?aP (fun _ hk => hk.elim) ?aF ?aO ?aB ?aS ?aL ?_; (case aP => exact rfl); (case aB => exact hbs_); (case aF => exact (fun _ _ => trivial)); (case aO => exact (Kd.R_below HO_6.out bgo_)); (case aS => exact (below_size hbs_)); (case aL => have := LMc35.out; omega); intro v587 w36 ho hb hg hat; rw [← Ny586.out] at ho; replace BK579 := m_ (blk_grown (blk_below BK579.out bgo_) hg (Kd.R_ne HO_6.out BK579.out (by decide))); replace HB := m_ (hb); have HO588 := m_ (ho); clear HO_6; clear ho hb hg hat))
            go_roundg k3
            case measure => have := HJ4.out; have := HK2.out; have := HK3.out; omega
            case rel => exact ⟨(y586), (wrap64 (x7_2 + 1)), es_, H', ⟨by have := HJ4.out; have := HK2.out; have := HK3.out; omega⟩, ⟨Kd.R_below HO588.out bgo_⟩, ⟨blk_below BK579.out bgo_⟩, ⟨hbs_⟩⟩
        ·rw [if_neg c20] at H
         have c20b0 := decide_eq_false c20
         clear c20
         simp only [Option.some.injEq, Prod.mk.injEq] at H
         obtain ⟨rfl, rfl⟩ := H
         have hcz37_0 := bc0_ BK579.out
         have hcz37_1 := bc1_ BK579.out
         have hcz37_2 := bc2_ BK579.out
         have hcz37_3 := bc3_ BK579.out
         have hfz37_0 := blk_frozen BK579.out 0
         have hfz37_1 := blk_frozen BK579.out 1
         have hfz37_2 := blk_frozen BK579.out 2
         have hfz37_3 := blk_frozen BK579.out 3
         go_wp2
         go_ret2
         exact ⟨_, er_, (Kd.R_below HO_6.out bgo_), hbs_⟩
     ·replace c15 := Bool.eq_false_iff.mpr c15
      subst c15
      have H1 : (some (([] : List Int), 5)) = some (r1, r2) := by rw [if_neg (show ¬ (false = true) by decide)] at H; exact H
      clear H
      have H := H1
      clear H1
      simp only [Option.some.injEq, Prod.mk.injEq] at H
      obtain ⟨rfl, rfl⟩ := H
      have hcz38_0 := bc0_ BK579.out
      have hcz38_1 := bc1_ BK579.out
      have hcz38_2 := bc2_ BK579.out
      have hcz38_3 := bc3_ BK579.out
      have hfz38_0 := blk_frozen BK579.out 0
      have hfz38_1 := blk_frozen BK579.out 1
      have hfz38_2 := blk_frozen BK579.out 2
      have hfz38_3 := blk_frozen BK579.out 3
      go_wp2_with (first | (go_at_call 192; (with_reducible refine (spec_l02Closed.calls kj4 a0_0 _ _ l0_1 _ _ l1 false _ ?side1 ?side2 ?side3 ?side4 A14.out).mono ?_); (case side1 => exact Kd.C_below (Kd.C_below HR0_1.out HB.out) bgo_); (case side2 => exact HC0_1.out); (case side3 => exact Kd.C_below (Kd.C_below HR1.out HB.out) bgo_); (case side4 => exact HC1.out); rintro e w39 ⟨rfl, hb⟩; replace BK579 := m_ (bb_ BK579.out hb); replace HB := m_ (below_step hbs_ hb); clear hb))
      go_ret2
      exact ⟨_, er_, by first | exact Kd.R_nil _ _ _ _ _ | exact Kd.N_nil _ _ _ _ _ | exact Kd.V_nil _ _ _ _ _ | exact Kd.Q_nil _ _ _ _ _ | exact Kd.S_nil _ _ _ _ _, hbs_⟩
 ·replace c4 := Bool.eq_false_iff.mpr c4
  subst c4
  have H1 : (some (([] : List Int), 1)) = some (r1, r2) := by rw [if_neg (show ¬ (false = true) by decide)] at H; exact H
  clear H
  have H := H1
  clear H1
  simp only [Option.some.injEq, Prod.mk.injEq] at H
  obtain ⟨rfl, rfl⟩ := H
  go_enter Try.func110, Try.ntmps110
  go_wp2_with (first | ((with_reducible refine gate_dst (N := 2) rfl ?_); refine bx_ (N := 2) (cs := #[.int .i64 a0_0, .slice A0_1 l0_1.length c0_1, .int .i64 a0_2, .slice A0_3 l0_3.length c0_3]) (t := 28) ?_; intro gb579 hg w40 hbox hb; have BK579 := m_ (hbox); have GW579 := m_ ((by rw [hg]; exact (below_size hb_) : w.heap.size ≤ gb579)); have GE579 := m_ ((by rw [hg]; exact (below_size hb_) : w.heap.size ≤ gb579)); replace HB := m_ (below_step hb_ hb); clear hb hbox hg; have hcz41_0 := bc0_ BK579.out; have hcz41_1 := bc1_ BK579.out; have hcz41_2 := bc2_ BK579.out; have hcz41_3 := bc3_ BK579.out; have hfz41_0 := blk_frozen BK579.out 0; have hfz41_1 := blk_frozen BK579.out 1; have hfz41_2 := blk_frozen BK579.out 2; have hfz41_3 := blk_frozen BK579.out 3) | (go_at_call 209; (with_reducible refine (spec_l04Is.calls k a0_0 _ _ l0_1 a0_2 _ _ l0_3 false _ ?side1 ?side2 ?side3 ?side4 A3.out).mono ?_); (case side1 => exact Kd.C_below (Kd.C_below HR0_1.out HB.out) bgo_); (case side2 => exact HC0_1.out); (case side3 => exact Kd.C_below (Kd.C_below HR0_3.out HB.out) bgo_); (case side4 => exact HC0_3.out); rintro e w42 ⟨rfl, hb⟩; replace BK579 := m_ (bb_ BK579.out hb); replace HB := m_ (below_step hbs_ hb); clear hb))
  go_ret2
  exact ⟨_, er_, by first | exact Kd.R_nil _ _ _ _ _ | exact Kd.N_nil _ _ _ _ _ | exact Kd.V_nil _ _ _ _ _ | exact Kd.Q_nil _ _ _ _ _ | exact Kd.S_nil _ _ _ _ _, hbs_⟩

/-! ### spec_PermutationOfWalk: function 12 -/
def spec_PermutationOfWalk.f (k : Nat) (a0_0 : Int) (l0_1 : List (List Int)) (a0_2 : Int) (l0_3 : List (List Int)) (l1 : List Int) : Option (List Int × Int) := (spec_l04Walk.f k a0_0 l0_1 a0_2 l0_3 l1).bind fun bt595 => (some (bt595.1, bt595.2))
set_option maxHeartbeats 8000000 in
set_option maxRecDepth 100000 in
theorem spec_PermutationOfWalk.calls (k : Nat) (a0_0 : Int) (A0_1 : Option Addr) (c0_1 : Nat) (l0_1 : List (List Int)) (a0_2 : Int) (A0_3 : Option Addr) (c0_3 : Nat) (l0_3 : List (List Int)) (A1 : Option Addr) (c1 : Nat) (l1 : List Int) (r1 : List Int) (r2 : Int) (w : World) (hr0_1 : Kd.C (Kd.slice 2 (Kd.int .i64)) w A0_1 l0_1.length l0_1) (hc0_1 : l0_1.length ≤ c0_1) (hr0_3 : Kd.C (Kd.slice 2 (Kd.int .i64)) w A0_3 l0_3.length l0_3) (hc0_3 : l0_3.length ≤ c0_3) (hr1 : Kd.C (Kd.int .i64) w A1 l1.length l1) (hc1 : l1.length ≤ c1) (h : spec_PermutationOfWalk.f k a0_0 l0_1 a0_2 l0_3 l1 = some (r1, r2)) :
  Calls Try.prog 12 #[.agg #[.int .i64 a0_0, .slice A0_1 l0_1.length c0_1, .int .i64 a0_2, .slice A0_3 l0_3.length c0_3], .slice A1 l1.length c1] w fun e w' => ∃ v0_ : Value, e = .returned (.tuple #[v0_, .int .i64 r2]) ∧ Kd.R (Kd.int .i64) 2 w' w.heap.size (fun _ => True) v0_ r1 ∧ Below w.heap.size w w' := by
 have hu28 := Try.underlying28
 have HR0_1 := m_ hr0_1
 have HC0_1 := m_ hc0_1
 clear hr0_1 hc0_1
 have HR0_3 := m_ hr0_3
 have HC0_3 := m_ hc0_3
 clear hr0_3 hc0_3
 have HR1 := m_ hr1
 have HC1 := m_ hc1
 clear hr1 hc1
 have HB := m_ (Below.refl w.heap.size w)
 have H : ((spec_l04Walk.f k a0_0 l0_1 a0_2 l0_3 l1).bind fun bt595 => (some (bt595.1, bt595.2))) = some (r1, r2) := h
 clear h
 obtain ⟨⟨t595, t598⟩, A3, H⟩ := bnd_ H
 dsimp only at H
 simp only [Option.some.injEq, Prod.mk.injEq] at H
 obtain ⟨rfl, rfl⟩ := H
 go_enter Try.func12, Try.ntmps12
 go_wp2_with (first | ((with_reducible refine gate_dst (N := 2) rfl ?_); refine bx_ (N := 2) (cs := #[.int .i64 a0_0, .slice A0_1 l0_1.length c0_1, .int .i64 a0_2, .slice A0_3 l0_3.length c0_3]) (t := 28) ?_; intro gb594 hg w4 hbox hb; have BK594 := m_ (hbox); have GW594 := m_ ((by rw [hg]; exact (below_size hb_) : w.heap.size ≤ gb594)); have GE594 := m_ ((by rw [hg]; exact (below_size hb_) : w.heap.size ≤ gb594)); replace HB := m_ (below_step hb_ hb); clear hb hbox hg; have hcz5_0 := bc0_ BK594.out; have hcz5_1 := bc1_ BK594.out; have hcz5_2 := bc2_ BK594.out; have hcz5_3 := bc3_ BK594.out; have hfz5_0 := blk_frozen BK594.out 0; have hfz5_1 := blk_frozen BK594.out 1; have hfz5_2 := blk_frozen BK594.out 2; have hfz5_3 := blk_frozen BK594.out 3) | ((with_reducible refine gate_callee (f := 110) rfl ?_); refine gl_ (some 11) Try.func110 #[.agg #[.int .i64 a0_0, .slice A0_1 l0_1.length c0_1, .int .i64 a0_2, .slice A0_3 l0_3.length c0_3], .slice A1 l1.length c1] ?_; (with_reducible refine (spec_l04Walk.calls k a0_0 _ _ l0_1 a0_2 _ _ l0_3 _ _ l1 t595 t598 _ ?side1 ?side2 ?side3 ?side4 ?side5 ?side6 A3.out).mono ?_); (case side1 => exact Kd.C_below (Kd.C_below HR0_1.out HB.out) bgo_); (case side2 => exact HC0_1.out); (case side3 => exact Kd.C_below (Kd.C_below HR0_3.out HB.out) bgo_); (case side4 => exact HC0_3.out); (case side5 => exact Kd.C_below (Kd.C_below HR1.out HB.out) bgo_); (case side6 => exact HC1.out); rintro e w6 ⟨v596, rfl, ho0, hb⟩; refine ⟨_, rfl, ?_⟩; have HO597 := m_ (Kd.R_lower ho0 (below_size hbs_)); replace BK594 := m_ (bb_ BK594.out hb); replace HB := m_ (below_step hbs_ hb); clear hb; (try clear ho0)))
 go_ret2
 exact ⟨_, er_, (Kd.R_below HO597.out bgo_), hbs_⟩

/-! ### laws_likeInts: function 13 -/
def laws_likeInts.l0 : Nat → List Int → List Int → Int → Option (Bool)
 | 0, _, _, _ => none
 | k + 1, x0, x1, x5 => if x5 < (x0.length : Int) then (if 0 ≤ x5 then (if x5 < (x1.length : Int) then (if (rd x0 x5) = (rd x1 x5) then (laws_likeInts.l0 k x0 x1 (wrap64 (x5 + 1))) else (some false)) else (none)) else (none)) else (some true)
def laws_likeInts.f (k : Nat) (l0 : List Int) (l1 : List Int) : Option (Bool) := if (l0.length : Int) = (l1.length : Int) then (laws_likeInts.l0 k l0 l1 0) else (some false)
set_option maxHeartbeats 8000000 in
set_option maxRecDepth 100000 in
theorem laws_likeInts.calls (k : Nat) (A0 : Option Addr) (c0 : Nat) (l0 : List Int) (A1 : Option Addr) (c1 : Nat) (l1 : List Int) (r : Bool) (w : World) (hr0 : Kd.C (Kd.int .i64) w A0 l0.length l0) (hc0 : l0.length ≤ c0) (hr1 : Kd.C (Kd.int .i64) w A1 l1.length l1) (hc1 : l1.length ≤ c1) (h : laws_likeInts.f k l0 l1 = some r) :
  Calls Try.prog 13 #[.slice A0 l0.length c0, .slice A1 l1.length c1] w fun e w' => e = .returned (.bool r) ∧ Drawn0 w w' := by
 have HR0 := m_ hr0
 have HC0 := m_ hc0
 clear hr0 hc0
 have HR1 := m_ hr1
 have HC1 := m_ hc1
 clear hr1 hc1
 have H : (if (l0.length : Int) = (l1.length : Int) then (laws_likeInts.l0 k l0 l1 0) else (some false)) = some r := h
 clear h
 by_cases c3 : (l0.length : Int) = (l1.length : Int)
 ·rw [if_pos c3] at H
  have c3b0 : ((l0.length : Int) == (l1.length : Int)) = true := beq_iff_eq.mpr c3
  have c3b1 : ((l0.length : Int) != (l1.length : Int)) = false := bne_eq_false_iff_eq.mpr c3
  have c3b2 : (l0.length == l1.length) = true := by first | simpa using c3 | (simp at c3 ⊢; omega)
  clear c3
  have H' := m_ H
  clear H
  go_enter Try.func13, Try.ntmps13
  go_wp2
  repeat (go_quiet (fail); try go_wp2)
  go_loopg [5] k (fun kq v5 w' => ∃ (x5_1 : Int), v5 = .int .i64 x5_1 ∧ Aside0 (laws_likeInts.l0 kq l0 l1 x5_1 = some r) ∧ Aside0 (kq ≤ k) ∧ Drawn0 w w')
  case atStart => exact ⟨(0), es_, H', ⟨Nat.le_refl _⟩, by repeat (first | exact Drawn0.refl _ | apply Drawn0.step)⟩
  case round =>
   clear H'
   obtain ⟨x5_1, rfl, HA, HK1, ⟨m1, rfl⟩⟩ := hrel
   cases gk with
   | zero => exact absurd HA.out (by simp [laws_likeInts.l0])
   | succ k1 =>
    have H := HA.out
    clear HA
    simp only [laws_likeInts.l0] at H
    by_cases c4 : x5_1 < (l0.length : Int)
    ·rw [if_pos c4] at H
     have c4b0 := decide_eq_true c4
     clear c4
     obtain ⟨c5, H⟩ := itn_ H
     have c5b0 := decide_eq_true c5
     clear c5
     obtain ⟨c6, H⟩ := itn_ H
     have c6b0 := decide_eq_true c6
     clear c6
     by_cases c7 : (rd l0 x5_1) = (rd l1 x5_1)
     ·rw [if_pos c7] at H
      have c7b0 : ((rd l0 x5_1) == (rd l1 x5_1)) = true := beq_iff_eq.mpr c7
      have c7b1 : ((rd l0 x5_1) != (rd l1 x5_1)) = false := bne_eq_false_iff_eq.mpr c7
      clear c7
      have H' := m_ H
      clear H
      have p599 : 0 ≤ (x5_1 : Int) := od_
      have q599 : x5_1 < (l0.length : Int) := od_
      obtain ⟨ad599, e599, hx599_0⟩ := Kd.at_int HR0.out x5_1 p599 q599
      cases e599
      replace p599 := eq_true p599
      replace q599 := eq_true q599
      have p600 : 0 ≤ (x5_1 : Int) := od_
      have q600 : x5_1 < (l1.length : Int) := od_
      obtain ⟨ad600, e600, hx600_0⟩ := Kd.at_int HR1.out x5_1 p600 q600
      cases e600
      replace p600 := eq_true p600
      replace q600 := eq_true q600
      go_wp2
      repeat (go_quiet (fail); try go_wp2)
      go_roundg k1
      case measure => have := HK1.out; omega
      case rel => exact ⟨(wrap64 (x5_1 + 1)), es_, H', ⟨by have := HK1.out; omega⟩, by repeat (first | exact Drawn0.refl _ | apply Drawn0.step)⟩
     ·rw [if_neg c7] at H
      have c7b0 : ((rd l0 x5_1) == (rd l1 x5_1)) = false := beq_eq_false_iff_ne.mpr c7
      have c7b1 : ((rd l0 x5_1) != (rd l1 x5_1)) = true := bne_iff_ne.mpr c7
      obtain rfl := Option.some.inj H
      have p599 : 0 ≤ (x5_1 : Int) := od_
      have q599 : x5_1 < (l0.length : Int) := od_
      obtain ⟨ad599, e599, hx599_0⟩ := Kd.at_int HR0.out x5_1 p599 q599
      cases e599
      replace p599 := eq_true p599
      replace q599 := eq_true q599
      have p600 : 0 ≤ (x5_1 : Int) := od_
      have q600 : x5_1 < (l1.length : Int) := od_
      obtain ⟨ad600, e600, hx600_0⟩ := Kd.at_int HR1.out x5_1 p600 q600
      cases e600
      replace p600 := eq_true p600
      replace q600 := eq_true q600
      go_wp2
      repeat (go_quiet (fail); try go_wp2)
      go_ret
      exact ⟨es_, by repeat (first | exact Drawn0.refl _ | apply Drawn0.step)⟩
    ·rw [if_neg c4] at H
     have c4b0 := decide_eq_false c4
     clear c4
     obtain rfl := Option.some.inj H
     go_wp2
     repeat (go_quiet (fail); try go_wp2)
     go_ret
     exact ⟨es_, by repeat (first | exact Drawn0.refl _ | apply Drawn0.step)⟩
 ·rw [if_neg c3] at H
  have c3b0 : ((l0.length : Int) == (l1.length : Int)) = false := beq_eq_false_iff_ne.mpr c3
  have c3b1 : ((l0.length : Int) != (l1.length : Int)) = true := bne_iff_ne.mpr c3
  have c3b2 : (l0.length == l1.length) = false := by first | simpa using c3 | (simp at c3 ⊢; omega)
  obtain rfl := Option.some.inj H
  go_enter Try.func13, Try.ntmps13
  go_wp2
  repeat (go_quiet (fail); try go_wp2)
  go_ret
  exact ⟨es_, by repeat (first | exact Drawn0.refl _ | apply Drawn0.step)⟩

/-! ### cmp_isNaN_int64: function 262 -/
def cmp_isNaN_int64.f (a0 : Int) : Option (Bool) := some (a0 != a0)
set_option maxHeartbeats 8000000 in
set_option maxRecDepth 100000 in
theorem cmp_isNaN_int64.calls (a0 : Int) (r : Bool) (w : World) (h : cmp_isNaN_int64.f a0 = some r) :
  Calls Try.prog 262 #[.int .i64 a0] w fun e w' => e = .returned (.bool r) ∧ Drawn0 w w' := by
 have H : (some (a0 != a0)) = some r := h
 clear h
 obtain rfl := Option.some.inj H
 go_enter Try.func262, Try.ntmps262
 go_wp2
 go_ret
 exact ⟨es_, by repeat (first | exact Drawn0.refl _ | apply Drawn0.step)⟩

/-! ### cmp_Less_int64: function 248 -/
def cmp_Less_int64.f (a0 : Int) (a1 : Int) : Option (Bool) := (cmp_isNaN_int64.f a0).bind fun t601 => (if t601 = true then ((cmp_isNaN_int64.f a1).bind fun t602 => (if t602 = true then (some (decide (a0 < a1))) else (some true))) else (some (decide (a0 < a1))))
set_option maxHeartbeats 8000000 in
set_option maxRecDepth 100000 in
theorem cmp_Less_int64.calls (a0 : Int) (a1 : Int) (r : Bool) (w : World) (h : cmp_Less_int64.f a0 a1 = some r) :
  Calls Try.prog 248 #[.int .i64 a0, .int .i64 a1] w fun e w' => e = .returned (.bool r) ∧ Drawn0 w w' := by
 have H : ((cmp_isNaN_int64.f a0).bind fun t601 => (if t601 = true then ((cmp_isNaN_int64.f a1).bind fun t602 => (if t602 = true then (some (decide (a0 < a1))) else (some true))) else (some (decide (a0 < a1))))) = some r := h
 clear h
 obtain ⟨t601, A3, H⟩ := bnd_ H
 by_cases c4 : t601 = true
 ·subst c4
  have H1 : ((cmp_isNaN_int64.f a1).bind fun t602 => (if t602 = true then (some (decide (a0 < a1))) else (some true))) = some r := by rw [if_pos rfl] at H; exact H
  clear H
  have H := H1
  clear H1
  obtain ⟨t602, A5, H⟩ := bnd_ H
  by_cases c6 : t602 = true
  ·subst c6
   have H1 : (some (decide (a0 < a1))) = some r := by rw [if_pos rfl] at H; exact H
   clear H
   have H := H1
   clear H1
   obtain rfl := Option.some.inj H
   go_enter Try.func248, Try.ntmps248
   go_wp2_with (first | ((with_reducible refine gate_callee (f := 262) rfl ?_); refine gl_ (some 6) Try.func262 #[.int .i64 a0] ?_; (with_reducible refine (cmp_isNaN_int64.calls a0 true _ A3.out).mono ?_); rintro e w' ⟨rfl, ⟨nd, rfl⟩⟩; refine ⟨_, rfl, ?_⟩) | (go_at_call 262; (with_reducible refine (cmp_isNaN_int64.calls a1 true _ A5.out).mono ?_); rintro e w' ⟨rfl, ⟨nd, rfl⟩⟩))
   go_ret
   exact ⟨es_, by repeat (first | exact Drawn0.refl _ | apply Drawn0.step)⟩
  ·replace c6 := Bool.eq_false_iff.mpr c6
   subst c6
   have H1 : (some true) = some r := by rw [if_neg (show ¬ (false = true) by decide)] at H; exact H
   clear H
   have H := H1
   clear H1
   obtain rfl := Option.some.inj H
   go_enter Try.func248, Try.ntmps248
   go_wp2_with (first | ((with_reducible refine gate_callee (f := 262) rfl ?_); refine gl_ (some 6) Try.func262 #[.int .i64 a0] ?_; (with_reducible refine (cmp_isNaN_int64.calls a0 true _ A3.out).mono ?_); rintro e w' ⟨rfl, ⟨nd, rfl⟩⟩; refine ⟨_, rfl, ?_⟩) | (go_at_call 262; (with_reducible refine (cmp_isNaN_int64.calls a1 false _ A5.out).mono ?_); rintro e w' ⟨rfl, ⟨nd, rfl⟩⟩))
   go_ret
   exact ⟨es_, by repeat (first | exact Drawn0.refl _ | apply Drawn0.step)⟩
 ·replace c4 := Bool.eq_false_iff.mpr c4
  subst c4
  have H1 : (some (decide (a0 < a1))) = some r := by rw [if_neg (show ¬ (false = true) by decide)] at H; exact H
  clear H
  have H := H1
  clear H1
  obtain rfl := Option.some.inj H
  go_enter Try.func248, Try.ntmps248
  go_wp2_with (first | ((with_reducible refine gate_callee (f := 262) rfl ?_); refine gl_ (some 6) Try.func262 #[.int .i64 a0] ?_; (with_reducible refine (cmp_isNaN_int64.calls a0 false _ A3.out).mono ?_); rintro e w' ⟨rfl, ⟨nd, rfl⟩⟩; refine ⟨_, rfl, ?_⟩))
  go_ret
  exact ⟨es_, by repeat (first | exact Drawn0.refl _ | apply Drawn0.step)⟩

/-! ### slices_insertionSortOrdered_int64: function 242 -/
mutual
def slices_insertionSortOrdered_int64.l0 : Nat → List Int → Int → Int → Int → Option (List Int)
 | 0, _, _, _, _ => none
 | k + 1, x0, x1, x2, x6 => if x6 < x2 then (slices_insertionSortOrdered_int64.l1 k x0 x1 x2 x6 x6) else (some x0)
def slices_insertionSortOrdered_int64.l1 : Nat → List Int → Int → Int → Int → Int → Option (List Int)
 | 0, _, _, _, _, _ => none
 | k + 1, x0, x1, x2, x6, x7 => if x7 > x1 then (if 0 ≤ x7 then (if x7 < (x0.length : Int) then (if 0 ≤ (wrap64 (x7 - 1)) then (if (wrap64 (x7 - 1)) < (x0.length : Int) then ((cmp_Less_int64.f (rd x0 x7) (rd x0 (wrap64 (x7 - 1)))).bind fun t605 => (if t605 = true then (slices_insertionSortOrdered_int64.l1 k ((x0.set (x7 : Int).toNat (rd x0 (wrap64 (x7 - 1)))).set ((wrap64 (x7 - 1)) : Int).toNat (rd x0 x7)) x1 x2 x6 (wrap64 (x7 - 1))) else (slices_insertionSortOrdered_int64.l0 k x0 x1 x2 (wrap64 (x6 + 1))))) else (none)) else (none)) else (none)) else (none)) else (slices_insertionSortOrdered_int64.l0 k x0 x1 x2 (wrap64 (x6 + 1)))
end
def slices_insertionSortOrdered_int64.f (k : Nat) (l0 : List Int) (a1 : Int) (a2 : Int) : Option (List Int) := slices_insertionSortOrdered_int64.l0 k l0 a1 a2 (wrap64 (a1 + 1))
theorem slices_insertionSortOrdered_int64.mono_l : ∀ k, (∀ y0 y1 y2 y3, LeO (slices_insertionSortOrdered_int64.l0 k y0 y1 y2 y3) (slices_insertionSortOrdered_int64.l0 (k + 1) y0 y1 y2 y3)) ∧ (∀ y0 y1 y2 y3 y4, LeO (slices_insertionSortOrdered_int64.l1 k y0 y1 y2 y3 y4) (slices_insertionSortOrdered_int64.l1 (k + 1) y0 y1 y2 y3 y4))
 | 0 => ⟨fun _ _ _ _ r h => by simp [slices_insertionSortOrdered_int64.l0] at h, fun _ _ _ _ _ r h => by simp [slices_insertionSortOrdered_int64.l1] at h⟩
 | k + 1 => by
  obtain ⟨ih0, ih1⟩ := slices_insertionSortOrdered_int64.mono_l k
  refine ⟨?_, ?_⟩
  ·intro y0 y1 y2 y3
   unfold slices_insertionSortOrdered_int64.l0
   repeat' first
   | (with_reducible exact ih0 _ _ _ _)
   | (with_reducible exact ih1 _ _ _ _ _)
   | (with_reducible exact LeO.refl _)
   | (with_reducible exact LeO.none _)
   | (with_reducible refine LeO.ite ?_ ?_)
   | (with_reducible refine LeO.bind ?_ (fun _ => ?_))
  ·intro y0 y1 y2 y3 y4
   unfold slices_insertionSortOrdered_int64.l1
   repeat' first
   | (with_reducible exact ih0 _ _ _ _)
   | (with_reducible exact ih1 _ _ _ _ _)
   | (with_reducible exact LeO.refl _)
   | (with_reducible exact LeO.none _)
   | (with_reducible refine LeO.ite ?_ ?_)
   | (with_reducible refine LeO.bind ?_ (fun _ => ?_))
theorem slices_insertionSortOrdered_int64.mono : ∀ a0 a1 a2 k, LeO (slices_insertionSortOrdered_int64.f k a0 a1 a2) (slices_insertionSortOrdered_int64.f (k + 1) a0 a1 a2) := by
 intro a0 a1 a2 k
 obtain ⟨ih0, ih1⟩ := slices_insertionSortOrdered_int64.mono_l k
 unfold slices_insertionSortOrdered_int64.f
 repeat' first
   | (with_reducible exact ih0 _ _ _ _)
   | (with_reducible exact ih1 _ _ _ _ _)
   | (with_reducible exact LeO.refl _)
   | (with_reducible exact LeO.none _)
   | (with_reducible refine LeO.ite ?_ ?_)
   | (with_reducible refine LeO.bind ?_ (fun _ => ?_))
def slices_insertionSortOrdered_int64.T4 : Bool × List (List Nat × List Nat) := (true, [([], []), ([], []), ([0, 1], [0, 1]), ([2], [2]), ([3], [3]), ([3], [3]), ([4, 5, 3], [3, 4, 5]), ([6, 3], [3, 6]), ([3], [3]), ([3], [3]), ([9, 3], [3, 9]), ([8, 10, 3], [3, 8, 10]), ([11, 3], [3, 11]), ([7, 12, 3, 3], [3, 7, 12]), ([3, 13], [3, 13])])
def slices_insertionSortOrdered_int64.B4 : List Nat := [0, 0, 3, 7, 15, 15, 63, 127, 15, 15, 527, 1807, 3855, 8191, 16383]
theorem slices_insertionSortOrdered_int64.tab4 : rtab .any (opsOf Try.f242 4) = slices_insertionSortOrdered_int64.T4 := by kernel_rfl
theorem slices_insertionSortOrdered_int64.bits4 : waitsOk slices_insertionSortOrdered_int64.T4.2 slices_insertionSortOrdered_int64.B4 = true := by kernel_rfl
def slices_insertionSortOrdered_int64.T6 : Bool × List (List Nat × List Nat) := (true, [([], []), ([], []), ([], []), ([], []), ([3], [3]), ([], []), ([], []), ([6], [6]), ([5, 7], [5, 7]), ([8], [8]), ([], []), ([], []), ([10, 11], [10, 11]), ([12], [12]), ([0, 1, 0, 1, 5, 6, 7, 8, 9, 13], [0, 1]), ([14, 9, 0, 1, 5, 6, 7, 8, 9, 13], [9, 14]), ([2, 4, 0, 1, 2, 3, 4, 5, 6, 7, 8, 9, 10, 11, 12, 13, 14, 15], [2, 4]), ([16, 13, 15, 0, 1, 2, 3, 4, 5, 6, 7, 8, 9, 10, 11, 12, 13, 14, 15], [13, 16])])
def slices_insertionSortOrdered_int64.B6 : List Nat := [0, 0, 0, 0, 8, 0, 0, 64, 224, 480, 0, 0, 3072, 7168, 16355, 32739, 65535, 131071]
theorem slices_insertionSortOrdered_int64.tab6 : rtab .any (opsOf Try.f242 6) = slices_insertionSortOrdered_int64.T6 := by kernel_rfl
theorem slices_insertionSortOrdered_int64.bits6 : waitsOk slices_insertionSortOrdered_int64.T6.2 slices_insertionSortOrdered_int64.B6 = true := by kernel_rfl
set_option maxHeartbeats 8000000 in
set_option maxRecDepth 100000 in
theorem slices_insertionSortOrdered_int64.calls (k : Nat) (P0_ : Nat → Prop) (u9000_ : Value) (l0 : List Int) (a1 : Int) (a2 : Int) (r : List Int) (w0 w : World) (hB : Below w0.heap.size w0 w) (ho0 : Kd.R (Kd.int .i64) 2 w w0.heap.size P0_ u9000_ l0) (h : slices_insertionSortOrdered_int64.f k l0 a1 a2 = some r) :
  Calls Try.prog 242 #[u9000_, .int .i64 a1, .int .i64 a2] w fun e w' => e = .returned (.tuple #[]) ∧ Kd.R (Kd.int .i64) 2 w' w0.heap.size (fun k_ => (P0_ k_ ∨ w.heap.size ≤ k_)) u9000_ r ∧ Below w0.heap.size w0 w' ∧ Kept w w' (fun k_ => P0_ k_) := by
 have HO0 := m_ (show Kd.R (Kd.int .i64) 2 w w0.heap.size (fun k_ => (P0_ k_ ∨ w.heap.size ≤ k_)) u9000_ l0 from Kd.R_mono ho0 (fun k_ hk => (.inl hk)))
 have HK := m_ (Kept.refl w (fun k_ => P0_ k_))
 have HW0 := m_ hB.size
 have HB := m_ hB
 clear hB
 have H : (slices_insertionSortOrdered_int64.l0 k l0 a1 a2 (wrap64 (a1 + 1))) = some r := h
 clear h
 have H' := m_ H
 clear H
 go_enter Try.func242, Try.ntmps242
 go_wp2
 go_loopg [6] k (fun kq v6 w' => ∃ (x0_1 : List Int) (x6_1 : Int), v6 = .int .i64 x6_1 ∧ Aside0 (slices_insertionSortOrdered_int64.l0 kq x0_1 a1 a2 x6_1 = some r) ∧ Aside0 (kq ≤ k) ∧ Aside0 (Kd.R (Kd.int .i64) 2 w' w0.heap.size (fun k_ => (P0_ k_ ∨ w.heap.size ≤ k_)) u9000_ x0_1) ∧ Aside0 (Kept w w' (fun k_ => P0_ k_)) ∧ Aside0 (Below w0.heap.size w0 w'))
 case atStart => exact ⟨(l0), (wrap64 (a1 + 1)), es_, H', ⟨Nat.le_refl _⟩, ⟨Kd.R_below HO0.out bgo_⟩, ⟨by repeat (first | (with_reducible first | exact HK.out | apply Kept.alloc | apply Kept.drewN | apply Kept.drew) | exact HK.out)⟩, ⟨hb_⟩⟩
 case round =>
  clear H'
  obtain ⟨x0_1, x6_1, rfl, HA, HK1, HO_0, HK, HB⟩ := hrel
  cases gk with
  | zero => exact absurd HA.out (by simp [slices_insertionSortOrdered_int64.l0])
  | succ k1 =>
   have H := HA.out
   clear HA
   simp only [slices_insertionSortOrdered_int64.l0] at H
   by_cases c4 : x6_1 < a2
   ·rw [if_pos c4] at H
    have c4b0 := decide_eq_true c4
    clear c4
    have H' := m_ H
    clear H
    go_wp2
    go_loopg [7] k1 (fun kq v7 w' => ∃ (x0_2 : List Int) (x7_2 : Int), v7 = .int .i64 x7_2 ∧ Aside0 (slices_insertionSortOrdered_int64.l1 kq x0_2 a1 a2 x6_1 x7_2 = some r) ∧ Aside0 (kq ≤ k1) ∧ Aside0 (Kd.R (Kd.int .i64) 2 w' w0.heap.size (fun k_ => (P0_ k_ ∨ w.heap.size ≤ k_)) u9000_ x0_2) ∧ Aside0 (Kept w w' (fun k_ => P0_ k_)) ∧ Aside0 (Below w0.heap.size w0 w'))
    case atStart => exact ⟨(x0_1), (x6_1), es_, H', ⟨Nat.le_refl _⟩, ⟨Kd.R_below HO_0.out bgo_⟩, ⟨by repeat (first | (with_reducible first | exact HK.out | apply Kept.alloc | apply Kept.drewN | apply Kept.drew) | exact HK.out)⟩, ⟨hb_⟩⟩
    case round =>
     clear H'
     obtain ⟨x0_2, x7_2, rfl, HA, HK2, HO_0, HK, HB⟩ := hrel
     cases gk with
     | zero => exact absurd HA.out (by simp [slices_insertionSortOrdered_int64.l1])
     | succ k2 =>
      have H := HA.out
      clear HA
      simp only [slices_insertionSortOrdered_int64.l1] at H
      by_cases c5 : x7_2 > a1
      ·rw [if_pos c5] at H
       have c5b0 := decide_eq_true c5
       clear c5
       obtain ⟨c6, H⟩ := itn_ H
       have c6b0 := decide_eq_true c6
       clear c6
       obtain ⟨c7, H⟩ := itn_ H
       have c7b0 := decide_eq_true c7
       clear c7
       obtain ⟨ji8, hji8⟩ : ∃ j_ : Int, (wrap64 (x7_2 - 1)) = j_ := ⟨_, rfl⟩
       (try rw [hji8])
       replace H : (if 0 ≤ (ji8) then (if (ji8) < (x0_2.length : Int) then ((cmp_Less_int64.f (rd x0_2 x7_2) (rd x0_2 (ji8))).bind fun t605 => (if t605 = true then (slices_insertionSortOrdered_int64.l1 k2 ((x0_2.set (x7_2 : Int).toNat (rd x0_2 (ji8))).set ((ji8) : Int).toNat (rd x0_2 x7_2)) a1 a2 x6_1 ji8) else (slices_insertionSortOrdered_int64.l0 k2 x0_2 a1 a2 (wrap64 (x6_1 + 1))))) else (none)) else (none)) = some r := by first | (rw [hji8] at H; exact H) | (simp only [hji8] at H ⊢; exact H)
       have hji8w : (IntKind.i64.wrap (x7_2 - 1)) = ji8 := (i64_w _).trans hji8
       obtain ⟨c9, H⟩ := itn_ H
       have c9b0 := decide_eq_true c9
       clear c9
       obtain ⟨c10, H⟩ := itn_ H
       have c10b0 := decide_eq_true c10
       clear c10
       obtain ⟨t605, A11, H⟩ := bnd_ H
       by_cases c12 : t605 = true
       ·subst c12
        have H1 : (slices_insertionSortOrdered_int64.l1 k2 ((x0_2.set (x7_2 : Int).toNat (rd x0_2 (ji8))).set ((ji8) : Int).toNat (rd x0_2 x7_2)) a1 a2 x6_1 ji8) = some r := by rw [if_pos rfl] at H; exact H
        clear H
        have H := H1
        clear H1
        obtain ⟨y608, Ny608, H⟩ : ∃ y608 : List Int, Aside0 (y608 = (x0_2.set (x7_2 : Int).toNat (rd x0_2 (ji8)))) ∧ (slices_insertionSortOrdered_int64.l1 k2 (y608.set ((ji8) : Int).toNat (rd x0_2 x7_2)) a1 a2 x6_1 ji8) = some r := ⟨_, ⟨rfl⟩, H⟩
        obtain ⟨y609, Ny609, H⟩ : ∃ y609 : List Int, Aside0 (y609 = (y608.set ((ji8) : Int).toNat (rd x0_2 x7_2))) ∧ (slices_insertionSortOrdered_int64.l1 k2 y609 a1 a2 x6_1 ji8) = some r := ⟨_, ⟨rfl⟩, H⟩
        have H' := m_ H
        clear H
        try go_wp2
        replace HO_0 := m_ (Kd.R_drew HO_0.out)
        replace HK := m_ (Kept.drew HK.out)
        replace HB := m_ (below_drew1 HB.out)
        obtain ⟨Ao16, co16, eo16⟩ := Kd.R_slice HO_0.out
        subst eo16
        have p603 : 0 ≤ (x7_2 : Int) := od_
        have q603 : x7_2 < (x0_2.length : Int) := od_
        obtain ⟨ad603, e603, hx603_0⟩ := Kd.at_int (Kd.R_reads' HO_0.out).2.2 x7_2 p603 q603
        cases e603
        replace p603 := eq_true p603
        replace q603 := eq_true q603
        have p604 : 0 ≤ ((ji8) : Int) := od_
        have q604 : (ji8) < (x0_2.length : Int) := od_
        obtain ⟨ad604, e604, hx604_0⟩ := Kd.at_int (Kd.R_reads' HO_0.out).2.2 (ji8) p604 q604
        obtain rfl : ad603 = ad604 := (by injection e604)
        replace p604 := eq_true p604
        replace q604 := eq_true q604
        refine start_ (n := 15) (S := fun w' => w'.cell? (ad603.add (x7_2).toNat) = some (.int .i64 (rd x0_2 x7_2)) ∧ w'.cell? (ad603.add ((ji8)).toNat) = some (.int .i64 (rd x0_2 (ji8)))) (ds := []) #[false, false, false, false, false, false, false, false, false, false, false, false, false, false, false] (by kernel_rfl) rfl rfl ⟨hx603_0, hx604_0⟩ (fun hHeld => ?_); refine with_tabW slices_insertionSortOrdered_int64.tab4 slices_insertionSortOrdered_int64.bits4 (fun HT_ HW_ => ?_)
        generalize wr.drew = w15 at HO_0 HK HB hx603_0 hx604_0 hHeld ⊢
        refine pk_ 0 15 16 1 ?_
        refine pk_ 1 15 17 3 ?_
        refine pk_ 2 15 18 7 ?_
        refine pk_ 3 15 19 15 ?_
        refine pk_ 4 15 20 31 ?_
        refine pk_ 5 15 21 63 ?_
        refine pk_ 6 15 22 127 ?_
        refine pk_ 8 15 24 383 ?_
        refine pk_ 9 15 25 895 ?_
        refine pk_ 10 15 26 1919 ?_
        refine pk_ 11 15 27 3967 ?_
        refine tk_ 7 15 23 4095 hHeld ?_
        refine tk_ 12 15 28 8191 hHeld ?_
        refine on_ 13 15 (some 29) 16383 (fun K hK => ?_)
        refine goes_ Try.func248 (by kernel_rfl) rfl #[.int .i64 (rd x0_2 x7_2), .int .i64 (rd x0_2 (ji8))] (by rfl) rfl rfl (by (try simp only [List.map_toArray, List.map_cons, List.map_nil]); first | done | (simp only [hji8]; rfl) | rfl | (simp only [List.length_drop, List.length_take]; rfl)) ?_
        with_reducible refine (cmp_Less_int64.calls (rd x0_2 x7_2) (rd x0_2 (ji8)) true _ A11.out).mono ?_
        rintro e w' ⟨rfl, ⟨nd, rfl⟩⟩
        refine ⟨_, rfl, ?_⟩
        refine hK.out _ _ ⟨hHeld.1, hHeld.2⟩ (fun hHeld => ?_)
        clear hK K
        refine nm_ ?_
        refine pk_ 14 15 30 32767 ?_
        refine done_ (done_of HT_.out (by kernel_rfl)) ?_
        try go_wp2
        (try (rw [drewN_self w15]; generalize hq_ : World.drewN w15 _ = w15; have n0_ : Aside0 (Kd.R (Kd.int .i64) 2 w15 w0.heap.size (fun k_ => (P0_ k_ ∨ w.heap.size ≤ k_)) (.slice (some ad603) x0_2.length co16) x0_2) := ⟨by rw [← hq_]; exact (Kd.R_below HO_0.out bgo_)⟩; have n1_ : Aside0 (Kept w w15 (fun k_ => P0_ k_)) := ⟨by rw [← hq_]; exact (by repeat (first | (with_reducible first | exact HK.out | apply Kept.alloc | apply Kept.drewN | apply Kept.drew) | exact HK.out))⟩; have n2_ : Aside0 (Below w0.heap.size w0 w15) := ⟨by rw [← hq_]; exact hb_⟩; clear HO_0 HK HB hq_; have HO_0 := n0_; have HK := n1_; have HB := n2_; clear n0_ n1_ n2_))
        replace HO_0 := m_ (Kd.R_drew HO_0.out)
        replace HK := m_ (Kept.drew HK.out)
        replace HB := m_ (below_drew1 HB.out)
        have p606 : 0 ≤ ((ji8) : Int) := od_
        have q606 : (ji8) < (x0_2.length : Int) := od_
        obtain ⟨ad606, e606, hx606_0⟩ := Kd.at_int (Kd.R_reads' HO_0.out).2.2 (ji8) p606 q606
        obtain rfl : ad603 = ad606 := (by injection e606)
        replace p606 := eq_true p606
        replace q606 := eq_true q606
        have p607 : 0 ≤ (x7_2 : Int) := od_
        have q607 : x7_2 < (x0_2.length : Int) := od_
        obtain ⟨ad607, e607, hx607_0⟩ := Kd.at_int (Kd.R_reads' HO_0.out).2.2 x7_2 p607 q607
        obtain rfl : ad603 = ad607 := (by injection e607)
        replace p607 := eq_true p607
        replace q607 := eq_true q607
        have p13 : 0 ≤ (x7_2 : Int) := od_
        have q13 : (x7_2 : Int) < ((x0_2.length : Int) : Int) := od_
        obtain ⟨go13, co13, eo13, gb13, gl13, cl13, HG13⟩ := Kd.R_form HO_0.out (by omega)
        (first | cases eo13 | (injection eo13 with ea_ en_ ec_; (first | subst ea_ | (injection ea_ with ea_; subst ea_)); subst ec_; clear en_))
        have GB13 := m_ gb13
        have GG13 := m_ HG13
        clear gb13 gl13 HG13
        have HMgo13 := m_ (show (P0_ go13 ∨ w.heap.size ≤ go13) from (HO_0.out.1 _ rfl))
        (first | simp only [add_plain] at hx603_0 | skip)
        (first | simp only [add_plain] at hx604_0 | skip)
        (first | simp only [add_plain] at hx606_0 | skip)
        (first | simp only [add_plain] at hx607_0 | skip)
        obtain ⟨hx13_0, hf13_0⟩ := Kd.R_celln 0 HO_0.out (x7_2 : Int) p13 q13
        replace p13 := eq_true p13
        replace q13 := eq_true q13
        have HP18 := Kd.R_putn HO_0.out (x7_2 : Int) (rd x0_2 (ji8))
        rw [← Ny608.out] at HP18
        have HQ18 := m_ HP18
        clear HP18
        have p14 : 0 ≤ ((ji8) : Int) := od_
        have q14 : ((ji8) : Int) < ((x0_2.length : Int) : Int) := od_
        obtain ⟨hx14_0, hf14_0⟩ := Kd.R_celln 0 HQ18.out ((ji8) : Int) p14 q14
        replace p14 := eq_true p14
        replace q14 := eq_true q14
        have HP19 := Kd.R_putn HQ18.out ((ji8) : Int) (rd x0_2 x7_2)
        rw [← Ny609.out] at HP19
        have HQ19 := m_ HP19
        clear HP19
        refine start_ (n := 18) (S := fun w' => w'.cell? ⟨go13, ((ji8)).toNat, none⟩ = some (.int .i64 (rd x0_2 (ji8))) ∧ w'.cell? ⟨go13, (x7_2).toNat, none⟩ = some (.int .i64 (rd x0_2 x7_2))) (ds := [15, 17]) #[false, false, false, false, false, false, false, false, false, false, false, false, false, false, false, false, false, false] (by kernel_rfl) rfl rfl ⟨hx606_0, hx607_0⟩ (fun hHeld => ?_); refine with_tabW slices_insertionSortOrdered_int64.tab6 slices_insertionSortOrdered_int64.bits6 (fun HT_ HW_ => ?_)
        generalize w15.drew = w17 at HO_0 HK HB GG13 HQ18 HQ19 hf13_0 hf14_0 hx13_0 hx14_0 hx603_0 hx604_0 hx606_0 hx607_0 hHeld ⊢
        refine pk_ 0 18 33 1 ?_
        refine pk_ 1 18 34 3 ?_
        refine pk_ 2 18 35 7 ?_
        refine pk_ 3 18 36 15 ?_
        refine pk_ 4 18 37 31 ?_
        refine pk_ 5 18 38 63 ?_
        refine pk_ 6 18 39 127 ?_
        refine pk_ 7 18 40 255 ?_
        refine pk_ 8 18 41 511 ?_
        refine pk_ 10 18 43 1535 ?_
        refine pk_ 11 18 44 3583 ?_
        refine pk_ 12 18 45 7679 ?_
        refine tk_ 9 18 42 8191 hHeld ?_
        refine tk_ 13 18 46 16383 hHeld ?_
        refine pk_ 14 18 47 32767 ?_
        refine last_ (i := 15) (N := none) #[true, true, true, true, true, true, true, true, true, true, true, true, true, true, true, true, false, false] rfl rfl (one_of HT_.out (by kernel_rfl)) (by decide) (fun K hK => ?_)
        refine skip_ (w1 := ?_) (by rfl) rfl ?_ ?_
        rotate_left
        ·go_simp
         rfl
        refine hK.out _ _ ?_
        clear hK K
        refine pk_ 16 18 48 131071 ?_
        refine last_ (i := 17) (N := none) #[true, true, true, true, true, true, true, true, true, true, true, true, true, true, true, true, true, true] rfl rfl (one_of HT_.out (by kernel_rfl)) (by decide) (fun K hK => ?_)
        refine skip_ (w1 := ?_) (by rfl) rfl ?_ ?_
        rotate_left
        ·go_simp
         rfl
        refine hK.out _ _ ?_
        clear hK K
        refine done_ (done_of HT_.out (by kernel_rfl)) ?_
        try go_wp2
        first | go_roundg k2 | ((try subst hji8); go_roundg k2)
        case measure => have := HK1.out; have := HK2.out; omega
        case rel => exact ⟨(y609), (ji8), (by first | rfl | (simp; done) | (simp only [← hji8] <;> (first | rfl | simp)) | (simp [*]; done)), H', ⟨by have := HK1.out; have := HK2.out; omega⟩, ⟨by (with_reducible repeat (first | apply Kd.R_alloc | apply Kd.R_drewN | apply Kd.R_drew)); exact HQ19.out⟩, ⟨by repeat (first | (with_reducible first | exact HK.out | apply Kept.alloc | apply Kept.drewN | apply Kept.drew | refine Kept.setCell ?_ HMgo13.out _ | refine Kept.setCell ?_ HMgo13.out _) | exact HK.out)⟩, ⟨hbs_⟩⟩
       ·replace c12 := Bool.eq_false_iff.mpr c12
        subst c12
        have H1 : (slices_insertionSortOrdered_int64.l0 k2 x0_2 a1 a2 (wrap64 (x6_1 + 1))) = some r := by rw [if_neg (show ¬ (false = true) by decide)] at H; exact H
        clear H
        have H := H1
        clear H1
        have H' := m_ H
        clear H
        try go_wp2
        replace HO_0 := m_ (Kd.R_drew HO_0.out)
        replace HK := m_ (Kept.drew HK.out)
        replace HB := m_ (below_drew1 HB.out)
        obtain ⟨Ao21, co21, eo21⟩ := Kd.R_slice HO_0.out
        subst eo21
        have p603 : 0 ≤ (x7_2 : Int) := od_
        have q603 : x7_2 < (x0_2.length : Int) := od_
        obtain ⟨ad603, e603, hx603_0⟩ := Kd.at_int (Kd.R_reads' HO_0.out).2.2 x7_2 p603 q603
        cases e603
        replace p603 := eq_true p603
        replace q603 := eq_true q603
        have p604 : 0 ≤ ((ji8) : Int) := od_
        have q604 : (ji8) < (x0_2.length : Int) := od_
        obtain ⟨ad604, e604, hx604_0⟩ := Kd.at_int (Kd.R_reads' HO_0.out).2.2 (ji8) p604 q604
        obtain rfl : ad603 = ad604 := (by injection e604)
        replace p604 := eq_true p604
        replace q604 := eq_true q604
        refine start_ (n := 15) (S := fun w' => w'.cell? (ad603.add (x7_2).toNat) = some (.int .i64 (rd x0_2 x7_2)) ∧ w'.cell? (ad603.add ((ji8)).toNat) = some (.int .i64 (rd x0_2 (ji8)))) (ds := []) #[false, false, false, false, false, false, false, false, false, false, false, false, false, false, false] (by kernel_rfl) rfl rfl ⟨hx603_0, hx604_0⟩ (fun hHeld => ?_); refine with_tabW slices_insertionSortOrdered_int64.tab4 slices_insertionSortOrdered_int64.bits4 (fun HT_ HW_ => ?_)
        generalize wr.drew = w20 at HO_0 HK HB hx603_0 hx604_0 hHeld ⊢
        refine pk_ 0 15 16 1 ?_
        refine pk_ 1 15 17 3 ?_
        refine pk_ 2 15 18 7 ?_
        refine pk_ 3 15 19 15 ?_
        refine pk_ 4 15 20 31 ?_
        refine pk_ 5 15 21 63 ?_
        refine pk_ 6 15 22 127 ?_
        refine pk_ 8 15 24 383 ?_
        refine pk_ 9 15 25 895 ?_
        refine pk_ 10 15 26 1919 ?_
        refine pk_ 11 15 27 3967 ?_
        refine tk_ 7 15 23 4095 hHeld ?_
        refine tk_ 12 15 28 8191 hHeld ?_
        refine on_ 13 15 (some 29) 16383 (fun K hK => ?_)
        refine goes_ Try.func248 (by kernel_rfl) rfl #[.int .i64 (rd x0_2 x7_2), .int .i64 (rd x0_2 (ji8))] (by rfl) rfl rfl (by (try simp only [List.map_toArray, List.map_cons, List.map_nil]); first | done | (simp only [hji8]; rfl) | rfl | (simp only [List.length_drop, List.length_take]; rfl)) ?_
        with_reducible refine (cmp_Less_int64.calls (rd x0_2 x7_2) (rd x0_2 (ji8)) false _ A11.out).mono ?_
        rintro e w' ⟨rfl, ⟨nd, rfl⟩⟩
        refine ⟨_, rfl, ?_⟩
        refine hK.out _ _ ⟨hHeld.1, hHeld.2⟩ (fun hHeld => ?_)
        clear hK K
        refine nm_ ?_
        refine pk_ 14 15 30 32767 ?_
        refine done_ (done_of HT_.out (by kernel_rfl)) ?_
        try go_wp2
        first | go_roundg k2 | ((try subst hji8); go_roundg k2)
        case measure => have := HK1.out; have := HK2.out; omega
        case rel => exact ⟨(x0_2), (wrap64 (x6_1 + 1)), es_, H', ⟨by have := HK1.out; have := HK2.out; omega⟩, ⟨Kd.R_below HO_0.out bgo_⟩, ⟨by repeat (first | (with_reducible first | exact HK.out | apply Kept.alloc | apply Kept.drewN | apply Kept.drew) | exact HK.out)⟩, ⟨hb_⟩⟩
      ·rw [if_neg c5] at H
       have c5b0 := decide_eq_false c5
       clear c5
       have H' := m_ H
       clear H
       try go_wp2
       replace HO_0 := m_ (Kd.R_drew HO_0.out)
       replace HK := m_ (Kept.drew HK.out)
       replace HB := m_ (below_drew1 HB.out)
       refine start_ (n := 15) (S := fun w' => True) (ds := []) #[false, false, false, false, false, false, false, false, false, false, false, false, false, false, false] (by kernel_rfl) rfl rfl trivial (fun hHeld => ?_); refine with_tabW slices_insertionSortOrdered_int64.tab4 slices_insertionSortOrdered_int64.bits4 (fun HT_ HW_ => ?_)
       generalize wr.drew = w22 at HO_0 HK HB hHeld ⊢
       refine pk_ 0 15 16 1 ?_
       refine pk_ 1 15 17 3 ?_
       refine pk_ 2 15 18 7 ?_
       refine pk_ 3 15 19 15 ?_
       refine pu_ 4 15 20 31 ?_
       refine pu_ 5 15 21 63 ?_
       refine pu_ 6 15 22 127 ?_
       refine pu_ 7 15 23 255 ?_
       refine pu_ 8 15 24 511 ?_
       refine pu_ 9 15 25 1023 ?_
       refine pu_ 10 15 26 2047 ?_
       refine pu_ 11 15 27 4095 ?_
       refine pu_ 12 15 28 8191 ?_
       refine pu_ 13 15 29 16383 ?_
       refine pk_ 14 15 30 32767 ?_
       refine done_ (done_of HT_.out (by kernel_rfl)) ?_
       try go_wp2
       go_roundg k2
       case measure => have := HK1.out; have := HK2.out; omega
       case rel => exact ⟨(x0_2), (wrap64 (x6_1 + 1)), es_, H', ⟨by have := HK1.out; have := HK2.out; omega⟩, ⟨Kd.R_below HO_0.out bgo_⟩, ⟨by repeat (first | (with_reducible first | exact HK.out | apply Kept.alloc | apply Kept.drewN | apply Kept.drew) | exact HK.out)⟩, ⟨hb_⟩⟩
   ·rw [if_neg c4] at H
    have c4b0 := decide_eq_false c4
    clear c4
    obtain rfl := Option.some.inj H
    go_wp2
    first | go_end0 | ((try simp only [Exit.inBlock, Exit.then]); refine bodyPost_ret (results_none rfl _ _ _) rfl ?_)
    exact ⟨er_, (Kd.R_below HO_0.out bgo_), hb_, by repeat (first | (with_reducible first | exact HK.out | apply Kept.alloc | apply Kept.drewN | apply Kept.drew) | exact HK.out)⟩

/-! ### slices_Sort_int64_int64: function 111 -/
set_option maxHeartbeats 8000000 in
set_option maxRecDepth 100000 in
theorem slices_Sort_int64_int64.len64 (x : Nat) (hx : x ≤ 4) (w : World) :
  Calls Try.prog 252 #[.int .u64 (x : Int)] w fun e w' => (∃ y : Int, e = .returned (.int .i64 y)) ∧ Drawn0 w w' := by
 have hc : x = 0 ∨ x = 1 ∨ x = 2 ∨ x = 3 ∨ x = 4 := by omega
 rcases hc with rfl | rfl | rfl | rfl | rfl
 all_goals
  go_enter Try.func252, Try.ntmps252
  go_wp2
  go_ret
  exact ⟨⟨_, rfl⟩, by repeat (first | exact Drawn0.refl _ | apply Drawn0.step)⟩
set_option maxHeartbeats 8000000 in
set_option maxRecDepth 100000 in
theorem slices_Sort_int64_int64.len (x : Nat) (hx : x ≤ 4) (w : World) :
  Calls Try.prog 211 #[.int .u64 (x : Int)] w fun e w' => (∃ y : Int, e = .returned (.int .i64 y)) ∧ Drawn0 w w' := by
 go_enter Try.func211, Try.ntmps211
 go_wp2_with (first | ((with_reducible refine gate_callee (f := 252) rfl ?_); refine gl_ (some 7) Try.func252 #[.int .u64 (x : Int)] ?_; (with_reducible refine (slices_Sort_int64_int64.len64 x hx _).mono ?_); rintro e w' ⟨⟨y, rfl⟩, ⟨nd, rfl⟩⟩; refine ⟨_, rfl, ?_⟩))
 go_ret
 exact ⟨⟨_, rfl⟩, by repeat (first | exact Drawn0.refl _ | apply Drawn0.step)⟩
set_option maxHeartbeats 8000000 in
set_option maxRecDepth 100000 in
theorem slices_Sort_int64_int64.pdq (k : Nat) (P0_ : Nat → Prop) (u9000_ : Value) (l0 : List Int) (x : Nat) (hx : x ≤ 4) (a3 : Int) (r : List Int) (w0 w : World) (hB : Below w0.heap.size w0 w) (ho0 : Kd.R (Kd.int .i64) 2 w w0.heap.size P0_ u9000_ l0) (h : slices_insertionSortOrdered_int64.f k l0 0 (x : Int) = some r) :
  Calls Try.prog 210 #[u9000_, .int .i64 0, .int .i64 (x : Int), .int .i64 a3] w fun e w' => e = .returned (.tuple #[]) ∧ Kd.R (Kd.int .i64) 2 w' w0.heap.size (fun k_ => (P0_ k_ ∨ w.heap.size ≤ k_)) u9000_ r ∧ Below w0.heap.size w0 w' ∧ Kept w w' (fun k_ => P0_ k_) := by
 have HO_0 := m_ (show Kd.R (Kd.int .i64) 2 w w0.heap.size (fun k_ => (P0_ k_ ∨ w.heap.size ≤ k_)) u9000_ l0 from Kd.R_mono ho0 (fun k_ hk => (.inl hk)))
 have HK := m_ (Kept.refl w (fun k_ => P0_ k_))
 have HW0 := m_ hB.size
 have HB := m_ hB
 clear hB
 have A5 := m_ h
 clear h
 have e1 : IntKind.i64.wrap ((x : Int) - 0) = (x : Int) := (i64_w _).trans (by unfold wrap64; omega)
 have e2 : decide ((x : Int) ≤ 12) = true := decide_eq_true (by omega)
 obtain ⟨Ao6, co6, eo6⟩ := Kd.R_slice HO_0.out
 subst eo6
 go_enter Try.func210, Try.ntmps210
 go_wp2
 go_loopg [1, 2] 1 (fun kq v1 v2 w' => v1 = .int .i64 0 ∧ v2 = .int .i64 (x : Int) ∧ Aside0 (Kd.R (Kd.int .i64) 2 w' w0.heap.size (fun k_ => (P0_ k_ ∨ w.heap.size ≤ k_)) (.slice Ao6 l0.length co6) l0) ∧ Aside0 (Kept w w' (fun k_ => P0_ k_)) ∧ Aside0 (Below w0.heap.size w0 w'))
 case atStart => exact ⟨es_, es_, ⟨Kd.R_below HO_0.out bgo_⟩, ⟨by repeat (first | (with_reducible first | exact HK.out | apply Kept.alloc | apply Kept.drewN | apply Kept.drew) | exact HK.out)⟩, ⟨hb_⟩⟩
 case round =>
  clear HO_0 HK HB
  obtain ⟨rfl, rfl, HO_0, HK, HB⟩ := hrel
  go_wp2_with (first | ((with_reducible refine gate_callee (f := 242) rfl ?_); refine gl_ (some 27) Try.func242 #[.slice Ao6 l0.length co6, .int .i64 0, .int .i64 (x : Int)] ?_; (with_reducible refine (slices_insertionSortOrdered_int64.calls k (fun k_ => some k_ = (.slice Ao6 l0.length co6 : Value).ownBlock) (.slice Ao6 l0.length co6) l0 0 (x : Int) r w0 _ ?side1 ?side2 A5.out).mono ?_); (case side1 => exact hb_); (case side2 => exact Kd.R_tight rfl HO_0.out); rintro e w7 ⟨rfl, hy0, hb, hkp⟩; refine ⟨_, rfl, ?_⟩; replace HK := m_ (Kept.then_ (S := (fun k_ => P0_ k_)) (by repeat (first | (with_reducible first | exact HK.out | apply Kept.alloc | apply Kept.drewN | apply Kept.drew) | exact HK.out)) hkp (fun k_ hs_ => (fun e_ => (HO_0.out.1 k_ e_.symm)) hs_)); replace HO_0 := m_ (Kd.R_reok rfl hy0 (fun k_ e_ => HO_0.out.1 k_ e_)); replace HB := m_ (hb); (try clear hb); (try clear hkp); (try clear hy0)))
  first | go_end0 | ((try simp only [Exit.inBlock, Exit.then]); refine bodyPost_ret (results_none rfl _ _ _) rfl ?_)
  exact ⟨er_, (Kd.R_below HO_0.out bgo_), hb_, by repeat (first | (with_reducible first | exact HK.out | apply Kept.alloc | apply Kept.drewN | apply Kept.drew) | exact HK.out)⟩
def slices_Sort_int64_int64.f (k : Nat) (l0 : List Int) : Option (List Int) := if l0.length ≤ 4 then slices_insertionSortOrdered_int64.f k l0 0 (l0.length : Int) else none
theorem slices_Sort_int64_int64.mono : ∀ a0 k, LeO (slices_Sort_int64_int64.f k a0) (slices_Sort_int64_int64.f (k + 1) a0) := by
 intro a0 k r h
 unfold slices_Sort_int64_int64.f at h ⊢
 by_cases c : a0.length ≤ 4
 ·rw [if_pos c] at h ⊢
  exact slices_insertionSortOrdered_int64.mono _ _ _ _ r h
 ·rw [if_neg c] at h
  cases h
set_option maxHeartbeats 8000000 in
set_option maxRecDepth 100000 in
theorem slices_Sort_int64_int64.calls (k : Nat) (P0_ : Nat → Prop) (u9000_ : Value) (l0 : List Int) (r : List Int) (w0 w : World) (hB : Below w0.heap.size w0 w) (ho0 : Kd.R (Kd.int .i64) 2 w w0.heap.size P0_ u9000_ l0) (h : slices_Sort_int64_int64.f k l0 = some r) :
  Calls Try.prog 111 #[u9000_] w fun e w' => e = .returned (.tuple #[]) ∧ Kd.R (Kd.int .i64) 2 w' w0.heap.size (fun k_ => (P0_ k_ ∨ w.heap.size ≤ k_)) u9000_ r ∧ Below w0.heap.size w0 w' ∧ Kept w w' (fun k_ => P0_ k_) := by
 have HO_0 := m_ (show Kd.R (Kd.int .i64) 2 w w0.heap.size (fun k_ => (P0_ k_ ∨ w.heap.size ≤ k_)) u9000_ l0 from Kd.R_mono ho0 (fun k_ hk => (.inl hk)))
 have HK := m_ (Kept.refl w (fun k_ => P0_ k_))
 have HW0 := m_ hB.size
 have HB := m_ hB
 clear hB
 unfold slices_Sort_int64_int64.f at h
 by_cases c : l0.length ≤ 4
 ·rw [if_pos c] at h
  have A5 := m_ h
  have L4 := m_ c
  have e1 : IntKind.u64.wrap (l0.length : Int) = (l0.length : Int) := by
   have : ∀ x : Fin 5, IntKind.u64.wrap ((x.val : Nat) : Int) = ((x.val : Nat) : Int) := by decide
   exact this ⟨l0.length, by omega⟩
  clear h c
  obtain ⟨Ao6, co6, eo6⟩ := Kd.R_slice HO_0.out
  subst eo6
  go_enter Try.func111, Try.ntmps111
  go_wp2_with (first | ((with_reducible refine gate_callee (f := 211) rfl ?_); refine gl_ (some 9) Try.func211 #[.int .u64 (l0.length : Int)] ?_; (with_reducible refine (slices_Sort_int64_int64.len l0.length L4.out _).mono ?_); rintro e w' ⟨⟨y, rfl⟩, ⟨nd, rfl⟩⟩; refine ⟨_, rfl, ?_⟩) | ((with_reducible refine gate_callee (f := 210) rfl ?_); refine gl_ (some 10) Try.func210 #[.slice Ao6 l0.length co6, .int .i64 0, .int .i64 (l0.length : Int), .int .i64 y] ?_; (with_reducible refine (slices_Sort_int64_int64.pdq k (fun k_ => some k_ = (.slice Ao6 l0.length co6 : Value).ownBlock) (.slice Ao6 l0.length co6) l0 l0.length L4.out y r w0 _ ?side1 ?side2 A5.out).mono ?_); (case side1 => exact hb_); (case side2 => exact Kd.R_tight rfl HO_0.out); rintro e w7 ⟨rfl, hy0, hb, hkp⟩; refine ⟨_, rfl, ?_⟩; replace HK := m_ (Kept.then_ (S := (fun k_ => P0_ k_)) (by repeat (first | (with_reducible first | exact HK.out | apply Kept.alloc | apply Kept.drewN | apply Kept.drew) | exact HK.out)) hkp (fun k_ hs_ => (fun e_ => (HO_0.out.1 k_ e_.symm)) hs_)); replace HO_0 := m_ (Kd.R_reok rfl hy0 (fun k_ e_ => HO_0.out.1 k_ e_)); replace HB := m_ (hb); (try clear hb); (try clear hkp); (try clear hy0)))
  first | go_end0 | ((try simp only [Exit.inBlock, Exit.then]); refine bodyPost_ret (results_none rfl _ _ _) rfl ?_)
  exact ⟨er_, (Kd.R_below HO_0.out bgo_), hb_, by repeat (first | (with_reducible first | exact HK.out | apply Kept.alloc | apply Kept.drewN | apply Kept.drew) | exact HK.out)⟩
 ·rw [if_neg c] at h
  cases h

/-! ### slices_Reverse_int64_int64: function 112 -/
def slices_Reverse_int64_int64.l0 : Nat → List Int → Int → Int → Option (List Int)
 | 0, _, _, _ => none
 | k + 1, x0, x2, x3 => if x2 < x3 then (if 0 ≤ x3 then (if x3 < (x0.length : Int) then (if 0 ≤ x2 then (if x2 < (x0.length : Int) then (slices_Reverse_int64_int64.l0 k ((x0.set (x2 : Int).toNat (rd x0 x3)).set (x3 : Int).toNat (rd x0 x2)) (wrap64 (x2 + 1)) (wrap64 (x3 - 1))) else (none)) else (none)) else (none)) else (none)) else (some x0)
def slices_Reverse_int64_int64.f (k : Nat) (l0 : List Int) : Option (List Int) := slices_Reverse_int64_int64.l0 k l0 0 (wrap64 ((l0.length : Int) - 1))
theorem slices_Reverse_int64_int64.mono_l : ∀ k, (∀ y0 y1 y2, LeO (slices_Reverse_int64_int64.l0 k y0 y1 y2) (slices_Reverse_int64_int64.l0 (k + 1) y0 y1 y2))
 | 0 => fun _ _ _ r h => by simp [slices_Reverse_int64_int64.l0] at h
 | k + 1 => by
  have ih0 := slices_Reverse_int64_int64.mono_l k
  ·intro y0 y1 y2
   unfold slices_Reverse_int64_int64.l0
   repeat' first
   | (with_reducible exact ih0 _ _ _)
   | (with_reducible exact LeO.refl _)
   | (with_reducible exact LeO.none _)
   | (with_reducible refine LeO.ite ?_ ?_)
   | (with_reducible refine LeO.bind ?_ (fun _ => ?_))
theorem slices_Reverse_int64_int64.mono : ∀ a0 k, LeO (slices_Reverse_int64_int64.f k a0) (slices_Reverse_int64_int64.f (k + 1) a0) := by
 intro a0 k
 have ih0 := slices_Reverse_int64_int64.mono_l k
 unfold slices_Reverse_int64_int64.f
 repeat' first
   | (with_reducible exact ih0 _ _ _)
   | (with_reducible exact LeO.refl _)
   | (with_reducible exact LeO.none _)
   | (with_reducible refine LeO.ite ?_ ?_)
   | (with_reducible refine LeO.bind ?_ (fun _ => ?_))
def slices_Reverse_int64_int64.T3 : Bool × List (List Nat × List Nat) := (true, [([], []), ([], []), ([], []), ([], []), ([], []), ([], []), ([4, 5], [4, 5]), ([6], [6]), ([], []), ([], []), ([8, 9], [8, 9]), ([10], [10]), ([0, 1, 0, 1, 4, 5, 6, 7, 11], [0, 1]), ([12, 7, 0, 1, 4, 5, 6, 7, 11], [7, 12]), ([2, 3, 0, 1, 2, 3, 4, 5, 6, 7, 8, 9, 10, 11, 12, 13], [2, 3]), ([14, 11, 13, 0, 1, 2, 3, 4, 5, 6, 7, 8, 9, 10, 11, 12, 13], [11, 14])])
def slices_Reverse_int64_int64.B3 : List Nat := [0, 0, 0, 0, 0, 0, 48, 112, 0, 0, 768, 1792, 4083, 8179, 16383, 32767]
theorem slices_Reverse_int64_int64.tab3 : rtab .any (opsOf Try.f112 3) = slices_Reverse_int64_int64.T3 := by kernel_rfl
theorem slices_Reverse_int64_int64.bits3 : waitsOk slices_Reverse_int64_int64.T3.2 slices_Reverse_int64_int64.B3 = true := by kernel_rfl
set_option maxHeartbeats 8000000 in
set_option maxRecDepth 100000 in
theorem slices_Reverse_int64_int64.calls (k : Nat) (P0_ : Nat → Prop) (u9000_ : Value) (l0 : List Int) (r : List Int) (w0 w : World) (hB : Below w0.heap.size w0 w) (ho0 : Kd.R (Kd.int .i64) 2 w w0.heap.size P0_ u9000_ l0) (h : slices_Reverse_int64_int64.f k l0 = some r) :
  Calls Try.prog 112 #[u9000_] w fun e w' => e = .returned (.tuple #[]) ∧ Kd.R (Kd.int .i64) 2 w' w0.heap.size (fun k_ => (P0_ k_ ∨ w.heap.size ≤ k_)) u9000_ r ∧ Below w0.heap.size w0 w' ∧ Kept w w' (fun k_ => P0_ k_) := by
 have HO0 := m_ (show Kd.R (Kd.int .i64) 2 w w0.heap.size (fun k_ => (P0_ k_ ∨ w.heap.size ≤ k_)) u9000_ l0 from Kd.R_mono ho0 (fun k_ hk => (.inl hk)))
 have HK := m_ (Kept.refl w (fun k_ => P0_ k_))
 have HW0 := m_ hB.size
 have HB := m_ hB
 clear hB
 have H : (slices_Reverse_int64_int64.l0 k l0 0 (wrap64 ((l0.length : Int) - 1))) = some r := h
 clear h
 have H' := m_ H
 clear H
 obtain ⟨Ao2, co2, eo2⟩ := Kd.R_slice HO0.out
 subst eo2
 go_enter Try.func112, Try.ntmps112
 go_wp2
 go_loopg [2, 3] k (fun kq v2 v3 w' => ∃ (x0_1 : List Int) (x2_1 : Int) (x3_1 : Int), v2 = .int .i64 x2_1 ∧ v3 = .int .i64 x3_1 ∧ Aside0 (slices_Reverse_int64_int64.l0 kq x0_1 x2_1 x3_1 = some r) ∧ Aside0 (kq ≤ k) ∧ Aside0 (Kd.R (Kd.int .i64) 2 w' w0.heap.size (fun k_ => (P0_ k_ ∨ w.heap.size ≤ k_)) (.slice Ao2 l0.length co2) x0_1) ∧ Aside0 (Kept w w' (fun k_ => P0_ k_)) ∧ Aside0 (Below w0.heap.size w0 w'))
 case atStart => exact ⟨(l0), (0), (wrap64 ((l0.length : Int) - 1)), es_, es_, H', ⟨Nat.le_refl _⟩, ⟨Kd.R_below HO0.out bgo_⟩, ⟨by repeat (first | (with_reducible first | exact HK.out | apply Kept.alloc | apply Kept.drewN | apply Kept.drew) | exact HK.out)⟩, ⟨hb_⟩⟩
 case round =>
  clear H'
  obtain ⟨x0_1, x2_1, x3_1, rfl, rfl, HA, HK1, HO_0, HK, HB⟩ := hrel
  have hl0_1 := (Kd.R_reads' HO_0.out).1
  rw [hl0_1] at HO_0
  (try simp only [hl0_1])
  cases gk with
  | zero => exact absurd HA.out (by simp [slices_Reverse_int64_int64.l0])
  | succ k1 =>
   have H := HA.out
   clear HA
   simp only [slices_Reverse_int64_int64.l0] at H
   by_cases c3 : x2_1 < x3_1
   ·rw [if_pos c3] at H
    have c3b0 := decide_eq_true c3
    clear c3
    obtain ⟨c4, H⟩ := itn_ H
    have c4b0 := decide_eq_true c4
    clear c4
    obtain ⟨c5, H⟩ := itn_ H
    have c5b0 := decide_eq_true c5
    (try (have c5z0 := c5b0; simp only [hl0_1] at c5z0))
    clear c5
    obtain ⟨c6, H⟩ := itn_ H
    have c6b0 := decide_eq_true c6
    clear c6
    obtain ⟨c7, H⟩ := itn_ H
    have c7b0 := decide_eq_true c7
    (try (have c7z0 := c7b0; simp only [hl0_1] at c7z0))
    clear c7
    obtain ⟨y612, Ny612, H⟩ : ∃ y612 : List Int, Aside0 (y612 = (x0_1.set (x2_1 : Int).toNat (rd x0_1 x3_1))) ∧ (slices_Reverse_int64_int64.l0 k1 (y612.set (x3_1 : Int).toNat (rd x0_1 x2_1)) (wrap64 (x2_1 + 1)) (wrap64 (x3_1 - 1))) = some r := ⟨_, ⟨rfl⟩, H⟩
    obtain ⟨y613, Ny613, H⟩ : ∃ y613 : List Int, Aside0 (y613 = (y612.set (x3_1 : Int).toNat (rd x0_1 x2_1))) ∧ (slices_Reverse_int64_int64.l0 k1 y613 (wrap64 (x2_1 + 1)) (wrap64 (x3_1 - 1))) = some r := ⟨_, ⟨rfl⟩, H⟩
    have H' := m_ H
    clear H
    try go_wp2
    replace HO_0 := m_ (Kd.R_drew HO_0.out)
    replace HK := m_ (Kept.drew HK.out)
    replace HB := m_ (below_drew1 HB.out)
    have p610 : 0 ≤ (x3_1 : Int) := od_
    have q610 : x3_1 < (x0_1.length : Int) := od_
    obtain ⟨ad610, e610, hx610_0⟩ := Kd.at_int (Kd.R_reads' HO_0.out).2.2 x3_1 p610 q610
    cases e610
    replace p610 := eq_true p610
    replace q610 := eq_true q610
    have p611 : 0 ≤ (x2_1 : Int) := od_
    have q611 : x2_1 < (x0_1.length : Int) := od_
    obtain ⟨ad611, e611, hx611_0⟩ := Kd.at_int (Kd.R_reads' HO_0.out).2.2 x2_1 p611 q611
    obtain rfl : ad610 = ad611 := (by injection e611)
    replace p611 := eq_true p611
    replace q611 := eq_true q611
    have p8 : 0 ≤ (x2_1 : Int) := od_
    have q8 : (x2_1 : Int) < ((x0_1.length : Int) : Int) := od_
    obtain ⟨go8, co8, eo8, gb8, gl8, cl8, HG8⟩ := Kd.R_form HO_0.out (by omega)
    (first | cases eo8 | (injection eo8 with ea_ en_ ec_; (first | subst ea_ | (injection ea_ with ea_; subst ea_)); subst ec_; clear en_))
    have GB8 := m_ gb8
    have GG8 := m_ HG8
    clear gb8 gl8 HG8
    have HMgo8 := m_ (show (P0_ go8 ∨ w.heap.size ≤ go8) from (HO_0.out.1 _ rfl))
    (first | simp only [add_plain] at hx610_0 | skip)
    (first | simp only [add_plain] at hx611_0 | skip)
    obtain ⟨hx8_0, hf8_0⟩ := Kd.R_celln 0 HO_0.out (x2_1 : Int) p8 q8
    replace p8 := eq_true p8
    replace q8 := eq_true q8
    have HP11 := Kd.R_putn HO_0.out (x2_1 : Int) (rd x0_1 x3_1)
    rw [← Ny612.out] at HP11
    have HQ11 := m_ HP11
    clear HP11
    have p9 : 0 ≤ (x3_1 : Int) := od_
    have q9 : (x3_1 : Int) < ((x0_1.length : Int) : Int) := od_
    obtain ⟨hx9_0, hf9_0⟩ := Kd.R_celln 0 HQ11.out (x3_1 : Int) p9 q9
    replace p9 := eq_true p9
    replace q9 := eq_true q9
    have HP12 := Kd.R_putn HQ11.out (x3_1 : Int) (rd x0_1 x2_1)
    rw [← Ny613.out] at HP12
    have HQ12 := m_ HP12
    clear HP12
    refine start_ (n := 16) (S := fun w' => w'.cell? ⟨go8, (x3_1).toNat, none⟩ = some (.int .i64 (rd x0_1 x3_1)) ∧ w'.cell? ⟨go8, (x2_1).toNat, none⟩ = some (.int .i64 (rd x0_1 x2_1))) (ds := [13, 15]) #[false, false, false, false, false, false, false, false, false, false, false, false, false, false, false, false] (by kernel_rfl) rfl rfl ⟨hx610_0, hx611_0⟩ (fun hHeld => ?_); refine with_tabW slices_Reverse_int64_int64.tab3 slices_Reverse_int64_int64.bits3 (fun HT_ HW_ => ?_)
    generalize wr.drew = w10 at HO_0 HK HB GG8 HQ11 HQ12 hf8_0 hf9_0 hx610_0 hx611_0 hx8_0 hx9_0 hHeld ⊢
    refine pk_ 0 16 14 1 ?_
    refine pk_ 1 16 15 3 ?_
    refine pk_ 2 16 16 7 ?_
    refine pk_ 3 16 17 15 ?_
    refine pk_ 4 16 18 31 ?_
    refine pk_ 5 16 19 63 ?_
    refine pk_ 6 16 20 127 ?_
    refine pk_ 8 16 22 383 ?_
    refine pk_ 9 16 23 895 ?_
    refine pk_ 10 16 24 1919 ?_
    refine tk_ 7 16 21 2047 hHeld ?_
    refine tk_ 11 16 25 4095 hHeld ?_
    refine pk_ 12 16 26 8191 ?_
    refine last_ (i := 13) (N := none) #[true, true, true, true, true, true, true, true, true, true, true, true, true, true, false, false] rfl rfl (one_of HT_.out (by kernel_rfl)) (by decide) (fun K hK => ?_)
    refine skip_ (w1 := ?_) (by rfl) rfl ?_ ?_
    rotate_left
    ·go_simp
     rfl
    refine hK.out _ _ ?_
    clear hK K
    refine pk_ 14 16 27 32767 ?_
    refine last_ (i := 15) (N := none) #[true, true, true, true, true, true, true, true, true, true, true, true, true, true, true, true] rfl rfl (one_of HT_.out (by kernel_rfl)) (by decide) (fun K hK => ?_)
    refine skip_ (w1 := ?_) (by rfl) rfl ?_ ?_
    rotate_left
    ·go_simp
     rfl
    refine hK.out _ _ ?_
    clear hK K
    refine done_ (done_of HT_.out (by kernel_rfl)) ?_
    try go_wp2
    (try simp only [← hl0_1])
    go_roundg k1
    case measure => have := HK1.out; omega
    case rel => exact ⟨(y613), (wrap64 (x2_1 + 1)), (wrap64 (x3_1 - 1)), es_, es_, H', ⟨by have := HK1.out; omega⟩, ⟨by (try simp only [hl0_1]); (with_reducible repeat (first | apply Kd.R_alloc | apply Kd.R_drewN | apply Kd.R_drew)); exact HQ12.out⟩, ⟨by repeat (first | (with_reducible first | exact HK.out | apply Kept.alloc | apply Kept.drewN | apply Kept.drew | refine Kept.setCell ?_ HMgo8.out _ | refine Kept.setCell ?_ HMgo8.out _) | exact HK.out)⟩, ⟨hbs_⟩⟩
   ·rw [if_neg c3] at H
    have c3b0 := decide_eq_false c3
    clear c3
    obtain rfl := Option.some.inj H
    go_wp2
    first | go_end0 | ((try simp only [Exit.inBlock, Exit.then]); refine bodyPost_ret (results_none rfl _ _ _) rfl ?_)
    exact ⟨er_, (by first | exact (Kd.R_below HO_0.out bgo_) | (simp only [hl0_1]; exact (Kd.R_below HO_0.out bgo_))), hb_, by repeat (first | (with_reducible first | exact HK.out | apply Kept.alloc | apply Kept.drewN | apply Kept.drew) | exact HK.out)⟩

/-! ### impl_TypeOfWalk: function 14 -/
mutual
def impl_TypeOfWalk.l0 : Nat → List Int → List Int → List Bool → Int → Int → Option (List Int × Int)
 | 0, _, _, _, _, _ => none
 | k + 1, x6, x8, x9, x27, x28 => if x28 < x27 then (impl_TypeOfWalk.l1 k x6 x8 x9 0 x28 x27 x28) else ((slices_Sort_int64_int64.f k x8).bind fun t625 => ((slices_Reverse_int64_int64.f k t625).bind fun t626 => (some (t626, 0))))
def impl_TypeOfWalk.l1 : Nat → List Int → List Int → List Bool → Int → Int → Int → Int → Option (List Int × Int)
 | 0, _, _, _, _, _, _, _ => none
 | k + 1, x6, x8, x9, x11, x12, x27, x28 => if 0 ≤ x12 then (if x12 < (x9.length : Int) then (if rdOf false x9 x12 = true then (if x11 > 0 then (if x8.length < 17592186044416 then (impl_TypeOfWalk.l0 k x6 (x8 ++ [x11]) x9 x27 (wrap64 (x28 + 1))) else (none)) else (impl_TypeOfWalk.l0 k x6 x8 x9 x27 (wrap64 (x28 + 1)))) else (if x12 < (x6.length : Int) then (impl_TypeOfWalk.l1 k x6 x8 (x9.set (x12 : Int).toNat true) (wrap64 (x11 + 1)) (rd x6 x12) x27 x28) else (none))) else (none)) else (none)
end
def impl_TypeOfWalk.f (k : Nat) (a0_0 : Int) (l0_1 : List (List Int)) (a0_2 : Int) (l0_3 : List (List Int)) (l1 : List Int) : Option (List Int × Int) := (impl_PermutationOfWalk.f k a0_0 l0_1 a0_2 l0_3 l1).bind fun bt615 => (if bt615.2 = 0 then (if 0 ≤ (bt615.1.length : Int) then (if ((bt615.1.length : Int) : Int).toNat ≤ 281474976710656 then (impl_TypeOfWalk.l0 k bt615.1 (([] : List Int)) (List.replicate ((bt615.1.length : Int) : Int).toNat false) (bt615.1.length : Int) 0) else (none)) else (none)) else (some (([] : List Int), bt615.2)))
theorem impl_TypeOfWalk.mono_l : ∀ k, (∀ y0 y1 y2 y3 y4, LeO (impl_TypeOfWalk.l0 k y0 y1 y2 y3 y4) (impl_TypeOfWalk.l0 (k + 1) y0 y1 y2 y3 y4)) ∧ (∀ y0 y1 y2 y3 y4 y5 y6, LeO (impl_TypeOfWalk.l1 k y0 y1 y2 y3 y4 y5 y6) (impl_TypeOfWalk.l1 (k + 1) y0 y1 y2 y3 y4 y5 y6))
 | 0 => ⟨fun _ _ _ _ _ r h => by simp [impl_TypeOfWalk.l0] at h, fun _ _ _ _ _ _ _ r h => by simp [impl_TypeOfWalk.l1] at h⟩
 | k + 1 => by
  obtain ⟨ih0, ih1⟩ := impl_TypeOfWalk.mono_l k
  refine ⟨?_, ?_⟩
  ·intro y0 y1 y2 y3 y4
   unfold impl_TypeOfWalk.l0
   repeat' first
   | (with_reducible exact ih0 _ _ _ _ _)
   | (with_reducible exact ih1 _ _ _ _ _ _ _)
   | (with_reducible exact impl_PermutationOfWalk.mono _ _ _ _ _ _)
   | (with_reducible exact slices_Reverse_int64_int64.mono _ _)
   | (with_reducible exact slices_Sort_int64_int64.mono _ _)
   | (with_reducible exact LeO.refl _)
   | (with_reducible exact LeO.none _)
   | (with_reducible refine LeO.ite ?_ ?_)
   | (with_reducible refine LeO.bind ?_ (fun _ => ?_))
  ·intro y0 y1 y2 y3 y4 y5 y6
   unfold impl_TypeOfWalk.l1
   repeat' first
   | (with_reducible exact ih0 _ _ _ _ _)
   | (with_reducible exact ih1 _ _ _ _ _ _ _)
   | (with_reducible exact impl_PermutationOfWalk.mono _ _ _ _ _ _)
   | (with_reducible exact slices_Reverse_int64_int64.mono _ _)
   | (with_reducible exact slices_Sort_int64_int64.mono _ _)
   | (with_reducible exact LeO.refl _)
   | (with_reducible exact LeO.none _)
   | (with_reducible refine LeO.ite ?_ ?_)
   | (with_reducible refine LeO.bind ?_ (fun _ => ?_))
set_option maxHeartbeats 8000000 in
set_option maxRecDepth 100000 in
theorem impl_TypeOfWalk.calls (k : Nat) (a0_0 : Int) (A0_1 : Option Addr) (c0_1 : Nat) (l0_1 : List (List Int)) (a0_2 : Int) (A0_3 : Option Addr) (c0_3 : Nat) (l0_3 : List (List Int)) (A1 : Option Addr) (c1 : Nat) (l1 : List Int) (r1 : List Int) (r2 : Int) (w : World) (hr0_1 : Kd.C (Kd.slice 2 (Kd.int .i64)) w A0_1 l0_1.length l0_1) (hc0_1 : l0_1.length ≤ c0_1) (hr0_3 : Kd.C (Kd.slice 2 (Kd.int .i64)) w A0_3 l0_3.length l0_3) (hc0_3 : l0_3.length ≤ c0_3) (hr1 : Kd.C (Kd.int .i64) w A1 l1.length l1) (hc1 : l1.length ≤ c1) (h : impl_TypeOfWalk.f k a0_0 l0_1 a0_2 l0_3 l1 = some (r1, r2)) :
  Calls Try.prog 14 #[.agg #[.int .i64 a0_0, .slice A0_1 l0_1.length c0_1, .int .i64 a0_2, .slice A0_3 l0_3.length c0_3], .slice A1 l1.length c1] w fun e w' => ∃ v0_ : Value, e = .returned (.tuple #[v0_, .int .i64 r2]) ∧ Kd.R (Kd.int .i64) 2 w' w.heap.size (fun _ => True) v0_ r1 ∧ Below w.heap.size w w' := by
 have hu28 := Try.underlying28
 have HR0_1 := m_ hr0_1
 have HC0_1 := m_ hc0_1
 clear hr0_1 hc0_1
 have HR0_3 := m_ hr0_3
 have HC0_3 := m_ hc0_3
 clear hr0_3 hc0_3
 have HR1 := m_ hr1
 have HC1 := m_ hc1
 clear hr1 hc1
 have HB := m_ (Below.refl w.heap.size w)
 have H : ((impl_PermutationOfWalk.f k a0_0 l0_1 a0_2 l0_3 l1).bind fun bt615 => (if bt615.2 = 0 then (if 0 ≤ (bt615.1.length : Int) then (if ((bt615.1.length : Int) : Int).toNat ≤ 281474976710656 then (impl_TypeOfWalk.l0 k bt615.1 (([] : List Int)) (List.replicate ((bt615.1.length : Int) : Int).toNat false) (bt615.1.length : Int) 0) else (none)) else (none)) else (some (([] : List Int), bt615.2)))) = some (r1, r2) := h
 clear h
 obtain ⟨⟨t615, t618⟩, A3, H⟩ := bnd_ H
 dsimp only at H
 by_cases c4 : t618 = 0
 ·rw [if_pos c4] at H
  have c4b0 : (t618 == 0) = true := beq_iff_eq.mpr c4
  have c4b1 : (t618 != 0) = false := bne_eq_false_iff_eq.mpr c4
  clear c4
  obtain ⟨y619, Ny619, H⟩ : ∃ y619 : List Int, Aside0 (y619 = (([] : List Int))) ∧ (if 0 ≤ (t615.length : Int) then (if ((t615.length : Int) : Int).toNat ≤ 281474976710656 then (impl_TypeOfWalk.l0 k t615 y619 (List.replicate ((t615.length : Int) : Int).toNat false) (t615.length : Int) 0) else (none)) else (none)) = some (r1, r2) := ⟨_, ⟨rfl⟩, H⟩
  obtain ⟨c5, H⟩ := itn_ H
  have c5b0 := eq_true c5
  have c5b1 := decide_eq_true c5
  clear c5
  obtain ⟨c6, H⟩ := itn_ H
  have c6b0 := eq_true c6
  have c6b1 := decide_eq_true c6
  clear c6
  obtain ⟨y622, Ny622, H⟩ : ∃ y622 : List Bool, Aside0 (y622 = (List.replicate ((t615.length : Int) : Int).toNat false)) ∧ (impl_TypeOfWalk.l0 k t615 y619 y622 (t615.length : Int) 0) = some (r1, r2) := ⟨_, ⟨rfl⟩, H⟩
  have H' := m_ H
  clear H
  go_enter Try.func14, Try.ntmps14
  try go_wp2_with (first | ((with_reducible refine gate_dst (N := 2) rfl ?_); refine bx_ (N := 2) (cs := #[.int .i64 a0_0, .slice A0_1 l0_1.length c0_1, .int .i64 a0_2, .slice A0_3 l0_3.length c0_3]) (t := 28) ?_; intro gb614 hg w7 hbox hb; have BK614 := m_ (hbox); have GW614 := m_ ((by rw [hg]; exact (below_size hb_) : w.heap.size ≤ gb614)); have GE614 := m_ ((by rw [hg]; exact (below_size hb_) : w.heap.size ≤ gb614)); replace HB := m_ (below_step hb_ hb); clear hb hbox hg; have hcz8_0 := bc0_ BK614.out; have hcz8_1 := bc1_ BK614.out; have hcz8_2 := bc2_ BK614.out; have hcz8_3 := bc3_ BK614.out; have hfz8_0 := blk_frozen BK614.out 0; have hfz8_1 := blk_frozen BK614.out 1; have hfz8_2 := blk_frozen BK614.out 2; have hfz8_3 := blk_frozen BK614.out 3) | ((with_reducible refine gate_callee (f := 11) rfl ?_); refine gl_ (some 16) Try.func11 #[.agg #[.int .i64 a0_0, .slice A0_1 l0_1.length c0_1, .int .i64 a0_2, .slice A0_3 l0_3.length c0_3], .slice A1 l1.length c1] ?_; (with_reducible refine (impl_PermutationOfWalk.calls k a0_0 _ _ l0_1 a0_2 _ _ l0_3 _ _ l1 t615 t618 _ ?side1 ?side2 ?side3 ?side4 ?side5 ?side6 A3.out).mono ?_); (case side1 => exact Kd.C_below (Kd.C_below HR0_1.out HB.out) bgo_); (case side2 => exact HC0_1.out); (case side3 => exact Kd.C_below (Kd.C_below HR0_3.out HB.out) bgo_); (case side4 => exact HC0_3.out); (case side5 => exact Kd.C_below (Kd.C_below HR1.out HB.out) bgo_); (case side6 => exact HC1.out); rintro e w9 ⟨v616, rfl, ho0, hb⟩; refine ⟨_, rfl, ?_⟩; have HO617 := m_ (Kd.R_lower ho0 (below_size hbs_)); replace BK614 := m_ (bb_ BK614.out hb); replace HB := m_ (below_step hbs_ hb); clear hb; (try clear ho0)))
  replace HO617 := m_ (Kd.R_drew HO617.out)
  replace BK614 := m_ (blk_drew BK614.out)
  replace HB := m_ (below_drew1 HB.out)
  obtain ⟨Ao11, co11, eo11⟩ := Kd.R_slice HO617.out
  subst eo11
  refine start_ (n := 6) (S := fun w' => True) (ds := []) #[false, false, false, false, false, false] (by kernel_rfl) rfl rfl trivial (fun hHeld => ?_)
  generalize w9.drew = w10 at HO617 BK614 HB hHeld ⊢
  refine pure_ (i := 1) (N := some 23) (v := ?_) (a' := ?_) #[false, true, false, false, false, false] rfl rfl (by kernel_rfl) (fun _ _ _ h => h) (Or.inl ⟨by rfl, ?_⟩) ?_ ?_
  rotate_left
  ·intro w'
   go_simp
   with_reducible rfl
  rotate_left
  ·simp only [Act.put, nf_]
   rfl
  refine pure_ (i := 2) (N := some 24) (v := ?_) (a' := ?_) #[false, true, true, false, false, false] rfl rfl (by kernel_rfl) (fun _ _ _ h => h) (Or.inl ⟨by rfl, ?_⟩) ?_ ?_
  rotate_left
  ·intro w'
   go_simp
   with_reducible rfl
  rotate_left
  ·simp only [Act.put, nf_]
   rfl
  refine join_ (σ := Value × Value) 1 #[true, true, true, true, true, false] (fun s_ => [(22, s_.1), (25, s_.2), (8, s_.1)]) (fun s_ w' => (Kd.R (Kd.int .i64) 2 w' w.heap.size (fun k_ => some k_ ≠ (s_.1 : Value).ownBlock) (.slice Ao11 t615.length co11) t615) ∧ (Kd.R (Kd.int .i64) 2 w' w.heap.size (fun k_ => some k_ ≠ (.slice Ao11 t615.length co11 : Value).ownBlock) s_.1 y619) ∧ (Kd.R Kd.bool 4 w' w.heap.size (fun _ => True) s_.2 y622) ∧ (w'.heap[gb614]? = some (.cells #[.int .i64 a0_0, .slice A0_1 l0_1.length c0_1, .int .i64 a0_2, .slice A0_3 l0_3.length c0_3] 28 (0, 0))) ∧ (Below w.heap.size w w')) ?_ ?_
  rotate_left
  ·intro hCont
   refine two_ (i := 0) (j := 3) (Ni := some 22) (Nj := some 25) #[true, true, true, false, false, false] #[false, true, true, true, false, false] rfl rfl rfl rfl (by kernel_rfl) (by decide) (by decide) (fun K hK => ?_) (fun K hK => ?_)
   ·skip
    refine Kd.R_lit_step (Kd.int .i64) _ 2 ?hg (N := 22) ?hd (xs := ([] : List Int)) (inner := []) (ok := fun _ => True) (okp := fun _ => True) ?hr ?hp (fun _ hk => hk) trivial (Below.refl _ _) (Nat.le_refl _) (by simp) ?_; (case hd => rfl); (case hg => rfl); (case hr => first | (go_simp; done) | (go_simp; rfl)); (case hp => exact (Reps.none _ _))
    intro v620 w12 ho13 hb hg_ hnew_
    clear hg_ hnew_
    rw [← Ny619.out] at ho13
    have HO621 := m_ (Kd.R_lower (Kd.R_new' ho13 (Kd.R_lt (Kd.R_below HO617.out bgo_))) (below_size hbs_))
    replace HO617 := m_ (Kd.R_elder' (Kd.R_below HO617.out bgo_) (Kd.R_base ho13) hb)
    replace BK614 := m_ (bb_ BK614.out hb)
    replace HB := m_ (below_step hbs_ hb)
    clear hb ho13
    refine hK.out _ _ trivial (fun hHeld => ?_)
    clear hK K
    refine nm_ ?_
    refine pure_ (i := 4) (N := some 8) (v := ?_) (a' := ?_) #[true, true, true, false, true, false] rfl rfl (by kernel_rfl) (fun _ _ _ h => h) (Or.inl ⟨by rfl, ?_⟩) ?_ ?_
    rotate_left
    ·intro w'
     go_simp
     with_reducible rfl
    rotate_left
    ·simp only [Act.put, nf_]
     rfl
    refine one_ (i := 3) (N := some 25) #[true, true, true, true, true, false] rfl rfl (by kernel_rfl) (by decide) (fun K hK => ?_)
    refine Kd.R_make_step Kd.bool _ 4 (by rfl) (N := 25) rfl 80 _ _ rfl (t615.length : Int) rfl rfl Try.underlying80 (.bool false) 1 info4 rfl (by decide) (by omega) false (ok := fun _ => True) (okp := fun _ => True) rfl (fun _ hk => hk) trivial (od_) (Nat.le_trans (Nat.mul_le_mul_right _ (od_ : (t615.length : Int).toNat ≤ 281474976710656)) (by omega)) (Below.refl _ _) (Nat.le_refl _) ?_
    intro v623 w14 ho15 hb hg_ hnew_
    clear hg_ hnew_
    rw [← Ny622.out] at ho15
    replace HO617 := m_ (Kd.R_below (Kd.R_below HO617.out bgo_) hb)
    replace HO621 := m_ (Kd.R_below (Kd.R_below HO621.out bgo_) hb)
    have HO624 := m_ (Kd.R_lower ho15 (below_size hbs_))
    replace BK614 := m_ (bb_ BK614.out hb)
    replace HB := m_ (below_step hbs_ hb)
    clear hb ho15
    refine hK.out _ _ trivial (fun hHeld => ?_)
    clear hK K
    refine nm_ ?_
    exact norm_ (by simp only [putAll, Act.put, List.setIfInBounds_toArray, List.set_cons_zero, List.set_cons_succ]) (hCont (v620, v623) _ ⟨(Kd.R_below (Kd.R_mono HO617.out (fun _ hk => hk.2)) bgo_), (Kd.R_below (Kd.R_mono HO621.out (fun _ hk => hk.2)) bgo_), (Kd.R_below HO624.out bgo_), (blk_below BK614.out bgo_), hbs_⟩)
   ·skip
    refine Kd.R_make_step Kd.bool _ 4 (by rfl) (N := 25) rfl 80 _ _ rfl (t615.length : Int) rfl rfl Try.underlying80 (.bool false) 1 info4 rfl (by decide) (by omega) false (ok := fun _ => True) (okp := fun _ => True) rfl (fun _ hk => hk) trivial (od_) (Nat.le_trans (Nat.mul_le_mul_right _ (od_ : (t615.length : Int).toNat ≤ 281474976710656)) (by omega)) (Below.refl _ _) (Nat.le_refl _) ?_
    intro v623 w12 ho13 hb hg_ hnew_
    clear hg_ hnew_
    rw [← Ny622.out] at ho13
    replace HO617 := m_ (Kd.R_below (Kd.R_below HO617.out bgo_) hb)
    have HO624 := m_ (Kd.R_lower ho13 (below_size hbs_))
    replace BK614 := m_ (bb_ BK614.out hb)
    replace HB := m_ (below_step hbs_ hb)
    clear hb ho13
    refine hK.out _ _ trivial (fun hHeld => ?_)
    clear hK K
    refine nm_ ?_
    refine one_ (i := 0) (N := some 22) #[true, true, true, true, false, false] rfl rfl (by kernel_rfl) (by decide) (fun K hK => ?_)
    refine Kd.R_lit_step (Kd.int .i64) _ 2 ?hg (N := 22) ?hd (xs := ([] : List Int)) (inner := []) (ok := fun _ => True) (okp := fun _ => True) ?hr ?hp (fun _ hk => hk) trivial (Below.refl _ _) (Nat.le_refl _) (by simp) ?_; (case hd => rfl); (case hg => rfl); (case hr => first | (go_simp; done) | (go_simp; rfl)); (case hp => exact (Reps.none _ _))
    intro v620 w14 ho15 hb hg_ hnew_
    clear hg_ hnew_
    rw [← Ny619.out] at ho15
    replace HO624 := m_ (Kd.R_below (Kd.R_below HO624.out bgo_) hb)
    have HO621 := m_ (Kd.R_lower (Kd.R_new' ho15 (Kd.R_lt (Kd.R_below HO617.out bgo_))) (below_size hbs_))
    replace HO617 := m_ (Kd.R_elder' (Kd.R_below HO617.out bgo_) (Kd.R_base ho15) hb)
    replace BK614 := m_ (bb_ BK614.out hb)
    replace HB := m_ (below_step hbs_ hb)
    clear hb ho15
    refine hK.out _ _ trivial (fun hHeld => ?_)
    clear hK K
    refine nm_ ?_
    refine pure_ (i := 4) (N := some 8) (v := ?_) (a' := ?_) #[true, true, true, true, true, false] rfl rfl (by kernel_rfl) (fun _ _ _ h => h) (Or.inl ⟨by rfl, ?_⟩) ?_ ?_
    rotate_left
    ·intro w'
     go_simp
     with_reducible rfl
    rotate_left
    ·simp only [Act.put, nf_]
     rfl
    exact norm_ (by simp only [putAll, Act.put, List.setIfInBounds_toArray, List.set_cons_zero, List.set_cons_succ]) (hCont (v620, v623) _ ⟨(Kd.R_below (Kd.R_mono HO617.out (fun _ hk => hk.2)) bgo_), (Kd.R_below (Kd.R_mono HO621.out (fun _ hk => hk.2)) bgo_), (Kd.R_below HO624.out bgo_), (blk_below BK614.out bgo_), hbs_⟩)
  rintro ⟨v620, v623⟩ w16 ⟨h0_, h1_, h2_, h3_, h4_⟩
  have n0_ : Aside0 (Kd.R (Kd.int .i64) 2 w16 w.heap.size (fun k_ => some k_ ≠ (v620 : Value).ownBlock) (.slice Ao11 t615.length co11) t615) := ⟨h0_⟩
  have n1_ : Aside0 (Kd.R (Kd.int .i64) 2 w16 w.heap.size (fun k_ => some k_ ≠ (.slice Ao11 t615.length co11 : Value).ownBlock) v620 y619) := ⟨h1_⟩
  have n2_ : Aside0 (Kd.R Kd.bool 4 w16 w.heap.size (fun _ => True) v623 y622) := ⟨h2_⟩
  have n3_ : Aside0 (w16.heap[gb614]? = some (.cells #[.int .i64 a0_0, .slice A0_1 l0_1.length c0_1, .int .i64 a0_2, .slice A0_3 l0_3.length c0_3] 28 (0, 0))) := ⟨h3_⟩
  have n4_ : Aside0 (Below w.heap.size w w16) := ⟨h4_⟩
  clear HO617
  clear BK614
  clear HB
  clear h0_ h1_ h2_ h3_ h4_
  have HO617 := n0_
  have HO621 := n1_
  have HO624 := n2_
  have BK614 := n3_
  have HB := n4_
  clear n0_ n1_ n2_ n3_ n4_
  have hHeld := trivial
  refine norm_ (a' := ?_) ?_ ?_
  rotate_left
  ·simp only [putAll, Act.put, List.setIfInBounds_toArray, List.set_cons_zero, List.set_cons_succ]
   rfl
  refine pure_ (i := 5) (N := some 9) (v := ?_) (a' := ?_) #[true, true, true, true, true, true] rfl rfl (by kernel_rfl) (fun _ _ _ h => h) (Or.inl ⟨by rfl, ?_⟩) ?_ ?_
  rotate_left
  ·intro w'
   go_simp
   with_reducible rfl
  rotate_left
  ·simp only [Act.put, nf_]
   rfl
  refine done_ (by kernel_rfl) ?_
  try go_wp2
  go_loopg [8, 28] k (fun kq v8 v28 w' => ∃ (x8_1 : List Int) (x9_1 : List Bool) (x28_1 : Int), v28 = .int .i64 x28_1 ∧ Aside0 (impl_TypeOfWalk.l0 kq t615 x8_1 x9_1 (t615.length : Int) x28_1 = some (r1, r2)) ∧ Aside0 (kq ≤ k) ∧ Aside0 (Kd.R (Kd.int .i64) 2 w' w.heap.size (fun k_ => some k_ ≠ (v8 : Value).ownBlock) (.slice Ao11 t615.length co11) t615) ∧ Aside0 (Kd.R (Kd.int .i64) 2 w' w.heap.size (fun k_ => some k_ ≠ ((.slice Ao11 t615.length co11) : Value).ownBlock) v8 x8_1) ∧ Aside0 (Kd.R Kd.bool 4 w' w.heap.size (fun _ => True) v623 x9_1) ∧ Aside0 (w'.heap[gb614]? = some (.cells #[.int .i64 a0_0, (.slice A0_1 l0_1.length c0_1), .int .i64 a0_2, (.slice A0_3 l0_3.length c0_3)] 28 (0, 0))) ∧ Aside0 (Below w.heap.size w w'))
  case atStart => exact ⟨(y619), (y622), (0), es_, H', ⟨Nat.le_refl _⟩, ⟨Kd.R_below HO617.out bgo_⟩, ⟨Kd.R_below HO621.out bgo_⟩, ⟨Kd.R_below HO624.out bgo_⟩, ⟨blk_below BK614.out bgo_⟩, ⟨hbs_⟩⟩
  case round =>
   clear H'
   obtain ⟨x8_1, x9_1, x28_1, rfl, HA, HK1, HO_6, HO_8, HO_9, BK614, HB⟩ := hrel
   cases gk with
   | zero => exact absurd HA.out (by simp [impl_TypeOfWalk.l0])
   | succ k1 =>
    have H := HA.out
    clear HA
    simp only [impl_TypeOfWalk.l0] at H
    by_cases c17 : x28_1 < (t615.length : Int)
    ·rw [if_pos c17] at H
     have c17b0 := decide_eq_true c17
     clear c17
     have H' := m_ H
     clear H
     go_wp2
     go_loopg [11, 12] k1 (fun kq v11 v12 w' => ∃ (x9_2 : List Bool) (x11_2 : Int) (x12_2 : Int), v11 = .int .i64 x11_2 ∧ v12 = .int .i64 x12_2 ∧ Aside0 (impl_TypeOfWalk.l1 kq t615 x8_1 x9_2 x11_2 x12_2 (t615.length : Int) x28_1 = some (r1, r2)) ∧ Aside0 (kq ≤ k1) ∧ Aside0 (Kd.R (Kd.int .i64) 2 w' w.heap.size (fun k_ => some k_ ≠ (u8 : Value).ownBlock) (.slice Ao11 t615.length co11) t615) ∧ Aside0 (Kd.R (Kd.int .i64) 2 w' w.heap.size (fun k_ => some k_ ≠ ((.slice Ao11 t615.length co11) : Value).ownBlock) u8 x8_1) ∧ Aside0 (Kd.R Kd.bool 4 w' w.heap.size (fun _ => True) v623 x9_2) ∧ Aside0 (w'.heap[gb614]? = some (.cells #[.int .i64 a0_0, (.slice A0_1 l0_1.length c0_1), .int .i64 a0_2, (.slice A0_3 l0_3.length c0_3)] 28 (0, 0))) ∧ Aside0 (Below w.heap.size w w'))
     case atStart => exact ⟨(x9_1), (0), (x28_1), es_, es_, H', ⟨Nat.le_refl _⟩, ⟨Kd.R_below HO_6.out bgo_⟩, ⟨Kd.R_below HO_8.out bgo_⟩, ⟨Kd.R_below HO_9.out bgo_⟩, ⟨blk_below BK614.out bgo_⟩, ⟨hbs_⟩⟩
     case round =>
      clear H'
      obtain ⟨x9_2, x11_2, x12_2, rfl, rfl, HA, HK2, HO_6, HO_8, HO_9, BK614, HB⟩ := hrel
      cases gk with
      | zero => exact absurd HA.out (by simp [impl_TypeOfWalk.l1])
      | succ k2 =>
       have H := HA.out
       clear HA
       simp only [impl_TypeOfWalk.l1] at H
       obtain ⟨c18, H⟩ := itn_ H
       have c18b0 := decide_eq_true c18
       clear c18
       obtain ⟨c19, H⟩ := itn_ H
       have c19b0 := decide_eq_true c19
       clear c19
       obtain ⟨bq20, hbq20⟩ : ∃ b_ : Bool, b_ = (rdOf false x9_2 x12_2) := ⟨_, rfl⟩
       replace H : (if bq20 = true then (if x11_2 > 0 then (if x8_1.length < 17592186044416 then (impl_TypeOfWalk.l0 k2 t615 (x8_1 ++ [x11_2]) x9_2 (t615.length : Int) (wrap64 (x28_1 + 1))) else (none)) else (impl_TypeOfWalk.l0 k2 t615 x8_1 x9_2 (t615.length : Int) (wrap64 (x28_1 + 1)))) else (if x12_2 < (t615.length : Int) then (impl_TypeOfWalk.l1 k2 t615 x8_1 (x9_2.set (x12_2 : Int).toNat true) (wrap64 (x11_2 + 1)) (rd t615 x12_2) (t615.length : Int) x28_1) else (none))) = some (r1, r2) := by rw [← hbq20] at H; exact H
       have Nbq20 := m_ hbq20
       clear hbq20
       by_cases c21 : bq20 = true
       ·subst c21
        have H1 : (if x11_2 > 0 then (if x8_1.length < 17592186044416 then (impl_TypeOfWalk.l0 k2 t615 (x8_1 ++ [x11_2]) x9_2 (t615.length : Int) (wrap64 (x28_1 + 1))) else (none)) else (impl_TypeOfWalk.l0 k2 t615 x8_1 x9_2 (t615.length : Int) (wrap64 (x28_1 + 1)))) = some (r1, r2) := by rw [if_pos rfl] at H; exact H
        clear H
        have H := H1
        clear H1
        by_cases c22 : x11_2 > 0
        ·rw [if_pos c22] at H
         have c22b0 := decide_eq_true c22
         clear c22
         obtain ⟨c23, H⟩ := itn_ H
         have LMc23 := m_ c23
         clear c23
         obtain ⟨y628, Ny628, H⟩ : ∃ y628 : List Int, Aside0 (y628 = (x8_1 ++ [x11_2])) ∧ (impl_TypeOfWalk.l0 k2 t615 y628 x9_2 (t615.length : Int) (wrap64 (x28_1 + 1))) = some (r1, r2) := ⟨_, ⟨rfl⟩, H⟩
         have H' := m_ H
         clear H
         obtain ⟨Ao24, co24, eo24⟩ := Kd.R_slice HO_9.out
         subst eo24
         have p627 : 0 ≤ (x12_2 : Int) := od_
         have q627 : x12_2 < (x9_2.length : Int) := od_
         obtain ⟨ad627, e627, hx627_0⟩ := Kd.at_bool (Kd.R_reads' HO_9.out).2.2 x12_2 p627 q627
         (try rw [← Nbq20.out] at hx627_0)
         cases e627
         replace p627 := eq_true p627
         replace q627 := eq_true q627
         go_wp2_with (first | ((with_reducible refine gate_builtin (b := .append) (xs := #[.tmp 48, .tmp 50]) rfl ?_); at_builtin; refine Kd.R_append (Kd.int .i64) (w0 := w) w.heap.size rfl (.tmp 48) (.tmp 50) 29 2 (.int .i64 0) 8 rfl Try.underlying29 info2 rfl (by decide) (by omega) u8 x8_1 x11_2 [.int .i64 x11_2] (fun k_ => some k_ ≠ (.slice Ao11 t615.length co11 : Value).ownBlock) (fun _ => False) rfl rfl ?aP (fun _ hk => hk.elim) ?aF ?aO ?aB ?aS ?aL ?_; (case aP => exact rfl); (case aB => exact hbs_); (case aF => exact (fun k_ hk => Kd.fresh' (Kd.R_lt (Kd.R_below HO_6.out bgo_)) k_ hk)); (case aO => exact (Kd.R_below HO_8.out bgo_)); (case aS => exact (below_size hbs_)); (case aL => have := LMc23.out; omega); intro v629 w25 ho hb hg hat; rw [← Ny628.out] at ho; replace HO_6 := m_ (Kd.R_after (ok := (fun _ => True)) (Kd.R_below (Kd.R_mono HO_6.out (fun _ hk => ⟨trivial, hk⟩)) bgo_) hg hat); replace HO_9 := m_ (Kd.R_over' (Kd.R_below HO_9.out bgo_) (Kd.R_typed (Kd.R_below HO_8.out bgo_)) (by decide) hg); replace BK614 := m_ (blk_grown (blk_below BK614.out bgo_) hg (Kd.R_ne HO_8.out BK614.out (by decide))); replace HB := m_ (hb); have HO630 := m_ (ho); clear HO_8; clear ho hb hg hat))
         go_roundg k2
         case measure => have := HK1.out; have := HK2.out; omega
         case rel => exact ⟨(y628), (x9_2), (wrap64 (x28_1 + 1)), es_, H', ⟨by have := HK1.out; have := HK2.out; omega⟩, ⟨by (with_reducible repeat (first | apply Kd.R_alloc | apply Kd.R_drewN | apply Kd.R_drew)); exact Kd.R_mono HO_6.out (fun _ hk => hk.2)⟩, ⟨Kd.R_below HO630.out bgo_⟩, ⟨Kd.R_below HO_9.out bgo_⟩, ⟨blk_below BK614.out bgo_⟩, ⟨hbs_⟩⟩
        ·rw [if_neg c22] at H
         have c22b0 := decide_eq_false c22
         clear c22
         have H' := m_ H
         clear H
         obtain ⟨Ao26, co26, eo26⟩ := Kd.R_slice HO_9.out
         subst eo26
         have p627 : 0 ≤ (x12_2 : Int) := od_
         have q627 : x12_2 < (x9_2.length : Int) := od_
         obtain ⟨ad627, e627, hx627_0⟩ := Kd.at_bool (Kd.R_reads' HO_9.out).2.2 x12_2 p627 q627
         (try rw [← Nbq20.out] at hx627_0)
         cases e627
         replace p627 := eq_true p627
         replace q627 := eq_true q627
         go_wp2
         go_roundg k2
         case measure => have := HK1.out; have := HK2.out; omega
         case rel => exact ⟨(x8_1), (x9_2), (wrap64 (x28_1 + 1)), es_, H', ⟨by have := HK1.out; have := HK2.out; omega⟩, ⟨Kd.R_below HO_6.out bgo_⟩, ⟨Kd.R_below HO_8.out bgo_⟩, ⟨Kd.R_below HO_9.out bgo_⟩, ⟨blk_below BK614.out bgo_⟩, ⟨hbs_⟩⟩
       ·replace c21 := Bool.eq_false_iff.mpr c21
        subst c21
        have H1 : (if x12_2 < (t615.length : Int) then (impl_TypeOfWalk.l1 k2 t615 x8_1 (x9_2.set (x12_2 : Int).toNat true) (wrap64 (x11_2 + 1)) (rd t615 x12_2) (t615.length : Int) x28_1) else (none)) = some (r1, r2) := by rw [if_neg (show ¬ (false = true) by decide)] at H; exact H
        clear H
        have H := H1
        clear H1
        obtain ⟨y631, Ny631, H⟩ : ∃ y631 : List Bool, Aside0 (y631 = (x9_2.set (x12_2 : Int).toNat true)) ∧ (if x12_2 < (t615.length : Int) then (impl_TypeOfWalk.l1 k2 t615 x8_1 y631 (wrap64 (x11_2 + 1)) (rd t615 x12_2) (t615.length : Int) x28_1) else (none)) = some (r1, r2) := ⟨_, ⟨rfl⟩, H⟩
        obtain ⟨c28, H⟩ := itn_ H
        have c28b0 := decide_eq_true c28
        clear c28
        have H' := m_ H
        clear H
        obtain ⟨Ao29, co29, eo29⟩ := Kd.R_slice HO_9.out
        subst eo29
        have p627 : 0 ≤ (x12_2 : Int) := od_
        have q627 : x12_2 < (x9_2.length : Int) := od_
        obtain ⟨ad627, e627, hx627_0⟩ := Kd.at_bool (Kd.R_reads' HO_9.out).2.2 x12_2 p627 q627
        (try rw [← Nbq20.out] at hx627_0)
        cases e627
        replace p627 := eq_true p627
        replace q627 := eq_true q627
        have p27 : 0 ≤ (x12_2 : Int) := od_
        have q27 : (x12_2 : Int) < ((x9_2.length : Int) : Int) := od_
        obtain ⟨go27, co27, eo27, gb27, gl27, cl27, HG27⟩ := Kd.R_form HO_9.out (by omega)
        (first | cases eo27 | (injection eo27 with ea_ en_ ec_; (first | subst ea_ | (injection ea_ with ea_; subst ea_)); subst ec_; clear en_))
        have GB27 := m_ gb27
        have GG27 := m_ HG27
        clear gb27 gl27 HG27
        (first | simp only [add_plain] at hx627_0 | skip)
        obtain ⟨hx27_0, hf27_0⟩ := Kd.R_celln false HO_9.out (x12_2 : Int) p27 q27
        replace p27 := eq_true p27
        replace q27 := eq_true q27
        have HP30 := Kd.R_putg HO_9.out (x12_2 : Int) true
        go_wp2_with (first | ((with_reducible refine gate_store (t := 4) (p := 43) rfl ?_); refine store_event (t := 4) (p := 43) (v := ?vo_w31) (w1 := (wr.setCell ⟨go27, (x12_2 : Int).toNat, none⟩ (.bool true))) ?hg ?ho ?hn ?hr ?_; (case ho => rfl); (case hg => rfl); (case hn => rfl); (case hr => first | (go_simp; done) | (go_simp; rfl)); intro w31 hw; have hg : wr.grownBy w31 (some go27) := (by rw [hw]; exact HP30.2); have hp_ : Kd.R Kd.bool 4 w31 w.heap.size (fun _ => True) (.slice (some ⟨go27, 0, none⟩) x9_2.length co29) y631 := (by rw [hw, Ny631.out]; exact HP30.1); clear HP30; replace HO_6 := m_ (Kd.R_over' (v := (.slice (some ⟨go27, 0, none⟩) x9_2.length co29)) (Kd.R_below HO_6.out bgo_) (Kd.R_typed HO_9.out) (by decide) hg); replace HO_8 := m_ (Kd.R_over' (v := (.slice (some ⟨go27, 0, none⟩) x9_2.length co29)) (Kd.R_below HO_8.out bgo_) (Kd.R_typed HO_9.out) (by decide) hg); replace BK614 := m_ (blk_grown (blk_below BK614.out bgo_) hg (Kd.R_ne HO_9.out BK614.out (by decide))); replace HO_9 := m_ (hp_); replace HB := m_ ((by rw [hw]; exact below_set (HB.out) GB27.out : Below w.heap.size w w31)); clear hg hw hp_; have p632 : 0 ≤ (x12_2 : Int) := od_; have q632 : x12_2 < (t615.length : Int) := od_; obtain ⟨ad632, e632, hx632_0⟩ := Kd.at_int (Kd.R_reads' HO_6.out).2.2 x12_2 p632 q632; cases e632; replace p632 := eq_true p632; replace q632 := eq_true q632))
        go_roundg k2
        case measure => have := HK1.out; have := HK2.out; omega
        case rel => exact ⟨(y631), (wrap64 (x11_2 + 1)), (rd t615 x12_2), es_, es_, H', ⟨by have := HK1.out; have := HK2.out; omega⟩, ⟨Kd.R_below HO_6.out bgo_⟩, ⟨Kd.R_below HO_8.out bgo_⟩, ⟨Kd.R_below HO_9.out bgo_⟩, ⟨blk_below BK614.out bgo_⟩, ⟨hbs_⟩⟩
    ·rw [if_neg c17] at H
     have c17b0 := decide_eq_false c17
     clear c17
     obtain ⟨t625, A32, H⟩ := bnd_ H
     obtain ⟨t626, A33, H⟩ := bnd_ H
     simp only [Option.some.injEq, Prod.mk.injEq] at H
     obtain ⟨rfl, rfl⟩ := H
     obtain ⟨Ao34, co34, eo34⟩ := Kd.R_slice HO_8.out
     subst eo34
     go_wp2_with (first | ((with_reducible refine gate_callee (f := 111) rfl ?_); refine gl_ (some 54) Try.func111 #[.slice Ao34 x8_1.length co34] ?_; (with_reducible refine (slices_Sort_int64_int64.calls k1 (fun k_ => some k_ = (.slice Ao34 x8_1.length co34 : Value).ownBlock) (.slice Ao34 x8_1.length co34) x8_1 t625 w _ ?side1 ?side2 A32.out).mono ?_); (case side1 => repeat (first | (with_reducible first | exact HB.out | apply below_alloc | apply pw_below_drewN | apply below_drew1 | refine below_set ?_ GE614.out) | exact HB.out)); (case side2 => exact Kd.R_tight rfl HO_8.out); rintro e w35 ⟨rfl, hy0, hb, hkp⟩; refine ⟨_, rfl, ?_⟩; replace HO_6 := m_ (Kd.R_mono (ok' := fun k_ => some k_ ≠ (.slice Ao34 x8_1.length co34 : Value).ownBlock) (Kd.R_keptB (HO_6.out) hkp (fun k_ hk_ hs_ => (hk_) hs_)) (fun k_ hk_ => hk_.1)); replace HO_9 := m_ (Kd.R_mono (ok' := fun k_ => True) (Kd.R_keptB ((Kd.R_apart' HO_9.out (Kd.R_typed HO_8.out) (by decide))) hkp (fun k_ hk_ hs_ => (hk_.2) hs_)) (fun k_ hk_ => trivial)); replace BK614 := m_ (blk_kept (blk_below BK614.out bgo_) hkp (fun hs_ => (fun e_ => (Kd.R_ne HO_8.out BK614.out (by decide)) e_) hs_)); replace HO_8 := m_ (Kd.R_reok rfl hy0 (fun k_ e_ => HO_8.out.1 k_ e_)); replace HB := m_ (hb); (try clear hb); (try clear hkp); (try clear hy0)) | ((with_reducible refine gate_callee (f := 112) rfl ?_); refine gl_ (some 56) Try.func112 #[.slice Ao34 x8_1.length co34] ?_; (with_reducible refine (slices_Reverse_int64_int64.calls k1 (fun k_ => some k_ = (.slice Ao34 x8_1.length co34 : Value).ownBlock) (.slice Ao34 x8_1.length co34) t625 t626 w _ ?side1 ?side2 A33.out).mono ?_); (case side1 => repeat (first | (with_reducible first | exact HB.out | apply below_alloc | apply pw_below_drewN | apply below_drew1 | refine below_set ?_ GE614.out) | exact HB.out)); (case side2 => exact Kd.R_tight rfl HO_8.out); rintro e w36 ⟨rfl, hy0, hb, hkp⟩; refine ⟨_, rfl, ?_⟩; replace HO_6 := m_ (Kd.R_mono (ok' := fun k_ => some k_ ≠ (.slice Ao34 x8_1.length co34 : Value).ownBlock) (Kd.R_keptB (HO_6.out) hkp (fun k_ hk_ hs_ => (hk_) hs_)) (fun k_ hk_ => hk_.1)); replace HO_9 := m_ (Kd.R_mono (ok' := fun k_ => True) (Kd.R_keptB ((Kd.R_apart' HO_9.out (Kd.R_typed HO_8.out) (by decide))) hkp (fun k_ hk_ hs_ => (hk_.2) hs_)) (fun k_ hk_ => trivial)); replace BK614 := m_ (blk_kept (blk_below BK614.out bgo_) hkp (fun hs_ => (fun e_ => (Kd.R_ne HO_8.out BK614.out (by decide)) e_) hs_)); replace HO_8 := m_ (Kd.R_reok rfl hy0 (fun k_ e_ => HO_8.out.1 k_ e_)); replace HB := m_ (hb); (try clear hb); (try clear hkp); (try clear hy0)))
     go_ret2
     exact ⟨_, er_, by (with_reducible repeat (first | apply Kd.R_alloc | apply Kd.R_drewN | apply Kd.R_drew)); exact Kd.R_mono HO_8.out (fun _ hk => trivial), hbs_⟩
 ·rw [if_neg c4] at H
  have c4b0 : (t618 == 0) = false := beq_eq_false_iff_ne.mpr c4
  have c4b1 : (t618 != 0) = true := bne_iff_ne.mpr c4
  simp only [Option.some.injEq, Prod.mk.injEq] at H
  obtain ⟨rfl, rfl⟩ := H
  go_enter Try.func14, Try.ntmps14
  go_wp2_with (first | ((with_reducible refine gate_dst (N := 2) rfl ?_); refine bx_ (N := 2) (cs := #[.int .i64 a0_0, .slice A0_1 l0_1.length c0_1, .int .i64 a0_2, .slice A0_3 l0_3.length c0_3]) (t := 28) ?_; intro gb614 hg w37 hbox hb; have BK614 := m_ (hbox); have GW614 := m_ ((by rw [hg]; exact (below_size hb_) : w.heap.size ≤ gb614)); have GE614 := m_ ((by rw [hg]; exact (below_size hb_) : w.heap.size ≤ gb614)); replace HB := m_ (below_step hb_ hb); clear hb hbox hg; have hcz38_0 := bc0_ BK614.out; have hcz38_1 := bc1_ BK614.out; have hcz38_2 := bc2_ BK614.out; have hcz38_3 := bc3_ BK614.out; have hfz38_0 := blk_frozen BK614.out 0; have hfz38_1 := blk_frozen BK614.out 1; have hfz38_2 := blk_frozen BK614.out 2; have hfz38_3 := blk_frozen BK614.out 3) | ((with_reducible refine gate_callee (f := 11) rfl ?_); refine gl_ (some 16) Try.func11 #[.agg #[.int .i64 a0_0, .slice A0_1 l0_1.length c0_1, .int .i64 a0_2, .slice A0_3 l0_3.length c0_3], .slice A1 l1.length c1] ?_; (with_reducible refine (impl_PermutationOfWalk.calls k a0_0 _ _ l0_1 a0_2 _ _ l0_3 _ _ l1 t615 t618 _ ?side1 ?side2 ?side3 ?side4 ?side5 ?side6 A3.out).mono ?_); (case side1 => exact Kd.C_below (Kd.C_below HR0_1.out HB.out) bgo_); (case side2 => exact HC0_1.out); (case side3 => exact Kd.C_below (Kd.C_below HR0_3.out HB.out) bgo_); (case side4 => exact HC0_3.out); (case side5 => exact Kd.C_below (Kd.C_below HR1.out HB.out) bgo_); (case side6 => exact HC1.out); rintro e w39 ⟨v616, rfl, ho0, hb⟩; refine ⟨_, rfl, ?_⟩; have HO617 := m_ (Kd.R_lower ho0 (below_size hbs_)); replace BK614 := m_ (bb_ BK614.out hb); replace HB := m_ (below_step hbs_ hb); clear hb; (try clear ho0)))
  go_ret2
  exact ⟨_, er_, by first | exact Kd.R_nil _ _ _ _ _ | exact Kd.N_nil _ _ _ _ _ | exact Kd.V_nil _ _ _ _ _ | exact Kd.Q_nil _ _ _ _ _ | exact Kd.S_nil _ _ _ _ _, hbs_⟩

/-! ### spec_TypeOfWalk: function 15 -/
theorem spec_TypeOfWalk.row4 {w : World} {g base : Nat} (h : w.heap[g]? = some (.cells #[.bool false, .bool false, .bool false, .bool false] 82 (0, 0))) (hb : base ≤ g) : Kd.R Kd.bool 82 w base (fun _ => True) (.slice (some ⟨g, 0, none⟩) 4 4) (List.replicate 4 false) :=
 ⟨fun _ _ => trivial, [.bool false, .bool false, .bool false, .bool false], ⟨rfl, .inr ⟨g, 4, #[.bool false, .bool false, .bool false, .bool false], rfl, hb, h, Nat.le_refl _, by decide, rfl, rfl⟩⟩, Kd.reps_scalar (enc := Value.bool) (List.replicate 4 false)⟩
theorem spec_TypeOfWalk.len4 {w : World} {e g base : Nat} {ok : Nat → Prop} {xs : List Bool} (h : Kd.R Kd.bool e w base ok (.slice (some ⟨g, 0, none⟩) 4 4) xs) : xs.length = 4 := by
 obtain ⟨A, c, e⟩ := Kd.R_slice h
 injection e with _ e _
 exact e.symm
theorem spec_TypeOfWalk.same1 {w : World} {g i : Nat} {v : Value} {cs : Array Value} {t : Nat} {f : Nat × Nat} (h : w.heap[g]? = some (.cells cs t f)) (hi : cs[i]? = some v) : w.setCell ⟨g, i, none⟩ v = w := by
 have e : w.heap.modify g (fun | .cells c elem frozen => .cells (if (none : Option Nat).isSome then c else c.setIfInBounds i v) elem frozen | o => o) = w.heap := by
  apply Array.ext
  ·simp
  ·intro k h1 h2
   rw [Array.getElem_modify]
   split
   ·next hk =>
    subst hk
    have hg : w.heap[g]? = some w.heap[g] := Array.getElem?_eq_getElem h2
    rw [h] at hg
    rw [← Option.some.inj hg]
    have : cs.setIfInBounds i v = cs := by
     apply Array.ext
     ·simp
     ·intro m m1 m2
      rw [Array.getElem_setIfInBounds]
      split
      ·next hm =>
       subst hm
       rw [Array.getElem?_eq_getElem m2] at hi
       exact (Option.some.inj hi).symm
      ·rfl
    simp [this]
   ·rfl
 unfold World.setCell
 exact congrArg (fun z => { w with heap := z }) e
theorem spec_TypeOfWalk.same4 {w : World} {g : Nat} {t : Nat} {f : Nat × Nat} (h : w.heap[g]? = some (.cells #[.bool false, .bool false, .bool false, .bool false] t f)) : (((w.setCell ⟨g, 0, none⟩ (.bool false)).setCell ⟨g, 1, none⟩ (.bool false)).setCell ⟨g, 2, none⟩ (.bool false)).setCell ⟨g, 3, none⟩ (.bool false) = w := by
 rw [spec_TypeOfWalk.same1 h rfl, spec_TypeOfWalk.same1 h rfl, spec_TypeOfWalk.same1 h rfl, spec_TypeOfWalk.same1 h rfl]
mutual
def spec_TypeOfWalk.l0 : Nat → List Int → List Bool → List Int → Int → Int → List (List Int) → Int → List (List Int) → Option (List Int × Int)
 | 0, _, _, _, _, _, _, _, _ => none
 | k + 1, x6, x8, x9, x10, x169000, x169001, x169002, x169003 => if x10 < x169002 then (spec_TypeOfWalk.l1 k x6 x8 x9 x10 0 x10 x169000 x169001 x169002 x169003) else (some (x9, 0))
def spec_TypeOfWalk.l1 : Nat → List Int → List Bool → List Int → Int → Int → Int → Int → List (List Int) → Int → List (List Int) → Option (List Int × Int)
 | 0, _, _, _, _, _, _, _, _, _, _ => none
 | k + 1, x6, x8, x9, x10, x11, x12, x169000, x169001, x169002, x169003 => if 0 ≤ x12 then (if x12 < (x8.length : Int) then (if rdOf false x8 x12 = true then (spec_TypeOfWalk.l2 k x6 x8 x9 x10 x11 (x9.length : Int) x169000 x169001 x169002 x169003) else (if x12 < (x6.length : Int) then (spec_TypeOfWalk.l1 k x6 (x8.set (x12 : Int).toNat true) x9 x10 (wrap64 (x11 + 1)) (rd x6 x12) x169000 x169001 x169002 x169003) else (none))) else (none)) else (none)
def spec_TypeOfWalk.l2 : Nat → List Int → List Bool → List Int → Int → Int → Int → Int → List (List Int) → Int → List (List Int) → Option (List Int × Int)
 | 0, _, _, _, _, _, _, _, _, _, _ => none
 | k + 1, x6, x8, x9, x10, x11, x13, x169000, x169001, x169002, x169003 => if x13 > 0 then (if 0 ≤ (wrap64 (x13 - 1)) then (if (wrap64 (x13 - 1)) < (x9.length : Int) then (if (rd x9 (wrap64 (x13 - 1))) < x11 then (spec_TypeOfWalk.l2 k x6 x8 x9 x10 x11 (wrap64 (x13 - 1)) x169000 x169001 x169002 x169003) else (if x11 > 0 then ((some (([x11] : List Int) : List Int)).bind fun y183 => (if 0 ≤ x13 then (if x13 ≤ (x9.length : Int) then ((some (x9.drop (x13 : Int).toNat : List Int)).bind fun y186 => (if y183.length + y186.length < 17592186044416 then ((some (y183 ++ y186 : List Int)).bind fun y190 => ((spec_l01Own.f (x9.take (x13 : Int).toNat)).bind fun t197 => (if t197.length + y190.length < 17592186044416 then (spec_TypeOfWalk.l0 k x6 x8 (t197 ++ y190) (wrap64 (x10 + 1)) x169000 x169001 x169002 x169003) else (none)))) else (none))) else (none)) else (none))) else (spec_TypeOfWalk.l0 k x6 x8 x9 (wrap64 (x10 + 1)) x169000 x169001 x169002 x169003))) else (none)) else (none)) else (if x11 > 0 then ((some (([x11] : List Int) : List Int)).bind fun y203 => (if 0 ≤ x13 then (if x13 ≤ (x9.length : Int) then ((some (x9.drop (x13 : Int).toNat : List Int)).bind fun y206 => (if y203.length + y206.length < 17592186044416 then ((some (y203 ++ y206 : List Int)).bind fun y210 => ((spec_l01Own.f (x9.take (x13 : Int).toNat)).bind fun t217 => (if t217.length + y210.length < 17592186044416 then (spec_TypeOfWalk.l0 k x6 x8 (t217 ++ y210) (wrap64 (x10 + 1)) x169000 x169001 x169002 x169003) else (none)))) else (none))) else (none)) else (none))) else (spec_TypeOfWalk.l0 k x6 x8 x9 (wrap64 (x10 + 1)) x169000 x169001 x169002 x169003))
end
def spec_TypeOfWalk.f (k : Nat) (a0_0 : Int) (l0_1 : List (List Int)) (a0_2 : Int) (l0_3 : List (List Int)) (l1 : List Int) : Option (List Int × Int) := (spec_l04Walk.f k a0_0 l0_1 a0_2 l0_3 l1).bind fun bt169 => (if bt169.2 = 0 then (if 4 ≤ 281474976710656 then (spec_TypeOfWalk.l0 k bt169.1 (List.replicate 4 false) (([] : List Int)) 0 a0_0 l0_1 a0_2 l0_3) else (none)) else (some (([] : List Int), bt169.2)))
theorem spec_TypeOfWalk.mono_l : ∀ k, (∀ y0 y1 y2 y3 y4 y5 y6 y7, LeO (spec_TypeOfWalk.l0 k y0 y1 y2 y3 y4 y5 y6 y7) (spec_TypeOfWalk.l0 (k + 1) y0 y1 y2 y3 y4 y5 y6 y7)) ∧ (∀ y0 y1 y2 y3 y4 y5 y6 y7 y8 y9, LeO (spec_TypeOfWalk.l1 k y0 y1 y2 y3 y4 y5 y6 y7 y8 y9) (spec_TypeOfWalk.l1 (k + 1) y0 y1 y2 y3 y4 y5 y6 y7 y8 y9)) ∧ (∀ y0 y1 y2 y3 y4 y5 y6 y7 y8 y9, LeO (spec_TypeOfWalk.l2 k y0 y1 y2 y3 y4 y5 y6 y7 y8 y9) (spec_TypeOfWalk.l2 (k + 1) y0 y1 y2 y3 y4 y5 y6 y7 y8 y9))
 | 0 => ⟨fun _ _ _ _ _ _ _ _ r h => by simp [spec_TypeOfWalk.l0] at h, fun _ _ _ _ _ _ _ _ _ _ r h => by simp [spec_TypeOfWalk.l1] at h, fun _ _ _ _ _ _ _ _ _ _ r h => by simp [spec_TypeOfWalk.l2] at h⟩
 | k + 1 => by
  obtain ⟨ih0, ih1, ih2⟩ := spec_TypeOfWalk.mono_l k
  refine ⟨?_, ?_, ?_⟩
  ·intro y0 y1 y2 y3 y4 y5 y6 y7
   unfold spec_TypeOfWalk.l0
   repeat' first
   | (with_reducible exact ih0 _ _ _ _ _ _ _ _)
   | (with_reducible exact ih1 _ _ _ _ _ _ _ _ _ _)
   | (with_reducible exact ih2 _ _ _ _ _ _ _ _ _ _)
   | (with_reducible exact spec_l04Walk.mono _ _ _ _ _ _)
   | (with_reducible exact LeO.refl _)
   | (with_reducible exact LeO.none _)
   | (with_reducible refine LeO.ite ?_ ?_)
   | (with_reducible refine LeO.bind ?_ (fun _ => ?_))
  ·intro y0 y1 y2 y3 y4 y5 y6 y7 y8 y9
   unfold spec_TypeOfWalk.l1
   repeat' first
   | (with_reducible exact ih0 _ _ _ _ _ _ _ _)
   | (with_reducible exact ih1 _ _ _ _ _ _ _ _ _ _)
   | (with_reducible exact ih2 _ _ _ _ _ _ _ _ _ _)
   | (with_reducible exact spec_l04Walk.mono _ _ _ _ _ _)
   | (with_reducible exact LeO.refl _)
   | (with_reducible exact LeO.none _)
   | (with_reducible refine LeO.ite ?_ ?_)
   | (with_reducible refine LeO.bind ?_ (fun _ => ?_))
  ·intro y0 y1 y2 y3 y4 y5 y6 y7 y8 y9
   unfold spec_TypeOfWalk.l2
   repeat' first
   | (with_reducible exact ih0 _ _ _ _ _ _ _ _)
   | (with_reducible exact ih1 _ _ _ _ _ _ _ _ _ _)
   | (with_reducible exact ih2 _ _ _ _ _ _ _ _ _ _)
   | (with_reducible exact spec_l04Walk.mono _ _ _ _ _ _)
   | (with_reducible exact LeO.refl _)
   | (with_reducible exact LeO.none _)
   | (with_reducible refine LeO.ite ?_ ?_)
   | (with_reducible refine LeO.bind ?_ (fun _ => ?_))
set_option maxHeartbeats 8000000 in
set_option maxRecDepth 100000 in
theorem spec_TypeOfWalk.calls (k : Nat) (a0_0 : Int) (A0_1 : Option Addr) (c0_1 : Nat) (l0_1 : List (List Int)) (a0_2 : Int) (A0_3 : Option Addr) (c0_3 : Nat) (l0_3 : List (List Int)) (A1 : Option Addr) (c1 : Nat) (l1 : List Int) (r1 : List Int) (r2 : Int) (w : World) (hr0_1 : Kd.C (Kd.slice 2 (Kd.int .i64)) w A0_1 l0_1.length l0_1) (hc0_1 : l0_1.length ≤ c0_1) (hr0_3 : Kd.C (Kd.slice 2 (Kd.int .i64)) w A0_3 l0_3.length l0_3) (hc0_3 : l0_3.length ≤ c0_3) (hr1 : Kd.C (Kd.int .i64) w A1 l1.length l1) (hc1 : l1.length ≤ c1) (h : spec_TypeOfWalk.f k a0_0 l0_1 a0_2 l0_3 l1 = some (r1, r2)) :
  Calls Try.prog 15 #[.agg #[.int .i64 a0_0, .slice A0_1 l0_1.length c0_1, .int .i64 a0_2, .slice A0_3 l0_3.length c0_3], .slice A1 l1.length c1] w fun e w' => ∃ v0_ : Value, e = .returned (.tuple #[v0_, .int .i64 r2]) ∧ Kd.R (Kd.int .i64) 2 w' w.heap.size (fun _ => True) v0_ r1 ∧ Below w.heap.size w w' := by
 have hu28 := Try.underlying28
 have HR0_1 := m_ hr0_1
 have HC0_1 := m_ hc0_1
 clear hr0_1 hc0_1
 have HR0_3 := m_ hr0_3
 have HC0_3 := m_ hc0_3
 clear hr0_3 hc0_3
 have HR1 := m_ hr1
 have HC1 := m_ hc1
 clear hr1 hc1
 have HB := m_ (Below.refl w.heap.size w)
 have H : ((spec_l04Walk.f k a0_0 l0_1 a0_2 l0_3 l1).bind fun bt169 => (if bt169.2 = 0 then (if 4 ≤ 281474976710656 then (spec_TypeOfWalk.l0 k bt169.1 (List.replicate 4 false) (([] : List Int)) 0 a0_0 l0_1 a0_2 l0_3) else (none)) else (some (([] : List Int), bt169.2)))) = some (r1, r2) := h
 clear h
 obtain ⟨⟨t169, t172⟩, A3, H⟩ := bnd_ H
 dsimp only at H
 by_cases c4 : t172 = 0
 ·rw [if_pos c4] at H
  have c4b0 : (t172 == 0) = true := beq_iff_eq.mpr c4
  have c4b1 : (t172 != 0) = false := bne_eq_false_iff_eq.mpr c4
  clear c4
  obtain ⟨c5, H⟩ := itn_ H
  have c5b0 := eq_true c5
  have c5b1 := decide_eq_true c5
  clear c5
  obtain ⟨y173, Ny173, H⟩ : ∃ y173 : List Bool, Aside0 (y173 = (List.replicate 4 false)) ∧ (spec_TypeOfWalk.l0 k t169 y173 (([] : List Int)) 0 a0_0 l0_1 a0_2 l0_3) = some (r1, r2) := ⟨_, ⟨rfl⟩, H⟩
  obtain ⟨y176, Ny176, H⟩ : ∃ y176 : List Int, Aside0 (y176 = (([] : List Int))) ∧ (spec_TypeOfWalk.l0 k t169 y173 y176 0 a0_0 l0_1 a0_2 l0_3) = some (r1, r2) := ⟨_, ⟨rfl⟩, H⟩
  have H' := m_ H
  clear H
  go_enter Try.func15, Try.ntmps15
  go_wp2_with (first | ((with_reducible refine gate_dst (N := 2) rfl ?_); refine bx_ (N := 2) (cs := #[.int .i64 a0_0, .slice A0_1 l0_1.length c0_1, .int .i64 a0_2, .slice A0_3 l0_3.length c0_3]) (t := 28) ?_; intro gb168 hg w6 hbox hb; have BK168 := m_ (hbox); have GW168 := m_ ((by rw [hg]; exact (below_size hb_) : w.heap.size ≤ gb168)); have GE168 := m_ ((by rw [hg]; exact (below_size hb_) : w.heap.size ≤ gb168)); replace HB := m_ (below_step hb_ hb); clear hb hbox hg; have hcz7_0 := bc0_ BK168.out; have hcz7_1 := bc1_ BK168.out; have hcz7_2 := bc2_ BK168.out; have hcz7_3 := bc3_ BK168.out; have hfz7_0 := blk_frozen BK168.out 0; have hfz7_1 := blk_frozen BK168.out 1; have hfz7_2 := blk_frozen BK168.out 2; have hfz7_3 := blk_frozen BK168.out 3) | ((with_reducible refine gate_callee (f := 110) rfl ?_); refine gl_ (some 18) Try.func110 #[.agg #[.int .i64 a0_0, .slice A0_1 l0_1.length c0_1, .int .i64 a0_2, .slice A0_3 l0_3.length c0_3], .slice A1 l1.length c1] ?_; (with_reducible refine (spec_l04Walk.calls k a0_0 _ _ l0_1 a0_2 _ _ l0_3 _ _ l1 t169 t172 _ ?side1 ?side2 ?side3 ?side4 ?side5 ?side6 A3.out).mono ?_); (case side1 => exact Kd.C_below (Kd.C_below HR0_1.out HB.out) bgo_); (case side2 => exact HC0_1.out); (case side3 => exact Kd.C_below (Kd.C_below HR0_3.out HB.out) bgo_); (case side4 => exact HC0_3.out); (case side5 => exact Kd.C_below (Kd.C_below HR1.out HB.out) bgo_); (case side6 => exact HC1.out); rintro e w8 ⟨v170, rfl, ho0, hb⟩; refine ⟨_, rfl, ?_⟩; have HO171 := m_ (Kd.R_lower ho0 (below_size hbs_)); replace BK168 := m_ (bb_ BK168.out hb); replace HB := m_ (below_step hbs_ hb); clear hb; (try clear ho0)) | ((with_reducible refine gate_dst (N := 25) rfl ?_); refine Kd.R_lit (Kd.int .i64) _ 2 ?hg (N := 25) ?hd (xs := ([] : List Int)) (inner := []) (ok := fun _ => True) (okp := fun _ => True) ?hr ?hp (fun _ hk => hk) trivial (Below.refl _ _) (Nat.le_refl _) (by simp) ?_; (case hd => rfl); (case hg => rfl); (case hr => first | (go_simp; done) | (go_simp; rfl)); (case hp => exact (Reps.none _ _)); intro v177 w11 ho12 hb hg_ hnew_; clear hg_ hnew_; rw [← Ny176.out] at ho12; have HO178 := m_ (Kd.R_lower (Kd.R_new' ho12 (Kd.R_lt (Kd.R_below HO171.out bgo_))) (below_size hbs_)); replace HO171 := m_ (Kd.R_elder' (Kd.R_below HO171.out bgo_) (Kd.R_base ho12) hb); replace BK168 := m_ (bb_ BK168.out hb); replace HB := m_ (below_step hbs_ hb); clear hb ho12) | ((with_reducible refine gate_dst (N := 8) rfl ?_); refine bx_ (N := 8) (cs := #[.bool false, .bool false, .bool false, .bool false]) (t := 82) ?_; intro gb8 hg w12 hbox hb; have n0_ := m_ (Kd.R_below (Kd.R_below HO171.out bgo_) hb); have n2_ := m_ (Kd.R_below (Kd.R_below HO178.out bgo_) hb); have n3_ := m_ (bb_ BK168.out hb); have n5_ := m_ (spec_TypeOfWalk.row4 hbox (show w.heap.size ≤ gb8 from by rw [hg]; exact (below_size hbs_))); have n6_ := m_ hbox; have n4_ := m_ (below_step hbs_ hb); clear HO171; clear HO178; clear BK168; clear HB; have HO171 := n0_; have HO178 := n2_; have BK168 := n3_; have HB := n4_; have HO175 := n5_; have BK8 := n6_; rw [← Ny173.out] at HO175; clear n0_ n2_ n3_ n4_ n5_ n6_; clear hb hbox hg; have hc0_ : w12.cell? ⟨gb8, 0, none⟩ = some (.bool false) := bc0_ BK8.out; have hc1_ : w12.cell? ⟨gb8, 1, none⟩ = some (.bool false) := bc1_ BK8.out; have hc2_ : w12.cell? ⟨gb8, 2, none⟩ = some (.bool false) := bc2_ BK8.out; have hc3_ : w12.cell? ⟨gb8, 3, none⟩ = some (.bool false) := bc3_ BK8.out; have hf0_ := blk_frozen BK8.out 0; have hf1_ := blk_frozen BK8.out 1; have hf2_ := blk_frozen BK8.out 2; have hf3_ := blk_frozen BK8.out 3))
  clear hc0_ hc1_ hc2_ hc3_ hf0_ hf1_ hf2_ hf3_
  rw [spec_TypeOfWalk.same4 BK8.out]
  go_loopg [9, 10] k (fun kq v9 v10 w' => ∃ (x8_1 : List Bool) (x9_1 : List Int) (x10_1 : Int), v10 = .int .i64 x10_1 ∧ Aside0 (spec_TypeOfWalk.l0 kq t169 x8_1 x9_1 x10_1 a0_0 l0_1 a0_2 l0_3 = some (r1, r2)) ∧ Aside0 (kq ≤ k) ∧ Aside0 (Kd.R (Kd.int .i64) 2 w' w.heap.size (fun k_ => some k_ ≠ (v9 : Value).ownBlock) v170 t169) ∧ Aside0 (Kd.R Kd.bool 82 w' w.heap.size (fun _ => True) (.slice (some ⟨gb8, 0, none⟩) 4 4) x8_1) ∧ Aside0 (Kd.R (Kd.int .i64) 2 w' w.heap.size (fun k_ => some k_ ≠ (v170 : Value).ownBlock) v9 x9_1) ∧ Aside0 (w'.heap[gb168]? = some (.cells #[.int .i64 a0_0, (.slice A0_1 l0_1.length c0_1), .int .i64 a0_2, (.slice A0_3 l0_3.length c0_3)] 28 (0, 0))) ∧ Aside0 (Below w.heap.size w w'))
  case atStart => exact ⟨(y173), (y176), (0), es_, H', ⟨Nat.le_refl _⟩, ⟨by (with_reducible repeat (first | apply Kd.R_alloc | apply Kd.R_drewN | apply Kd.R_drew)); exact Kd.R_mono HO171.out (fun _ hk => hk.2)⟩, ⟨Kd.R_below HO175.out bgo_⟩, ⟨by (with_reducible repeat (first | apply Kd.R_alloc | apply Kd.R_drewN | apply Kd.R_drew)); exact Kd.R_mono HO178.out (fun _ hk => hk.2)⟩, ⟨blk_below BK168.out bgo_⟩, ⟨hbs_⟩⟩
  case round =>
   clear H'
   obtain ⟨x8_1, x9_1, x10_1, rfl, HA, HK1, HO_6, HO_8, HO_9, BK168, HB⟩ := hrel
   cases gk with
   | zero => exact absurd HA.out (by simp [spec_TypeOfWalk.l0])
   | succ k1 =>
    have H := HA.out
    clear HA
    simp only [spec_TypeOfWalk.l0] at H
    by_cases c13 : x10_1 < a0_2
    ·rw [if_pos c13] at H
     have c13b0 := decide_eq_true c13
     clear c13
     have H' := m_ H
     clear H
     have hcz14_0 := bc0_ BK168.out
     have hcz14_1 := bc1_ BK168.out
     have hcz14_2 := bc2_ BK168.out
     have hcz14_3 := bc3_ BK168.out
     have hfz14_0 := blk_frozen BK168.out 0
     have hfz14_1 := blk_frozen BK168.out 1
     have hfz14_2 := blk_frozen BK168.out 2
     have hfz14_3 := blk_frozen BK168.out 3
     go_wp2
     go_loopg [11, 12] k1 (fun kq v11 v12 w' => ∃ (x8_2 : List Bool) (x11_2 : Int) (x12_2 : Int), v11 = .int .i64 x11_2 ∧ v12 = .int .i64 x12_2 ∧ Aside0 (spec_TypeOfWalk.l1 kq t169 x8_2 x9_1 x10_1 x11_2 x12_2 a0_0 l0_1 a0_2 l0_3 = some (r1, r2)) ∧ Aside0 (kq ≤ k1) ∧ Aside0 (Kd.R (Kd.int .i64) 2 w' w.heap.size (fun k_ => some k_ ≠ (u9 : Value).ownBlock) v170 t169) ∧ Aside0 (Kd.R Kd.bool 82 w' w.heap.size (fun _ => True) (.slice (some ⟨gb8, 0, none⟩) 4 4) x8_2) ∧ Aside0 (Kd.R (Kd.int .i64) 2 w' w.heap.size (fun k_ => some k_ ≠ (v170 : Value).ownBlock) u9 x9_1) ∧ Aside0 (w'.heap[gb168]? = some (.cells #[.int .i64 a0_0, (.slice A0_1 l0_1.length c0_1), .int .i64 a0_2, (.slice A0_3 l0_3.length c0_3)] 28 (0, 0))) ∧ Aside0 (Below w.heap.size w w'))
     case atStart => exact ⟨(x8_1), (0), (x10_1), es_, es_, H', ⟨Nat.le_refl _⟩, ⟨Kd.R_below HO_6.out bgo_⟩, ⟨Kd.R_below HO_8.out bgo_⟩, ⟨Kd.R_below HO_9.out bgo_⟩, ⟨blk_below BK168.out bgo_⟩, ⟨hbs_⟩⟩
     case round =>
      clear H'
      obtain ⟨x8_2, x11_2, x12_2, rfl, rfl, HA, HK2, HO_6, HO_8, HO_9, BK168, HB⟩ := hrel
      cases gk with
      | zero => exact absurd HA.out (by simp [spec_TypeOfWalk.l1])
      | succ k2 =>
       have H := HA.out
       clear HA
       simp only [spec_TypeOfWalk.l1] at H
       obtain ⟨c15, H⟩ := itn_ H
       have c15b0 := decide_eq_true c15
       clear c15
       obtain ⟨c16, H⟩ := itn_ H
       have c16b0 := decide_eq_true c16
       clear c16
       obtain ⟨bq17, hbq17⟩ : ∃ b_ : Bool, b_ = (rdOf false x8_2 x12_2) := ⟨_, rfl⟩
       replace H : (if bq17 = true then (spec_TypeOfWalk.l2 k2 t169 x8_2 x9_1 x10_1 x11_2 (x9_1.length : Int) a0_0 l0_1 a0_2 l0_3) else (if x12_2 < (t169.length : Int) then (spec_TypeOfWalk.l1 k2 t169 (x8_2.set (x12_2 : Int).toNat true) x9_1 x10_1 (wrap64 (x11_2 + 1)) (rd t169 x12_2) a0_0 l0_1 a0_2 l0_3) else (none))) = some (r1, r2) := by rw [← hbq17] at H; exact H
       have Nbq17 := m_ hbq17
       clear hbq17
       by_cases c18 : bq17 = true
       ·subst c18
        have H1 : (spec_TypeOfWalk.l2 k2 t169 x8_2 x9_1 x10_1 x11_2 (x9_1.length : Int) a0_0 l0_1 a0_2 l0_3) = some (r1, r2) := by rw [if_pos rfl] at H; exact H
        clear H
        have H := H1
        clear H1
        have H' := m_ H
        clear H
        have HL8 := m_ (spec_TypeOfWalk.len4 HO_8.out)
        have p179 : 0 ≤ (x12_2 : Int) := od_
        have q179 : x12_2 < (x8_2.length : Int) := od_
        obtain ⟨ad179, e179, hx179_0⟩ := Kd.at_bool (Kd.R_reads' HO_8.out).2.2 x12_2 p179 q179
        (try rw [← Nbq17.out] at hx179_0)
        cases e179
        replace p179 := eq_true p179
        (first | simp only [add_plain] at hx179_0 | skip)
        replace q179 := eq_true (show x12_2 < 4 from by have := HL8.out; omega)
        obtain ⟨Ao20, co20, eo20⟩ := Kd.R_slice HO_9.out
        subst eo20
        go_wp2
        go_loopg [13] k2 (fun kq v13 w' => ∃ (x13_3 : Int), v13 = .int .i64 x13_3 ∧ Aside0 (spec_TypeOfWalk.l2 kq t169 x8_2 x9_1 x10_1 x11_2 x13_3 a0_0 l0_1 a0_2 l0_3 = some (r1, r2)) ∧ Aside0 (kq ≤ k2) ∧ Aside0 (Kd.R (Kd.int .i64) 2 w' w.heap.size (fun k_ => some k_ ≠ ((.slice Ao20 x9_1.length co20) : Value).ownBlock) v170 t169) ∧ Aside0 (Kd.R Kd.bool 82 w' w.heap.size (fun _ => True) (.slice (some ⟨gb8, 0, none⟩) 4 4) x8_2) ∧ Aside0 (Kd.R (Kd.int .i64) 2 w' w.heap.size (fun k_ => some k_ ≠ (v170 : Value).ownBlock) (.slice Ao20 x9_1.length co20) x9_1) ∧ Aside0 (w'.heap[gb168]? = some (.cells #[.int .i64 a0_0, (.slice A0_1 l0_1.length c0_1), .int .i64 a0_2, (.slice A0_3 l0_3.length c0_3)] 28 (0, 0))) ∧ Aside0 (Below w.heap.size w w'))
        case atStart => exact ⟨((x9_1.length : Int)), es_, H', ⟨Nat.le_refl _⟩, ⟨Kd.R_below HO_6.out bgo_⟩, ⟨Kd.R_below HO_8.out bgo_⟩, ⟨Kd.R_below HO_9.out bgo_⟩, ⟨blk_below BK168.out bgo_⟩, ⟨hbs_⟩⟩
        case round =>
         clear H'
         obtain ⟨x13_3, rfl, HA, HK3, HO_6, HO_8, HO_9, BK168, HB⟩ := hrel
         cases gk with
         | zero => exact absurd HA.out (by simp [spec_TypeOfWalk.l2])
         | succ k3 =>
          have H := HA.out
          clear HA
          simp only [spec_TypeOfWalk.l2] at H
          by_cases c21 : x13_3 > 0
          ·rw [if_pos c21] at H
           have c21b0 := decide_eq_true c21
           clear c21
           obtain ⟨ji22, hji22⟩ : ∃ j_ : Int, (wrap64 (x13_3 - 1)) = j_ := ⟨_, rfl⟩
           (try rw [hji22])
           replace H : (if 0 ≤ (ji22) then (if (ji22) < (x9_1.length : Int) then (if (rd x9_1 (ji22)) < x11_2 then (spec_TypeOfWalk.l2 k3 t169 x8_2 x9_1 x10_1 x11_2 ji22 a0_0 l0_1 a0_2 l0_3) else (if x11_2 > 0 then ((some (([x11_2] : List Int) : List Int)).bind fun y183 => (if 0 ≤ x13_3 then (if x13_3 ≤ (x9_1.length : Int) then ((some (x9_1.drop (x13_3 : Int).toNat : List Int)).bind fun y186 => (if y183.length + y186.length < 17592186044416 then ((some (y183 ++ y186 : List Int)).bind fun y190 => ((spec_l01Own.f (x9_1.take (x13_3 : Int).toNat)).bind fun t197 => (if t197.length + y190.length < 17592186044416 then (spec_TypeOfWalk.l0 k3 t169 x8_2 (t197 ++ y190) (wrap64 (x10_1 + 1)) a0_0 l0_1 a0_2 l0_3) else (none)))) else (none))) else (none)) else (none))) else (spec_TypeOfWalk.l0 k3 t169 x8_2 x9_1 (wrap64 (x10_1 + 1)) a0_0 l0_1 a0_2 l0_3))) else (none)) else (none)) = some (r1, r2) := by first | (rw [hji22] at H; exact H) | (simp only [hji22] at H ⊢; exact H)
           have hji22w : (IntKind.i64.wrap (x13_3 - 1)) = ji22 := (i64_w _).trans hji22
           obtain ⟨c23, H⟩ := itn_ H
           have c23b0 := decide_eq_true c23
           clear c23
           obtain ⟨c24, H⟩ := itn_ H
           have c24b0 := decide_eq_true c24
           clear c24
           by_cases c25 : (rd x9_1 (ji22)) < x11_2
           ·rw [if_pos c25] at H
            have c25b0 := decide_eq_true c25
            clear c25
            have H' := m_ H
            clear H
            have p182 : 0 ≤ ((ji22) : Int) := od_
            have q182 : (ji22) < (x9_1.length : Int) := od_
            obtain ⟨ad182, e182, hx182_0⟩ := Kd.at_int (Kd.R_reads' HO_9.out).2.2 (ji22) p182 q182
            cases e182
            replace p182 := eq_true p182
            replace q182 := eq_true q182
            go_wp2
            first | go_roundg k3 | ((try subst hji22); go_roundg k3)
            case measure => have := HK1.out; have := HK2.out; have := HK3.out; omega
            case rel => exact ⟨(ji22), (by first | rfl | (simp; done) | (simp only [← hji22] <;> (first | rfl | simp)) | (simp [*]; done)), H', ⟨by have := HK1.out; have := HK2.out; have := HK3.out; omega⟩, ⟨Kd.R_below HO_6.out bgo_⟩, ⟨Kd.R_below HO_8.out bgo_⟩, ⟨Kd.R_below HO_9.out bgo_⟩, ⟨blk_below BK168.out bgo_⟩, ⟨hbs_⟩⟩
           ·rw [if_neg c25] at H
            have c25b0 := decide_eq_false c25
            clear c25
            by_cases c26 : x11_2 > 0
            ·rw [if_pos c26] at H
             have c26b0 := decide_eq_true c26
             clear c26
             obtain ⟨y183, Ny183, H⟩ : ∃ y183 : List Int, Aside0 (y183 = (([x11_2] : List Int))) ∧ (if 0 ≤ x13_3 then (if x13_3 ≤ (x9_1.length : Int) then ((some (x9_1.drop (x13_3 : Int).toNat : List Int)).bind fun y186 => (if y183.length + y186.length < 17592186044416 then ((some (y183 ++ y186 : List Int)).bind fun y190 => ((spec_l01Own.f (x9_1.take (x13_3 : Int).toNat)).bind fun t197 => (if t197.length + y190.length < 17592186044416 then (spec_TypeOfWalk.l0 k3 t169 x8_2 (t197 ++ y190) (wrap64 (x10_1 + 1)) a0_0 l0_1 a0_2 l0_3) else (none)))) else (none))) else (none)) else (none)) = some (r1, r2) := ⟨_, ⟨rfl⟩, H⟩
             obtain ⟨c27, H⟩ := itn_ H
             have c27b0 := eq_true c27
             have c27b1 := decide_eq_true c27
             clear c27
             obtain ⟨c28, H⟩ := itn_ H
             have c28b0 := eq_true c28
             have c28b1 := decide_eq_true c28
             clear c28
             obtain ⟨y186, Ny186, H⟩ : ∃ y186 : List Int, Aside0 (y186 = (x9_1.drop (x13_3 : Int).toNat)) ∧ (if y183.length + y186.length < 17592186044416 then ((some (y183 ++ y186 : List Int)).bind fun y190 => ((spec_l01Own.f (x9_1.take (x13_3 : Int).toNat)).bind fun t197 => (if t197.length + y190.length < 17592186044416 then (spec_TypeOfWalk.l0 k3 t169 x8_2 (t197 ++ y190) (wrap64 (x10_1 + 1)) a0_0 l0_1 a0_2 l0_3) else (none)))) else (none)) = some (r1, r2) := ⟨_, ⟨rfl⟩, H⟩
             obtain ⟨c29, H⟩ := itn_ H
             have LMc29 := m_ c29
             clear c29
             obtain ⟨y190, Ny190, H⟩ : ∃ y190 : List Int, Aside0 (y190 = (y183 ++ y186)) ∧ ((spec_l01Own.f (x9_1.take (x13_3 : Int).toNat)).bind fun t197 => (if t197.length + y190.length < 17592186044416 then (spec_TypeOfWalk.l0 k3 t169 x8_2 (t197 ++ y190) (wrap64 (x10_1 + 1)) a0_0 l0_1 a0_2 l0_3) else (none))) = some (r1, r2) := ⟨_, ⟨rfl⟩, H⟩
             have c30b0 := eq_true (od_ : 0 ≤ x13_3)
             have c31b0 := eq_true (od_ : x13_3 ≤ (x9_1.length : Int))
             obtain ⟨y193, Ny193, H⟩ : ∃ y193 : List Int, Aside0 (y193 = (x9_1.take (x13_3 : Int).toNat)) ∧ ((spec_l01Own.f y193).bind fun t197 => (if t197.length + y190.length < 17592186044416 then (spec_TypeOfWalk.l0 k3 t169 x8_2 (t197 ++ y190) (wrap64 (x10_1 + 1)) a0_0 l0_1 a0_2 l0_3) else (none))) = some (r1, r2) := ⟨_, ⟨rfl⟩, H⟩
             obtain ⟨t197, A32, H⟩ := bnd_ H
             obtain ⟨c33, H⟩ := itn_ H
             have LMc33 := m_ c33
             clear c33
             obtain ⟨y200, Ny200, H⟩ : ∃ y200 : List Int, Aside0 (y200 = (t197 ++ y190)) ∧ (spec_TypeOfWalk.l0 k3 t169 x8_2 y200 (wrap64 (x10_1 + 1)) a0_0 l0_1 a0_2 l0_3) = some (r1, r2) := ⟨_, ⟨rfl⟩, H⟩
             have H' := m_ H
             clear H
             have p182 : 0 ≤ ((ji22) : Int) := od_
             have q182 : (ji22) < (x9_1.length : Int) := od_
             obtain ⟨ad182, e182, hx182_0⟩ := Kd.at_int (Kd.R_reads' HO_9.out).2.2 (ji22) p182 q182
             cases e182
             replace p182 := eq_true p182
             replace q182 := eq_true q182
             go_wp2_with (first | ((with_reducible refine gate_dst (N := 63) rfl ?_); refine Kd.R_lit (Kd.int .i64) _ 2 ?hg (N := 63) ?hd (xs := ([x11_2] : List Int)) (inner := [.int .i64 x11_2]) (ok := fun _ => True) (okp := fun _ => True) ?hr ?hp (fun _ hk => hk) trivial (Below.refl _ _) (Nat.le_refl _) (by simp) ?_; (case hd => rfl); (case hg => rfl); (case hr => first | (go_simp; done) | (go_simp; rfl)); (case hp => exact (Reps.one (show Kd.M (Kd.int .i64) _ _ _ x11_2 [.int .i64 x11_2] from rfl) (Reps.none _ _))); intro v184 w34 ho35 hb hg_ hnew_; clear hg_ hnew_; rw [← Ny183.out] at ho35; replace HO_8 := m_ (Kd.R_below (Kd.R_below HO_8.out bgo_) hb); have HO185 := m_ (Kd.R_lower (Kd.R_new' (Kd.R_new' ho35 (Kd.R_lt (Kd.R_below HO_6.out bgo_))) (Kd.R_lt (Kd.R_below HO_9.out bgo_))) (below_size hbs_)); replace HO_6 := m_ (Kd.R_elder' (Kd.R_below HO_6.out bgo_) (Kd.R_base ho35) hb); replace HO_9 := m_ (Kd.R_elder' (Kd.R_below HO_9.out bgo_) (Kd.R_base ho35) hb); replace BK168 := m_ (bb_ BK168.out hb); replace HB := m_ (below_step hbs_ hb); clear hb ho35; have q36 : (x13_3 : Int) ≤ ((x9_1.length : Int) : Int) := od_; obtain ⟨i036, hi036, _, hsz36, _⟩ := info_parts info2; have hroom36 : x9_1.length ≤ co20 := (Kd.R_reads' HO_9.out).2.1; have hC36 : Kd.C (Kd.int .i64) _ (some ad182) x9_1.length x9_1 := (Kd.R_reads' HO_9.out).2.2; have q036 : (0 : Int) ≤ (x13_3 : Int) := od_; have hcut36 := cut_from (P := Try.prog) 29 2 .i64 Try.underlying29 hi036 1 hsz36 (some ad182) x9_1.length co20 x13_3 q036 q36; have hr36 := Kd.C_drop (m := (x13_3 : Int).toNat) (c := co20) hC36 (by omega) hroom36; obtain ⟨A36, hA36⟩ : ∃ A1, A1 = (if co20 = (x13_3 : Int).toNat then (some ad182) else ((some ad182) : Option Addr).map (·.add ((x13_3 : Int).toNat * 1))) := ⟨_, rfl⟩; obtain ⟨c36, hc36⟩ : ∃ c1, c1 = co20 - (x13_3 : Int).toNat := ⟨_, rfl⟩; have hy36 : y186.length = x9_1.length - (x13_3 : Int).toNat := (by rw [Ny186.out, List.length_drop] <;> omega); rw [show (x9_1).drop (x13_3 : Int).toNat = y186 from Ny186.out.symm] at hr36; replace hr36 : Kd.C (Kd.int .i64) _ A36 y186.length y186 := (by rw [hA36]; exact hr36); rw [← hy36, ← hA36, ← hc36] at hcut36; have HR189 := m_ hr36; have HC189 := m_ (show y186.length ≤ c36 from by rw [hy36, hc36]; exact Nat.sub_le_sub_right hroom36 _); clear hr36 hC36 hroom36 hi036 hsz36 hc36; have KY36 := m_ hy36; have KA36 := m_ hA36; clear hy36 hA36; have KL36 := m_ (show (x13_3 : Int).toNat ≤ x9_1.length from by omega); replace q36 := eq_true q36) | ((with_reducible refine gate_builtin (b := .append) (xs := #[.tmp 63, .tmp 66]) rfl ?_); at_builtin; refine Kd.R_append_rows (Kd.int .i64) (w0 := w) w.heap.size rfl (.tmp 63) (.tmp 66) 29 2 (.int .i64 0) 8 rfl Try.underlying29 info2 rfl (by decide) (by omega) v184 y183 y186 _ _ _ (fun k_ => some k_ ≠ (v170 : Value).ownBlock ∧ some k_ ≠ (.slice (some ad182) x9_1.length co20 : Value).ownBlock) (fun _ => False) rfl rfl ?aO ?aR (fun _ _ h => h) (fun _ h => h.elim) ?aF ?aB ?aS ?aL ?_; (case aR => repeat (first | exact (by repeat (first | (with_reducible exact HR189.out) | (with_reducible refine Kd.C_alloc ?_ _) | (with_reducible refine Kd.C_drewN ?_ _) | (with_reducible refine Kd.C_drew ?_) | exact HR189.out)) | (with_reducible refine Kd.C_alloc ?_ _) | (with_reducible refine Kd.C_drewN ?_ _) | (with_reducible refine Kd.C_drew ?_))); (case aB => exact hbs_); (case aF => exact (fun k_ hk => ⟨Kd.fresh' (Kd.R_lt (Kd.R_below HO_6.out bgo_)) k_ hk, Kd.fresh' (Kd.R_lt (Kd.R_below HO_9.out bgo_)) k_ hk⟩)); (case aO => exact (Kd.R_below (Kd.R_mono HO185.out (fun _ hk => ⟨hk.1.2, hk.2⟩)) bgo_)); (case aS => exact (below_size hbs_)); (case aL => have := LMc29.out; omega); intro v191 w37 ho hb hg hat; rw [← Ny190.out] at ho; replace HO_6 := m_ (Kd.R_after (ok := (fun k_ => some k_ ≠ (.slice (some ad182) x9_1.length co20 : Value).ownBlock)) (Kd.R_below HO_6.out bgo_) hg hat); replace HO_8 := m_ (Kd.R_over' (Kd.R_below HO_8.out bgo_) (Kd.R_typed (Kd.R_below HO185.out bgo_)) (by decide) hg); replace BK168 := m_ (blk_grown (blk_below BK168.out bgo_) hg (Kd.R_ne HO185.out BK168.out (by decide))); replace HB := m_ (hb); replace HR189 := m_ ((show Kd.C (Kd.int .i64) w37 A36 y186.length y186 from by rw [Ny186.out, KA36.out]; exact Kd.C_drop (m := (x13_3 : Int).toNat) (c := co20) ((Kd.R_reads' (Kd.R_after (ok := (fun k_ => some k_ ≠ (v170 : Value).ownBlock)) (Kd.R_below HO_9.out bgo_) hg hat)).2.2) KL36.out ((Kd.R_reads' (Kd.R_after (ok := (fun k_ => some k_ ≠ (v170 : Value).ownBlock)) (Kd.R_below HO_9.out bgo_) hg hat)).2.1))); replace HO_9 := m_ (Kd.R_after (ok := (fun k_ => some k_ ≠ (v170 : Value).ownBlock)) (Kd.R_below HO_9.out bgo_) hg hat); have HO192 := m_ (ho); clear HO185; clear ho hb hg hat; have q38 : (x13_3 : Int) ≤ ((x9_1.length : Int) : Int) := od_; obtain ⟨i038, hi038, _, hsz38, _⟩ := info_parts info2; have hroom38 : x9_1.length ≤ co20 := (Kd.R_reads' HO_9.out).2.1; have hC38 : Kd.C (Kd.int .i64) _ (some ad182) x9_1.length x9_1 := (Kd.R_reads' HO_9.out).2.2; have hcut38 := cut_to (P := Try.prog) 29 2 .i64 Try.underlying29 hi038 (some ad182) x9_1.length co20 x13_3 (od_) q38 hroom38; have hr38 := Kd.C_take (m := (x13_3 : Int).toNat) hC38 (by omega); have hy38 : y193.length = (x13_3 : Int).toNat := (by rw [Ny193.out, List.length_take]; omega); rw [← Ny193.out] at hr38; rw [← hy38] at hcut38; have HR196 := m_ hr38; have HC196 := m_ (show y193.length ≤ co20 from by omega); clear hr38 hC38 hroom38 hi038 hsz38; have KY38 := m_ hy38; clear hy38; have KL38 := m_ (show (x13_3 : Int).toNat ≤ x9_1.length from by omega); replace q38 := eq_true q38) | ((with_reducible refine gate_callee (f := 113) rfl ?_); refine gl_ (some 71) Try.func113 #[.slice (some ad182) y193.length co20] ?_; (with_reducible refine (spec_l01Own.calls _ _ y193 t197 _ ?side1 ?side2 A32.out).mono ?_); (case side1 => repeat (first | exact (by repeat (first | (with_reducible exact HR196.out) | (with_reducible refine Kd.C_alloc ?_ _) | (with_reducible refine Kd.C_drewN ?_ _) | (with_reducible refine Kd.C_drew ?_) | exact HR196.out)) | (with_reducible refine Kd.C_alloc ?_ _) | (with_reducible refine Kd.C_drewN ?_ _) | (with_reducible refine Kd.C_drew ?_))); (case side2 => exact HC196.out); rintro e w39 ⟨v198, rfl, ho0, hb⟩; refine ⟨_, rfl, ?_⟩; replace HO_8 := m_ (Kd.R_below (Kd.R_below HO_8.out bgo_) hb); have HO199 := m_ (Kd.R_lower (Kd.R_new' (Kd.R_new' (Kd.R_new' ho0 (Kd.R_lt (Kd.R_below HO_6.out bgo_))) (Kd.R_lt (Kd.R_below HO_9.out bgo_))) (Kd.R_lt (Kd.R_below HO192.out bgo_))) (below_size hbs_)); replace HO_6 := m_ (Kd.R_elder' (Kd.R_below HO_6.out bgo_) (Kd.R_base ho0) hb); replace HO_9 := m_ (Kd.R_elder' (Kd.R_below HO_9.out bgo_) (Kd.R_base ho0) hb); replace HO192 := m_ (Kd.R_elder' (Kd.R_below HO192.out bgo_) (Kd.R_base ho0) hb); replace BK168 := m_ (bb_ BK168.out hb); replace HR189 := m_ (Kd.C_below (by repeat (first | (with_reducible exact HR189.out) | (with_reducible refine Kd.C_alloc ?_ _) | (with_reducible refine Kd.C_drewN ?_ _) | (with_reducible refine Kd.C_drew ?_) | exact HR189.out)) hb); replace HR196 := m_ (Kd.C_below (by repeat (first | (with_reducible exact HR196.out) | (with_reducible refine Kd.C_alloc ?_ _) | (with_reducible refine Kd.C_drewN ?_ _) | (with_reducible refine Kd.C_drew ?_) | exact HR196.out)) hb); replace HB := m_ (below_step hbs_ hb); clear hb; (try clear ho0); obtain ⟨Ao41, co41, eo41⟩ := Kd.R_slice HO192.out; subst eo41) | ((with_reducible refine gate_builtin (b := .append) (xs := #[.tmp 71, .tmp 72]) rfl ?_); at_builtin; refine Kd.R_append_rows (Kd.int .i64) (w0 := w) w.heap.size rfl (.tmp 71) (.tmp 72) 29 2 (.int .i64 0) 8 rfl Try.underlying29 info2 rfl (by decide) (by omega) v198 t197 y190 _ _ _ (fun k_ => some k_ ≠ (v170 : Value).ownBlock ∧ some k_ ≠ (.slice (some ad182) x9_1.length co20 : Value).ownBlock ∧ some k_ ≠ (.slice Ao41 y190.length co41 : Value).ownBlock) (fun _ => False) rfl rfl ?aO ?aR (fun _ _ h => h) (fun _ h => h.elim) ?aF ?aB ?aS ?aL ?_; (case aR => repeat (first | exact (Kd.R_reads' HO192.out).2.2 | (with_reducible refine Kd.C_alloc ?_ _) | (with_reducible refine Kd.C_drewN ?_ _) | (with_reducible refine Kd.C_drew ?_))); (case aB => exact hbs_); (case aF => exact (fun k_ hk => ⟨Kd.fresh' (Kd.R_lt (Kd.R_below HO_6.out bgo_)) k_ hk, Kd.fresh' (Kd.R_lt (Kd.R_below HO_9.out bgo_)) k_ hk, Kd.fresh' (Kd.R_lt (Kd.R_below HO192.out bgo_)) k_ hk⟩)); (case aO => exact (Kd.R_below (Kd.R_mono HO199.out (fun _ hk => ⟨hk.1.1.2, ⟨hk.1.2, hk.2⟩⟩)) bgo_)); (case aS => exact (below_size hbs_)); (case aL => have := LMc33.out; omega); intro v201 w40 ho hb hg hat; rw [← Ny200.out] at ho; replace HO_6 := m_ (Kd.R_after (ok := (fun k_ => some k_ ≠ (.slice (some ad182) x9_1.length co20 : Value).ownBlock ∧ some k_ ≠ (.slice Ao41 y190.length co41 : Value).ownBlock)) (Kd.R_below HO_6.out bgo_) hg hat); replace HO_8 := m_ (Kd.R_over' (Kd.R_below HO_8.out bgo_) (Kd.R_typed (Kd.R_below HO199.out bgo_)) (by decide) hg); replace BK168 := m_ (blk_grown (blk_below BK168.out bgo_) hg (Kd.R_ne HO199.out BK168.out (by decide))); replace HO192 := m_ (Kd.R_after (ok := (fun k_ => some k_ ≠ (v170 : Value).ownBlock ∧ some k_ ≠ (.slice (some ad182) x9_1.length co20 : Value).ownBlock)) (Kd.R_below HO192.out bgo_) hg hat); replace HB := m_ (hb); replace HR189 := m_ ((show Kd.C (Kd.int .i64) w40 A36 y186.length y186 from by rw [Ny186.out, KA36.out]; exact Kd.C_drop (m := (x13_3 : Int).toNat) (c := co20) ((Kd.R_reads' (Kd.R_after (ok := (fun k_ => some k_ ≠ (v170 : Value).ownBlock ∧ some k_ ≠ (.slice Ao41 y190.length co41 : Value).ownBlock)) (Kd.R_below HO_9.out bgo_) hg hat)).2.2) KL36.out ((Kd.R_reads' (Kd.R_after (ok := (fun k_ => some k_ ≠ (v170 : Value).ownBlock ∧ some k_ ≠ (.slice Ao41 y190.length co41 : Value).ownBlock)) (Kd.R_below HO_9.out bgo_) hg hat)).2.1))); replace HR196 := m_ ((show Kd.C (Kd.int .i64) w40 (some ad182) y193.length y193 from by rw [Ny193.out]; exact Kd.C_take (m := (x13_3 : Int).toNat) ((Kd.R_reads' (Kd.R_after (ok := (fun k_ => some k_ ≠ (v170 : Value).ownBlock ∧ some k_ ≠ (.slice Ao41 y190.length co41 : Value).ownBlock)) (Kd.R_below HO_9.out bgo_) hg hat)).2.2) KL38.out)); replace HO_9 := m_ (Kd.R_after (ok := (fun k_ => some k_ ≠ (v170 : Value).ownBlock ∧ some k_ ≠ (.slice Ao41 y190.length co41 : Value).ownBlock)) (Kd.R_below HO_9.out bgo_) hg hat); have HO202 := m_ (ho); clear HO199; clear ho hb hg hat))
             first | go_roundg k3 | ((try subst hji22); go_roundg k3)
             case measure => have := HK1.out; have := HK2.out; have := HK3.out; omega
             case rel => exact ⟨(x8_2), (y200), (wrap64 (x10_1 + 1)), es_, H', ⟨by have := HK1.out; have := HK2.out; have := HK3.out; omega⟩, ⟨by (with_reducible repeat (first | apply Kd.R_alloc | apply Kd.R_drewN | apply Kd.R_drew)); exact Kd.R_mono HO_6.out (fun _ hk => hk.2)⟩, ⟨Kd.R_below HO_8.out bgo_⟩, ⟨by (with_reducible repeat (first | apply Kd.R_alloc | apply Kd.R_drewN | apply Kd.R_drew)); exact Kd.R_mono HO202.out (fun _ hk => hk.1)⟩, ⟨blk_below BK168.out bgo_⟩, ⟨hbs_⟩⟩
            ·rw [if_neg c26] at H
             have c26b0 := decide_eq_false c26
             clear c26
             have H' := m_ H
             clear H
             have p182 : 0 ≤ ((ji22) : Int) := od_
             have q182 : (ji22) < (x9_1.length : Int) := od_
             obtain ⟨ad182, e182, hx182_0⟩ := Kd.at_int (Kd.R_reads' HO_9.out).2.2 (ji22) p182 q182
             cases e182
             replace p182 := eq_true p182
             replace q182 := eq_true q182
             go_wp2
             first | go_roundg k3 | ((try subst hji22); go_roundg k3)
             case measure => have := HK1.out; have := HK2.out; have := HK3.out; omega
             case rel => exact ⟨(x8_2), (x9_1), (wrap64 (x10_1 + 1)), es_, H', ⟨by have := HK1.out; have := HK2.out; have := HK3.out; omega⟩, ⟨Kd.R_below HO_6.out bgo_⟩, ⟨Kd.R_below HO_8.out bgo_⟩, ⟨Kd.R_below HO_9.out bgo_⟩, ⟨blk_below BK168.out bgo_⟩, ⟨hbs_⟩⟩
          ·rw [if_neg c21] at H
           have c21b0 := decide_eq_false c21
           clear c21
           by_cases c42 : x11_2 > 0
           ·rw [if_pos c42] at H
            have c42b0 := decide_eq_true c42
            clear c42
            obtain ⟨y203, Ny203, H⟩ : ∃ y203 : List Int, Aside0 (y203 = (([x11_2] : List Int))) ∧ (if 0 ≤ x13_3 then (if x13_3 ≤ (x9_1.length : Int) then ((some (x9_1.drop (x13_3 : Int).toNat : List Int)).bind fun y206 => (if y203.length + y206.length < 17592186044416 then ((some (y203 ++ y206 : List Int)).bind fun y210 => ((spec_l01Own.f (x9_1.take (x13_3 : Int).toNat)).bind fun t217 => (if t217.length + y210.length < 17592186044416 then (spec_TypeOfWalk.l0 k3 t169 x8_2 (t217 ++ y210) (wrap64 (x10_1 + 1)) a0_0 l0_1 a0_2 l0_3) else (none)))) else (none))) else (none)) else (none)) = some (r1, r2) := ⟨_, ⟨rfl⟩, H⟩
            obtain ⟨c43, H⟩ := itn_ H
            have c43b0 := eq_true c43
            have c43b1 := decide_eq_true c43
            clear c43
            obtain ⟨c44, H⟩ := itn_ H
            have c44b0 := eq_true c44
            have c44b1 := decide_eq_true c44
            clear c44
            obtain ⟨y206, Ny206, H⟩ : ∃ y206 : List Int, Aside0 (y206 = (x9_1.drop (x13_3 : Int).toNat)) ∧ (if y203.length + y206.length < 17592186044416 then ((some (y203 ++ y206 : List Int)).bind fun y210 => ((spec_l01Own.f (x9_1.take (x13_3 : Int).toNat)).bind fun t217 => (if t217.length + y210.length < 17592186044416 then (spec_TypeOfWalk.l0 k3 t169 x8_2 (t217 ++ y210) (wrap64 (x10_1 + 1)) a0_0 l0_1 a0_2 l0_3) else (none)))) else (none)) = some (r1, r2) := ⟨_, ⟨rfl⟩, H⟩
            obtain ⟨c45, H⟩ := itn_ H
            have LMc45 := m_ c45
            clear c45
            obtain ⟨y210, Ny210, H⟩ : ∃ y210 : List Int, Aside0 (y210 = (y203 ++ y206)) ∧ ((spec_l01Own.f (x9_1.take (x13_3 : Int).toNat)).bind fun t217 => (if t217.length + y210.length < 17592186044416 then (spec_TypeOfWalk.l0 k3 t169 x8_2 (t217 ++ y210) (wrap64 (x10_1 + 1)) a0_0 l0_1 a0_2 l0_3) else (none))) = some (r1, r2) := ⟨_, ⟨rfl⟩, H⟩
            have c46b0 := eq_true (od_ : 0 ≤ x13_3)
            have c47b0 := eq_true (od_ : x13_3 ≤ (x9_1.length : Int))
            obtain ⟨y213, Ny213, H⟩ : ∃ y213 : List Int, Aside0 (y213 = (x9_1.take (x13_3 : Int).toNat)) ∧ ((spec_l01Own.f y213).bind fun t217 => (if t217.length + y210.length < 17592186044416 then (spec_TypeOfWalk.l0 k3 t169 x8_2 (t217 ++ y210) (wrap64 (x10_1 + 1)) a0_0 l0_1 a0_2 l0_3) else (none))) = some (r1, r2) := ⟨_, ⟨rfl⟩, H⟩
            obtain ⟨t217, A48, H⟩ := bnd_ H
            obtain ⟨c49, H⟩ := itn_ H
            have LMc49 := m_ c49
            clear c49
            obtain ⟨y220, Ny220, H⟩ : ∃ y220 : List Int, Aside0 (y220 = (t217 ++ y210)) ∧ (spec_TypeOfWalk.l0 k3 t169 x8_2 y220 (wrap64 (x10_1 + 1)) a0_0 l0_1 a0_2 l0_3) = some (r1, r2) := ⟨_, ⟨rfl⟩, H⟩
            have H' := m_ H
            clear H
            go_wp2_with (first | ((with_reducible refine gate_dst (N := 63) rfl ?_); refine Kd.R_lit (Kd.int .i64) _ 2 ?hg (N := 63) ?hd (xs := ([x11_2] : List Int)) (inner := [.int .i64 x11_2]) (ok := fun _ => True) (okp := fun _ => True) ?hr ?hp (fun _ hk => hk) trivial (Below.refl _ _) (Nat.le_refl _) (by simp) ?_; (case hd => rfl); (case hg => rfl); (case hr => first | (go_simp; done) | (go_simp; rfl)); (case hp => exact (Reps.one (show Kd.M (Kd.int .i64) _ _ _ x11_2 [.int .i64 x11_2] from rfl) (Reps.none _ _))); intro v204 w50 ho51 hb hg_ hnew_; clear hg_ hnew_; rw [← Ny203.out] at ho51; replace HO_8 := m_ (Kd.R_below (Kd.R_below HO_8.out bgo_) hb); have HO205 := m_ (Kd.R_lower (Kd.R_new' (Kd.R_new' ho51 (Kd.R_lt (Kd.R_below HO_6.out bgo_))) (Kd.R_lt (Kd.R_below HO_9.out bgo_))) (below_size hbs_)); replace HO_6 := m_ (Kd.R_elder' (Kd.R_below HO_6.out bgo_) (Kd.R_base ho51) hb); replace HO_9 := m_ (Kd.R_elder' (Kd.R_below HO_9.out bgo_) (Kd.R_base ho51) hb); replace BK168 := m_ (bb_ BK168.out hb); replace HB := m_ (below_step hbs_ hb); clear hb ho51; have q52 : (x13_3 : Int) ≤ ((x9_1.length : Int) : Int) := od_; obtain ⟨i052, hi052, _, hsz52, _⟩ := info_parts info2; have hroom52 : x9_1.length ≤ co20 := (Kd.R_reads' HO_9.out).2.1; have hC52 : Kd.C (Kd.int .i64) _ Ao20 x9_1.length x9_1 := (Kd.R_reads' HO_9.out).2.2; have q052 : (0 : Int) ≤ (x13_3 : Int) := od_; have hcut52 := cut_from (P := Try.prog) 29 2 .i64 Try.underlying29 hi052 1 hsz52 Ao20 x9_1.length co20 x13_3 q052 q52; have hr52 := Kd.C_drop (m := (x13_3 : Int).toNat) (c := co20) hC52 (by omega) hroom52; obtain ⟨A52, hA52⟩ : ∃ A1, A1 = (if co20 = (x13_3 : Int).toNat then Ao20 else (Ao20 : Option Addr).map (·.add ((x13_3 : Int).toNat * 1))) := ⟨_, rfl⟩; obtain ⟨c52, hc52⟩ : ∃ c1, c1 = co20 - (x13_3 : Int).toNat := ⟨_, rfl⟩; have hy52 : y206.length = x9_1.length - (x13_3 : Int).toNat := (by rw [Ny206.out, List.length_drop] <;> omega); rw [show (x9_1).drop (x13_3 : Int).toNat = y206 from Ny206.out.symm] at hr52; replace hr52 : Kd.C (Kd.int .i64) _ A52 y206.length y206 := (by rw [hA52]; exact hr52); rw [← hy52, ← hA52, ← hc52] at hcut52; have HR209 := m_ hr52; have HC209 := m_ (show y206.length ≤ c52 from by rw [hy52, hc52]; exact Nat.sub_le_sub_right hroom52 _); clear hr52 hC52 hroom52 hi052 hsz52 hc52; have KY52 := m_ hy52; have KA52 := m_ hA52; clear hy52 hA52; have KL52 := m_ (show (x13_3 : Int).toNat ≤ x9_1.length from by omega); replace q52 := eq_true q52) | ((with_reducible refine gate_builtin (b := .append) (xs := #[.tmp 63, .tmp 66]) rfl ?_); at_builtin; refine Kd.R_append_rows (Kd.int .i64) (w0 := w) w.heap.size rfl (.tmp 63) (.tmp 66) 29 2 (.int .i64 0) 8 rfl Try.underlying29 info2 rfl (by decide) (by omega) v204 y203 y206 _ _ _ (fun k_ => some k_ ≠ (v170 : Value).ownBlock ∧ some k_ ≠ (.slice Ao20 x9_1.length co20 : Value).ownBlock) (fun _ => False) rfl rfl ?aO ?aR (fun _ _ h => h) (fun _ h => h.elim) ?aF ?aB ?aS ?aL ?_; (case aR => repeat (first | exact (by repeat (first | (with_reducible exact HR209.out) | (with_reducible refine Kd.C_alloc ?_ _) | (with_reducible refine Kd.C_drewN ?_ _) | (with_reducible refine Kd.C_drew ?_) | exact HR209.out)) | (with_reducible refine Kd.C_alloc ?_ _) | (with_reducible refine Kd.C_drewN ?_ _) | (with_reducible refine Kd.C_drew ?_))); (case aB => exact hbs_); (case aF => exact (fun k_ hk => ⟨Kd.fresh' (Kd.R_lt (Kd.R_below HO_6.out bgo_)) k_ hk, Kd.fresh' (Kd.R_lt (Kd.R_below HO_9.out bgo_)) k_ hk⟩)); (case aO => exact (Kd.R_below (Kd.R_mono HO205.out (fun _ hk => ⟨hk.1.2, hk.2⟩)) bgo_)); (case aS => exact (below_size hbs_)); (case aL => have := LMc45.out; omega); intro v211 w53 ho hb hg hat; rw [← Ny210.out] at ho; replace HO_6 := m_ (Kd.R_after (ok := (fun k_ => some k_ ≠ (.slice Ao20 x9_1.length co20 : Value).ownBlock)) (Kd.R_below HO_6.out bgo_) hg hat); replace HO_8 := m_ (Kd.R_over' (Kd.R_below HO_8.out bgo_) (Kd.R_typed (Kd.R_below HO205.out bgo_)) (by decide) hg); replace BK168 := m_ (blk_grown (blk_below BK168.out bgo_) hg (Kd.R_ne HO205.out BK168.out (by decide))); replace HB := m_ (hb); replace HR209 := m_ ((show Kd.C (Kd.int .i64) w53 A52 y206.length y206 from by rw [Ny206.out, KA52.out]; exact Kd.C_drop (m := (x13_3 : Int).toNat) (c := co20) ((Kd.R_reads' (Kd.R_after (ok := (fun k_ => some k_ ≠ (v170 : Value).ownBlock)) (Kd.R_below HO_9.out bgo_) hg hat)).2.2) KL52.out ((Kd.R_reads' (Kd.R_after (ok := (fun k_ => some k_ ≠ (v170 : Value).ownBlock)) (Kd.R_below HO_9.out bgo_) hg hat)).2.1))); replace HO_9 := m_ (Kd.R_after (ok := (fun k_ => some k_ ≠ (v170 : Value).ownBlock)) (Kd.R_below HO_9.out bgo_) hg hat); have HO212 := m_ (ho); clear HO205; clear ho hb hg hat; have q54 : (x13_3 : Int) ≤ ((x9_1.length : Int) : Int) := od_; obtain ⟨i054, hi054, _, hsz54, _⟩ := info_parts info2; have hroom54 : x9_1.length ≤ co20 := (Kd.R_reads' HO_9.out).2.1; have hC54 : Kd.C (Kd.int .i64) _ Ao20 x9_1.length x9_1 := (Kd.R_reads' HO_9.out).2.2; have hcut54 := cut_to (P := Try.prog) 29 2 .i64 Try.underlying29 hi054 Ao20 x9_1.length co20 x13_3 (od_) q54 hroom54; have hr54 := Kd.C_take (m := (x13_3 : Int).toNat) hC54 (by omega); have hy54 : y213.length = (x13_3 : Int).toNat := (by rw [Ny213.out, List.length_take]; omega); rw [← Ny213.out] at hr54; rw [← hy54] at hcut54; have HR216 := m_ hr54; have HC216 := m_ (show y213.length ≤ co20 from by omega); clear hr54 hC54 hroom54 hi054 hsz54; have KY54 := m_ hy54; clear hy54; have KL54 := m_ (show (x13_3 : Int).toNat ≤ x9_1.length from by omega); replace q54 := eq_true q54) | ((with_reducible refine gate_callee (f := 113) rfl ?_); refine gl_ (some 71) Try.func113 #[.slice Ao20 y213.length co20] ?_; (with_reducible refine (spec_l01Own.calls _ _ y213 t217 _ ?side1 ?side2 A48.out).mono ?_); (case side1 => repeat (first | exact (by repeat (first | (with_reducible exact HR216.out) | (with_reducible refine Kd.C_alloc ?_ _) | (with_reducible refine Kd.C_drewN ?_ _) | (with_reducible refine Kd.C_drew ?_) | exact HR216.out)) | (with_reducible refine Kd.C_alloc ?_ _) | (with_reducible refine Kd.C_drewN ?_ _) | (with_reducible refine Kd.C_drew ?_))); (case side2 => exact HC216.out); rintro e w55 ⟨v218, rfl, ho0, hb⟩; refine ⟨_, rfl, ?_⟩; replace HO_8 := m_ (Kd.R_below (Kd.R_below HO_8.out bgo_) hb); have HO219 := m_ (Kd.R_lower (Kd.R_new' (Kd.R_new' (Kd.R_new' ho0 (Kd.R_lt (Kd.R_below HO_6.out bgo_))) (Kd.R_lt (Kd.R_below HO_9.out bgo_))) (Kd.R_lt (Kd.R_below HO212.out bgo_))) (below_size hbs_)); replace HO_6 := m_ (Kd.R_elder' (Kd.R_below HO_6.out bgo_) (Kd.R_base ho0) hb); replace HO_9 := m_ (Kd.R_elder' (Kd.R_below HO_9.out bgo_) (Kd.R_base ho0) hb); replace HO212 := m_ (Kd.R_elder' (Kd.R_below HO212.out bgo_) (Kd.R_base ho0) hb); replace BK168 := m_ (bb_ BK168.out hb); replace HR209 := m_ (Kd.C_below (by repeat (first | (with_reducible exact HR209.out) | (with_reducible refine Kd.C_alloc ?_ _) | (with_reducible refine Kd.C_drewN ?_ _) | (with_reducible refine Kd.C_drew ?_) | exact HR209.out)) hb); replace HR216 := m_ (Kd.C_below (by repeat (first | (with_reducible exact HR216.out) | (with_reducible refine Kd.C_alloc ?_ _) | (with_reducible refine Kd.C_drewN ?_ _) | (with_reducible refine Kd.C_drew ?_) | exact HR216.out)) hb); replace HB := m_ (below_step hbs_ hb); clear hb; (try clear ho0); obtain ⟨Ao57, co57, eo57⟩ := Kd.R_slice HO212.out; subst eo57) | ((with_reducible refine gate_builtin (b := .append) (xs := #[.tmp 71, .tmp 72]) rfl ?_); at_builtin; refine Kd.R_append_rows (Kd.int .i64) (w0 := w) w.heap.size rfl (.tmp 71) (.tmp 72) 29 2 (.int .i64 0) 8 rfl Try.underlying29 info2 rfl (by decide) (by omega) v218 t217 y210 _ _ _ (fun k_ => some k_ ≠ (v170 : Value).ownBlock ∧ some k_ ≠ (.slice Ao20 x9_1.length co20 : Value).ownBlock ∧ some k_ ≠ (.slice Ao57 y210.length co57 : Value).ownBlock) (fun _ => False) rfl rfl ?aO ?aR (fun _ _ h => h) (fun _ h => h.elim) ?aF ?aB ?aS ?aL ?_; (case aR => repeat (first | exact (Kd.R_reads' HO212.out).2.2 | (with_reducible refine Kd.C_alloc ?_ _) | (with_reducible refine Kd.C_drewN ?_ _) | (with_reducible refine Kd.C_drew ?_))); (case aB => exact hbs_); (case aF => exact (fun k_ hk => ⟨Kd.fresh' (Kd.R_lt (Kd.R_below HO_6.out bgo_)) k_ hk, Kd.fresh' (Kd.R_lt (Kd.R_below HO_9.out bgo_)) k_ hk, Kd.fresh' (Kd.R_lt (Kd.R_below HO212.out bgo_)) k_ hk⟩)); (case aO => exact (Kd.R_below (Kd.R_mono HO219.out (fun _ hk => ⟨hk.1.1.2, ⟨hk.1.2, hk.2⟩⟩)) bgo_)); (case aS => exact (below_size hbs_)); (case aL => have := LMc49.out; omega); intro v221 w56 ho hb hg hat; rw [← Ny220.out] at ho; replace HO_6 := m_ (Kd.R_after (ok := (fun k_ => some k_ ≠ (.slice Ao20 x9_1.length co20 : Value).ownBlock ∧ some k_ ≠ (.slice Ao57 y210.length co57 : Value).ownBlock)) (Kd.R_below HO_6.out bgo_) hg hat); replace HO_8 := m_ (Kd.R_over' (Kd.R_below HO_8.out bgo_) (Kd.R_typed (Kd.R_below HO219.out bgo_)) (by decide) hg); replace BK168 := m_ (blk_grown (blk_below BK168.out bgo_) hg (Kd.R_ne HO219.out BK168.out (by decide))); replace HO212 := m_ (Kd.R_after (ok := (fun k_ => some k_ ≠ (v170 : Value).ownBlock ∧ some k_ ≠ (.slice Ao20 x9_1.length co20 : Value).ownBlock)) (Kd.R_below HO212.out bgo_) hg hat); replace HB := m_ (hb); replace HR209 := m_ ((show Kd.C (Kd.int .i64) w56 A52 y206.length y206 from by rw [Ny206.out, KA52.out]; exact Kd.C_drop (m := (x13_3 : Int).toNat) (c := co20) ((Kd.R_reads' (Kd.R_after (ok := (fun k_ => some k_ ≠ (v170 : Value).ownBlock ∧ some k_ ≠ (.slice Ao57 y210.length co57 : Value).ownBlock)) (Kd.R_below HO_9.out bgo_) hg hat)).2.2) KL52.out ((Kd.R_reads' (Kd.R_after (ok := (fun k_ => some k_ ≠ (v170 : Value).ownBlock ∧ some k_ ≠ (.slice Ao57 y210.length co57 : Value).ownBlock)) (Kd.R_below HO_9.out bgo_) hg hat)).2.1))); replace HR216 := m_ ((show Kd.C (Kd.int .i64) w56 Ao20 y213.length y213 from by rw [Ny213.out]; exact Kd.C_take (m := (x13_3 : Int).toNat) ((Kd.R_reads' (Kd.R_after (ok := (fun k_ => some k_ ≠ (v170 : Value).ownBlock ∧ some k_ ≠ (.slice Ao57 y210.length co57 : Value).ownBlock)) (Kd.R_below HO_9.out bgo_) hg hat)).2.2) KL54.out)); replace HO_9 := m_ (Kd.R_after (ok := (fun k_ => some k_ ≠ (v170 : Value).ownBlock ∧ some k_ ≠ (.slice Ao57 y210.length co57 : Value).ownBlock)) (Kd.R_below HO_9.out bgo_) hg hat); have HO222 := m_ (ho); clear HO219; clear ho hb hg hat))
            go_roundg k3
            case measure => have := HK1.out; have := HK2.out; have := HK3.out; omega
            case rel => exact ⟨(x8_2), (y220), (wrap64 (x10_1 + 1)), es_, H', ⟨by have := HK1.out; have := HK2.out; have := HK3.out; omega⟩, ⟨by (with_reducible repeat (first | apply Kd.R_alloc | apply Kd.R_drewN | apply Kd.R_drew)); exact Kd.R_mono HO_6.out (fun _ hk => hk.2)⟩, ⟨Kd.R_below HO_8.out bgo_⟩, ⟨by (with_reducible repeat (first | apply Kd.R_alloc | apply Kd.R_drewN | apply Kd.R_drew)); exact Kd.R_mono HO222.out (fun _ hk => hk.1)⟩, ⟨blk_below BK168.out bgo_⟩, ⟨hbs_⟩⟩
           ·rw [if_neg c42] at H
            have c42b0 := decide_eq_false c42
            clear c42
            have H' := m_ H
            clear H
            go_wp2
            go_roundg k3
            case measure => have := HK1.out; have := HK2.out; have := HK3.out; omega
            case rel => exact ⟨(x8_2), (x9_1), (wrap64 (x10_1 + 1)), es_, H', ⟨by have := HK1.out; have := HK2.out; have := HK3.out; omega⟩, ⟨Kd.R_below HO_6.out bgo_⟩, ⟨Kd.R_below HO_8.out bgo_⟩, ⟨Kd.R_below HO_9.out bgo_⟩, ⟨blk_below BK168.out bgo_⟩, ⟨hbs_⟩⟩
       ·replace c18 := Bool.eq_false_iff.mpr c18
        subst c18
        have H1 : (if x12_2 < (t169.length : Int) then (spec_TypeOfWalk.l1 k2 t169 (x8_2.set (x12_2 : Int).toNat true) x9_1 x10_1 (wrap64 (x11_2 + 1)) (rd t169 x12_2) a0_0 l0_1 a0_2 l0_3) else (none)) = some (r1, r2) := by rw [if_neg (show ¬ (false = true) by decide)] at H; exact H
        clear H
        have H := H1
        clear H1
        obtain ⟨y180, Ny180, H⟩ : ∃ y180 : List Bool, Aside0 (y180 = (x8_2.set (x12_2 : Int).toNat true)) ∧ (if x12_2 < (t169.length : Int) then (spec_TypeOfWalk.l1 k2 t169 y180 x9_1 x10_1 (wrap64 (x11_2 + 1)) (rd t169 x12_2) a0_0 l0_1 a0_2 l0_3) else (none)) = some (r1, r2) := ⟨_, ⟨rfl⟩, H⟩
        obtain ⟨c59, H⟩ := itn_ H
        have c59b0 := decide_eq_true c59
        clear c59
        have H' := m_ H
        clear H
        have HL8 := m_ (spec_TypeOfWalk.len4 HO_8.out)
        have p179 : 0 ≤ (x12_2 : Int) := od_
        have q179 : x12_2 < (x8_2.length : Int) := od_
        obtain ⟨ad179, e179, hx179_0⟩ := Kd.at_bool (Kd.R_reads' HO_8.out).2.2 x12_2 p179 q179
        (try rw [← Nbq17.out] at hx179_0)
        cases e179
        replace p179 := eq_true p179
        (first | simp only [add_plain] at hx179_0 | skip)
        replace q179 := eq_true (show x12_2 < 4 from by have := HL8.out; omega)
        have p58 : 0 ≤ (x12_2 : Int) := od_
        have q58 : (x12_2 : Int) < ((4 : Nat) : Int) := (by have := HL8.out; have h_ : x12_2 < (x8_2.length : Int) := od_; omega)
        obtain ⟨go58, co58, eo58, gb58, gl58, cl58, HG58⟩ := Kd.R_form HO_8.out (by have := HL8.out; omega)
        injection eo58 with ea_ en_ ec_
        injection ea_ with ea_
        injection ea_ with ea_ _ _
        subst ea_
        subst ec_
        clear en_
        have GB58 := m_ gb58
        have GG58 := m_ HG58
        clear gb58 gl58 HG58
        (first | simp only [add_plain] at hx179_0 | skip)
        obtain ⟨hx58_0, hf58_0⟩ := Kd.R_celln false HO_8.out (x12_2 : Int) p58 q58
        replace p58 := eq_true p58
        replace q58 := eq_true q58
        have HP61 := Kd.R_putg HO_8.out (x12_2 : Int) true
        go_wp2_with (first | ((with_reducible refine gate_store (t := 4) (p := 42) rfl ?_); refine store_event (t := 4) (p := 42) (v := ?vo_w62) (w1 := (wr.setCell ⟨gb8, (x12_2 : Int).toNat, none⟩ (.bool true))) ?hg ?ho ?hn ?hr ?_; (case ho => rfl); (case hg => rfl); (case hn => rfl); (case hr => first | (go_simp; done) | (go_simp; rfl)); intro w62 hw; have hg : wr.grownBy w62 (some gb8) := (by rw [hw]; exact HP61.2); have hp_ : Kd.R Kd.bool 82 w62 w.heap.size (fun _ => True) (.slice (some ⟨gb8, 0, none⟩) 4 4) y180 := (by rw [hw, Ny180.out]; exact HP61.1); clear HP61; replace HO_6 := m_ (Kd.R_over' (v := (.slice (some ⟨gb8, 0, none⟩) 4 4)) (Kd.R_below HO_6.out bgo_) (Kd.R_typed HO_8.out) (by decide) hg); replace HO_9 := m_ (Kd.R_over' (v := (.slice (some ⟨gb8, 0, none⟩) 4 4)) (Kd.R_below HO_9.out bgo_) (Kd.R_typed HO_8.out) (by decide) hg); replace BK168 := m_ (blk_grown (blk_below BK168.out bgo_) hg (Kd.R_ne HO_8.out BK168.out (by decide))); replace HO_8 := m_ (hp_); replace HB := m_ ((by rw [hw]; exact below_set (HB.out) GB58.out : Below w.heap.size w w62)); clear hg hw hp_; obtain ⟨Ao63, co63, eo63⟩ := Kd.R_slice HO_6.out; subst eo63; have p181 : 0 ≤ (x12_2 : Int) := od_; have q181 : x12_2 < (t169.length : Int) := od_; obtain ⟨ad181, e181, hx181_0⟩ := Kd.at_int (Kd.R_reads' HO_6.out).2.2 x12_2 p181 q181; cases e181; replace p181 := eq_true p181; replace q181 := eq_true q181))
        go_roundg k2
        case measure => have := HK1.out; have := HK2.out; omega
        case rel => exact ⟨(y180), (wrap64 (x11_2 + 1)), (rd t169 x12_2), es_, es_, H', ⟨by have := HK1.out; have := HK2.out; omega⟩, ⟨Kd.R_below HO_6.out bgo_⟩, ⟨Kd.R_below HO_8.out bgo_⟩, ⟨Kd.R_below HO_9.out bgo_⟩, ⟨blk_below BK168.out bgo_⟩, ⟨hbs_⟩⟩
    ·rw [if_neg c13] at H
     have c13b0 := decide_eq_false c13
     clear c13
     simp only [Option.some.injEq, Prod.mk.injEq] at H
     obtain ⟨rfl, rfl⟩ := H
     have hcz64_0 := bc0_ BK168.out
     have hcz64_1 := bc1_ BK168.out
     have hcz64_2 := bc2_ BK168.out
     have hcz64_3 := bc3_ BK168.out
     have hfz64_0 := blk_frozen BK168.out 0
     have hfz64_1 := blk_frozen BK168.out 1
     have hfz64_2 := blk_frozen BK168.out 2
     have hfz64_3 := blk_frozen BK168.out 3
     go_wp2
     go_ret2
     exact ⟨_, er_, by (with_reducible repeat (first | apply Kd.R_alloc | apply Kd.R_drewN | apply Kd.R_drew)); exact Kd.R_mono HO_9.out (fun _ hk => trivial), hbs_⟩
 ·rw [if_neg c4] at H
  have c4b0 : (t172 == 0) = false := beq_eq_false_iff_ne.mpr c4
  have c4b1 : (t172 != 0) = true := bne_iff_ne.mpr c4
  simp only [Option.some.injEq, Prod.mk.injEq] at H
  obtain ⟨rfl, rfl⟩ := H
  go_enter Try.func15, Try.ntmps15
  go_wp2_with (first | ((with_reducible refine gate_dst (N := 2) rfl ?_); refine bx_ (N := 2) (cs := #[.int .i64 a0_0, .slice A0_1 l0_1.length c0_1, .int .i64 a0_2, .slice A0_3 l0_3.length c0_3]) (t := 28) ?_; intro gb168 hg w65 hbox hb; have BK168 := m_ (hbox); have GW168 := m_ ((by rw [hg]; exact (below_size hb_) : w.heap.size ≤ gb168)); have GE168 := m_ ((by rw [hg]; exact (below_size hb_) : w.heap.size ≤ gb168)); replace HB := m_ (below_step hb_ hb); clear hb hbox hg; have hcz66_0 := bc0_ BK168.out; have hcz66_1 := bc1_ BK168.out; have hcz66_2 := bc2_ BK168.out; have hcz66_3 := bc3_ BK168.out; have hfz66_0 := blk_frozen BK168.out 0; have hfz66_1 := blk_frozen BK168.out 1; have hfz66_2 := blk_frozen BK168.out 2; have hfz66_3 := blk_frozen BK168.out 3) | ((with_reducible refine gate_callee (f := 110) rfl ?_); refine gl_ (some 18) Try.func110 #[.agg #[.int .i64 a0_0, .slice A0_1 l0_1.length c0_1, .int .i64 a0_2, .slice A0_3 l0_3.length c0_3], .slice A1 l1.length c1] ?_; (with_reducible refine (spec_l04Walk.calls k a0_0 _ _ l0_1 a0_2 _ _ l0_3 _ _ l1 t169 t172 _ ?side1 ?side2 ?side3 ?side4 ?side5 ?side6 A3.out).mono ?_); (case side1 => exact Kd.C_below (Kd.C_below HR0_1.out HB.out) bgo_); (case side2 => exact HC0_1.out); (case side3 => exact Kd.C_below (Kd.C_below HR0_3.out HB.out) bgo_); (case side4 => exact HC0_3.out); (case side5 => exact Kd.C_below (Kd.C_below HR1.out HB.out) bgo_); (case side6 => exact HC1.out); rintro e w67 ⟨v170, rfl, ho0, hb⟩; refine ⟨_, rfl, ?_⟩; have HO171 := m_ (Kd.R_lower ho0 (below_size hbs_)); replace BK168 := m_ (bb_ BK168.out hb); replace HB := m_ (below_step hbs_ hb); clear hb; (try clear ho0)))
  go_ret2
  exact ⟨_, er_, by first | exact Kd.R_nil _ _ _ _ _ | exact Kd.N_nil _ _ _ _ _ | exact Kd.V_nil _ _ _ _ _ | exact Kd.Q_nil _ _ _ _ _ | exact Kd.S_nil _ _ _ _ _, hbs_⟩

/-! ### laws_sum: function 16 -/
def laws_sum.l0 : Nat → List Int → Int → Int → Option (Int)
 | 0, _, _, _ => none
 | k + 1, x0, x3, x4 => if x4 < (x0.length : Int) then (if 0 ≤ x4 then (laws_sum.l0 k x0 (wrap64 (x3 + (rd x0 x4))) (wrap64 (x4 + 1))) else (none)) else (some x3)
def laws_sum.f (k : Nat) (l0 : List Int) : Option (Int) := laws_sum.l0 k l0 0 0
set_option maxHeartbeats 8000000 in
set_option maxRecDepth 100000 in
theorem laws_sum.calls (k : Nat) (A0 : Option Addr) (c0 : Nat) (l0 : List Int) (r : Int) (w : World) (hr0 : Kd.C (Kd.int .i64) w A0 l0.length l0) (hc0 : l0.length ≤ c0) (h : laws_sum.f k l0 = some r) :
  Calls Try.prog 16 #[.slice A0 l0.length c0] w fun e w' => e = .returned (.int .i64 r) ∧ Drawn0 w w' := by
 have HR0 := m_ hr0
 have HC0 := m_ hc0
 clear hr0 hc0
 have H : (laws_sum.l0 k l0 0 0) = some r := h
 clear h
 have H' := m_ H
 clear H
 go_enter Try.func16, Try.ntmps16
 go_wp2
 go_loopg [3, 4] k (fun kq v3 v4 w' => ∃ (x3_1 : Int) (x4_1 : Int), v3 = .int .i64 x3_1 ∧ v4 = .int .i64 x4_1 ∧ Aside0 (laws_sum.l0 kq l0 x3_1 x4_1 = some r) ∧ Aside0 (kq ≤ k) ∧ Drawn0 w w')
 case atStart => exact ⟨(0), (0), es_, es_, H', ⟨Nat.le_refl _⟩, by repeat (first | exact Drawn0.refl _ | apply Drawn0.step)⟩
 case round =>
  clear H'
  obtain ⟨x3_1, x4_1, rfl, rfl, HA, HK1, ⟨m1, rfl⟩⟩ := hrel
  cases gk with
  | zero => exact absurd HA.out (by simp [laws_sum.l0])
  | succ k1 =>
   have H := HA.out
   clear HA
   simp only [laws_sum.l0] at H
   by_cases c2 : x4_1 < (l0.length : Int)
   ·rw [if_pos c2] at H
    have c2b0 := decide_eq_true c2
    clear c2
    obtain ⟨c3, H⟩ := itn_ H
    have c3b0 := decide_eq_true c3
    clear c3
    have H' := m_ H
    clear H
    have p633 : 0 ≤ (x4_1 : Int) := od_
    have q633 : x4_1 < (l0.length : Int) := od_
    obtain ⟨ad633, e633, hx633_0⟩ := Kd.at_int HR0.out x4_1 p633 q633
    cases e633
    replace p633 := eq_true p633
    replace q633 := eq_true q633
    go_wp2
    go_roundg k1
    case measure => have := HK1.out; omega
    case rel => exact ⟨(wrap64 (x3_1 + (rd l0 x4_1))), (wrap64 (x4_1 + 1)), es_, es_, H', ⟨by have := HK1.out; omega⟩, by repeat (first | exact Drawn0.refl _ | apply Drawn0.step)⟩
   ·rw [if_neg c2] at H
    have c2b0 := decide_eq_false c2
    clear c2
    obtain rfl := Option.some.inj H
    go_wp2
    go_ret
    exact ⟨es_, by repeat (first | exact Drawn0.refl _ | apply Drawn0.step)⟩

end Go.Proofs.Ytkadhadceongiaa.G
