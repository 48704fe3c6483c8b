/- The printed functions that this law reaches, and their contracts: part 1. -/
-- printed by this repo's wip/printer out of the kit's print with its own changes
import Derived.Test.YtkadhadceongiaaC0
namespace Go.Proofs.Ytkadhadceongiaa.G
open Go.RowKit Go.Proofs.YtkadhadceongiaaW.PrintWords Go.Proofs.YtkadhadceongiaaW.PrintLast Go.Proofs.YtkadhadceongiaaW.PrintMore
attribute [local go_sem] max2_int min2_int max_two min_two max_three min_three max_four min_four   -- for this text's walks alone
set_option linter.unusedVariables false
set_option linter.unusedSimpArgs false

/-! ### spec_l01Split: function 267 -/
def spec_l01Split.l0 : Nat → ByteArray → Int → List ByteArray → Int → Int → Option (List ByteArray)
 | 0, _, _, _, _, _ => none
 | k + 1, x0, x1, x5, x6, x7 => if x7 < (x0.size : Int) then (if 0 ≤ x7 then (if (bt x0 x7) = x1 then (if 0 ≤ x6 then (if x6 ≤ x7 then (if x7 ≤ (x0.size : Int) then (if x5.length < 8796093022208 then (spec_l01Split.l0 k x0 x1 (x5 ++ [x0.extract (x6 : Int).toNat (x7 : Int).toNat]) (wrap64 (x7 + 1)) (wrap64 (x7 + 1))) else (none)) else (none)) else (none)) else (none)) else (spec_l01Split.l0 k x0 x1 x5 x6 (wrap64 (x7 + 1)))) else (none)) else (if 0 ≤ x6 then (if x6 ≤ (x0.size : Int) then (if x5.length < 8796093022208 then (some (x5 ++ [x0.extract (x6 : Int).toNat x0.size])) else (none)) else (none)) else (none))
def spec_l01Split.f (k : Nat) (a0 : ByteArray) (a1 : Int) : Option (List ByteArray) := spec_l01Split.l0 k a0 a1 (([] : List ByteArray)) 0 0
set_option maxHeartbeats 8000000 in
set_option maxRecDepth 100000 in
theorem spec_l01Split.calls (k : Nat) (a0 : ByteArray) (a1 : Int) (r : List ByteArray) (w : World) (h : spec_l01Split.f k a0 a1 = some r) :
  Calls Try.prog 267 #[.string a0, .int .u8 a1] w fun e w' => ∃ v0_ : Value, e = .returned (v0_) ∧ Kd.R Kd.string 9 w' w.heap.size (fun _ => True) v0_ r ∧ Below w.heap.size w w' := by
 have HB := m_ (Below.refl w.heap.size w)
 have H : (spec_l01Split.l0 k a0 a1 (([] : List ByteArray)) 0 0) = some r := h
 clear h
 obtain ⟨y238, Ny238, H⟩ : ∃ y238 : List ByteArray, Aside0 (y238 = (([] : List ByteArray))) ∧ (spec_l01Split.l0 k a0 a1 y238 0 0) = some r := ⟨_, ⟨rfl⟩, H⟩
 have H' := m_ H
 clear H
 go_enter Try.func267, Try.ntmps267
 go_wp2_with (first | ((with_reducible refine gate_dst (N := 8) rfl ?_); refine Kd.R_lit Kd.string _ 9 ?hg (N := 8) ?hd (xs := ([] : List ByteArray)) (inner := []) (ok := fun _ => True) (okp := fun _ => True) ?hr ?hp (fun _ hk => hk) trivial (Below.refl _ _) (Nat.le_refl _) (by simp) ?_; (case hd => rfl); (case hg => rfl); (case hr => first | (go_simp; done) | (go_simp; rfl)); (case hp => exact (Reps.none _ _)); intro v239 w3 ho4 hb hg_ hnew_; clear hg_ hnew_; rw [← Ny238.out] at ho4; have HO240 := m_ (Kd.R_lower ho4 (below_size hb_)); replace HB := m_ (below_step hb_ hb); clear hb ho4))
 go_loopg [5, 6, 7] k (fun kq v5 v6 v7 w' => ∃ (x5_1 : List ByteArray) (x6_1 : Int) (x7_1 : Int), v6 = .int .i64 x6_1 ∧ v7 = .int .i64 x7_1 ∧ Aside0 (spec_l01Split.l0 kq a0 a1 x5_1 x6_1 x7_1 = some r) ∧ Aside0 (kq ≤ k) ∧ Aside0 (Kd.R Kd.string 9 w' w.heap.size (fun _ => True) v5 x5_1) ∧ Aside0 (Below w.heap.size w w'))
 case atStart => exact ⟨(y238), (0), (0), es_, es_, H', ⟨Nat.le_refl _⟩, ⟨Kd.R_below HO240.out bgo_⟩, ⟨hb_⟩⟩
 case round =>
  clear H'
  obtain ⟨x5_1, x6_1, x7_1, rfl, rfl, HA, HK1, HO_5, HB⟩ := hrel
  cases gk with
  | zero => exact absurd HA.out (by simp [spec_l01Split.l0])
  | succ k1 =>
   have H := HA.out
   clear HA
   simp only [spec_l01Split.l0] at H
   by_cases c5 : x7_1 < (a0.size : Int)
   ·rw [if_pos c5] at H
    have c5b0 := decide_eq_true c5
    clear c5
    obtain ⟨c6, H⟩ := itn_ H
    have c6b0 := decide_eq_true c6
    clear c6
    by_cases c8 : (bt a0 x7_1) = a1
    ·rw [if_pos c8] at H
     have c8b0 : ((bt a0 x7_1) == a1) = true := beq_iff_eq.mpr c8
     have c8b1 : ((bt a0 x7_1) != a1) = false := bne_eq_false_iff_eq.mpr c8
     clear c8
     obtain ⟨c9, H⟩ := itn_ H
     have c9b0 := eq_true c9
     have c9b1 := decide_eq_true c9
     clear c9
     obtain ⟨c10, H⟩ := itn_ H
     have c10b0 := eq_true c10
     have c10b1 := decide_eq_true c10
     clear c10
     obtain ⟨c11, H⟩ := itn_ H
     have c11b0 := eq_true c11
     have c11b1 := decide_eq_true c11
     clear c11
     obtain ⟨c12, H⟩ := itn_ H
     have LMc12 := m_ c12
     clear c12
     obtain ⟨y241, Ny241, H⟩ : ∃ y241 : List ByteArray, Aside0 (y241 = (x5_1 ++ [a0.extract (x6_1 : Int).toNat (x7_1 : Int).toNat])) ∧ (spec_l01Split.l0 k1 a0 a1 y241 (wrap64 (x7_1 + 1)) (wrap64 (x7_1 + 1))) = some r := ⟨_, ⟨rfl⟩, H⟩
     have H' := m_ H
     clear H
     have p7 : 0 ≤ (x7_1 : Int) := od_
     have q7 : x7_1 < (a0.size : Int) := od_
     have hx7 := bt_at a0 x7_1
     replace p7 := eq_true p7
     replace q7 := eq_true q7
     go_wp2_with (first | ((with_reducible refine gate_builtin (b := .append) (xs := #[.tmp 20, .tmp 25]) rfl ?_); at_builtin; refine Kd.R_append Kd.string (w0 := w) w.heap.size rfl (.tmp 20) (.tmp 25) 166 9 (.string ⟨#[]⟩) 16 rfl Try.underlying166 info9 rfl (by decide) (by omega) u5 x5_1 (a0.extract (x6_1 : Int).toNat (x7_1 : Int).toNat) [.string (a0.extract (x6_1 : Int).toNat (x7_1 : Int).toNat)] (fun _ => True) (fun _ => False) rfl rfl ?aP (fun _ hk => hk.elim) ?aF ?aO ?aB ?aS ?aL ?_; (case aP => exact rfl); (case aB => exact hb_); (case aF => exact (fun _ _ => trivial)); (case aO => exact (Kd.R_below HO_5.out bgo_)); (case aS => exact (below_size hb_)); (case aL => have := LMc12.out; omega); intro v242 w13 ho hb hg hat; rw [← Ny241.out] at ho; replace HB := m_ (hb); have HO243 := m_ (ho); clear HO_5; clear ho hb hg hat))
     go_roundg k1
     case measure => have := HK1.out; omega
     case rel => exact ⟨(y241), (wrap64 (x7_1 + 1)), (wrap64 (x7_1 + 1)), es_, es_, H', ⟨by have := HK1.out; omega⟩, ⟨Kd.R_below HO243.out bgo_⟩, ⟨hb_⟩⟩
    ·rw [if_neg c8] at H
     have c8b0 : ((bt a0 x7_1) == a1) = false := beq_eq_false_iff_ne.mpr c8
     have c8b1 : ((bt a0 x7_1) != a1) = true := bne_iff_ne.mpr c8
     have H' := m_ H
     clear H
     have p7 : 0 ≤ (x7_1 : Int) := od_
     have q7 : x7_1 < (a0.size : Int) := od_
     have hx7 := bt_at a0 x7_1
     replace p7 := eq_true p7
     replace q7 := eq_true q7
     go_wp2
     go_roundg k1
     case measure => have := HK1.out; omega
     case rel => exact ⟨(x5_1), (x6_1), (wrap64 (x7_1 + 1)), es_, es_, H', ⟨by have := HK1.out; omega⟩, ⟨Kd.R_below HO_5.out bgo_⟩, ⟨hb_⟩⟩
   ·rw [if_neg c5] at H
    have c5b0 := decide_eq_false c5
    clear c5
    by_cases c14 : 0 ≤ x6_1
    ·rw [if_pos c14] at H
     have c14b0 := eq_true c14
     have c14b1 := decide_eq_true c14
     clear c14
     obtain ⟨c15, H⟩ := itn_ H
     have c15b0 := eq_true c15
     have c15b1 := decide_eq_true c15
     clear c15
     obtain ⟨c16, H⟩ := itn_ H
     have LMc16 := m_ c16
     clear c16
     obtain ⟨y244, Ny244, H⟩ : ∃ y244 : List ByteArray, Aside0 (y244 = (x5_1 ++ [a0.extract (x6_1 : Int).toNat a0.size])) ∧ (some y244) = some r := ⟨_, ⟨rfl⟩, H⟩
     obtain rfl := Option.some.inj H
     go_wp2_with (first | ((with_reducible refine gate_builtin (b := .append) (xs := #[.tmp 29, .tmp 33]) rfl ?_); at_builtin; refine Kd.R_append Kd.string (w0 := w) w.heap.size rfl (.tmp 29) (.tmp 33) 166 9 (.string ⟨#[]⟩) 16 rfl Try.underlying166 info9 rfl (by decide) (by omega) u5 x5_1 (a0.extract (x6_1 : Int).toNat a0.size) [.string (a0.extract (x6_1 : Int).toNat a0.size)] (fun _ => True) (fun _ => False) rfl rfl ?aP (fun _ hk => hk.elim) ?aF ?aO ?aB ?aS ?aL ?_; (case aP => exact rfl); (case aB => exact hb_); (case aF => exact (fun _ _ => trivial)); (case aO => exact (Kd.R_below HO_5.out bgo_)); (case aS => exact (below_size hb_)); (case aL => have := LMc16.out; omega); intro v245 w17 ho hb hg hat; rw [← Ny244.out] at ho; replace HB := m_ (hb); have HO246 := m_ (ho); clear HO_5; clear ho hb hg hat))
     go_ret
     exact ⟨_, er_, (Kd.R_below HO246.out bgo_), hb_⟩
    ·rw [if_neg c14] at H
     exact absurd H (by simp)

/-! ### spec_l01Number: function 268 -/
mutual
def spec_l01Number.j0 : Nat → ByteArray → Bool → Option (Int)
 | 0, _, _ => none
 | k + 1, x0, x22 => if x22 = true then (some (-1)) else (spec_l01Number.l0 k x0 0 0)
def spec_l01Number.l0 : Nat → ByteArray → Int → Int → Option (Int)
 | 0, _, _, _ => none
 | k + 1, x0, x3, x4 => if x4 < (x0.size : Int) then (if 0 ≤ x4 then (if (bt x0 x4) < 48 then (some (-1)) else (if (bt x0 x4) > 57 then (some (-1)) else (spec_l01Number.l0 k x0 (wrap64 ((wrap64 (x3 * 10)) + (((bt x0 x4) - 48) % 256))) (wrap64 (x4 + 1))))) else (none)) else (some x3)
end
def spec_l01Number.f (k : Nat) (a0 : ByteArray) : Option (Int) := if (a0.size : Int) = 0 then (spec_l01Number.j0 k a0 true) else (if (a0.size : Int) > 9 then (spec_l01Number.j0 k a0 true) else (if (a0.size : Int) > 1 then (if 0 < (a0.size : Int) then (spec_l01Number.j0 k a0 ((bt a0 0) == 48)) else (none)) else (spec_l01Number.j0 k a0 false)))
set_option maxHeartbeats 8000000 in
set_option maxRecDepth 100000 in
theorem spec_l01Number.calls (k : Nat) (a0 : ByteArray) (r : Int) (w : World) (h : spec_l01Number.f k a0 = some r) :
  Calls Try.prog 268 #[.string a0] w fun e w' => e = .returned (.int .i64 r) ∧ Drawn0 w w' := by
 have H : (if (a0.size : Int) = 0 then (spec_l01Number.j0 k a0 true) else (if (a0.size : Int) > 9 then (spec_l01Number.j0 k a0 true) else (if (a0.size : Int) > 1 then (if 0 < (a0.size : Int) then (spec_l01Number.j0 k a0 ((bt a0 0) == 48)) else (none)) else (spec_l01Number.j0 k a0 false)))) = some r := h
 clear h
 have HC2 := m_ H
 clear H
 go_enter Try.func268, Try.ntmps268
 go_upto_region 1 with (fail)
 go_cut [22] (fun v22 wc => ∃ (kq : Nat) (x22_1 : Bool), v22 = .bool x22_1 ∧ Aside0 (spec_l01Number.j0 kq a0 x22_1 = some r) ∧ Aside0 (kq ≤ k) ∧ Drawn0 w wc)
 case first =>
  have H := HC2.out
  clear HC2
  by_cases c3 : (a0.size : Int) = 0
  ·rw [if_pos c3] at H
   have c3b0 : ((a0.size : Int) == 0) = true := beq_iff_eq.mpr c3
   have c3b1 : ((a0.size : Int) != 0) = false := bne_eq_false_iff_eq.mpr c3
   clear c3
   (first | rw [c3b0] | (simp only [i64_w, i32_w]; rw [c3b0]) | skip)
   have H' := m_ H
   clear H
   go_wp2
   go_meet
   case rel => exact ⟨_, (true), es_, H', ⟨by first | omega | exact Nat.le_refl _⟩, by repeat (first | exact Drawn0.refl _ | apply Drawn0.step)⟩
  ·rw [if_neg c3] at H
   have c3b0 : ((a0.size : Int) == 0) = false := beq_eq_false_iff_ne.mpr c3
   have c3b1 : ((a0.size : Int) != 0) = true := bne_iff_ne.mpr c3
   (first | rw [c3b0] | (simp only [i64_w, i32_w]; rw [c3b0]) | skip)
   by_cases c4 : (a0.size : Int) > 9
   ·rw [if_pos c4] at H
    have c4b0 := decide_eq_true c4
    have c4b1 : decide (9 < a0.size) = true := decide_eq_true (by omega)
    clear c4
    have H' := m_ H
    clear H
    go_wp2
    go_meet
    case rel => exact ⟨_, (true), es_, H', ⟨by first | omega | exact Nat.le_refl _⟩, by repeat (first | exact Drawn0.refl _ | apply Drawn0.step)⟩
   ·rw [if_neg c4] at H
    have c4b0 := decide_eq_false c4
    have c4b1 : decide (9 < a0.size) = false := decide_eq_false (by omega)
    clear c4
    by_cases c5 : (a0.size : Int) > 1
    ·rw [if_pos c5] at H
     have c5b0 := decide_eq_true c5
     have c5b1 : decide (1 < a0.size) = true := decide_eq_true (by omega)
     clear c5
     obtain ⟨c6, H⟩ := itn_ H
     have c6b0 := decide_eq_true c6
     have c6b1 : decide (0 < a0.size) = true := decide_eq_true (by omega)
     clear c6
     have H' := m_ H
     clear H
     have p7 : 0 ≤ (0 : Int) := (by omega)
     have q7 : 0 < a0.size := (by have : (0 : Int) < (a0.size : Int) := od_; omega)
     have hx7 : ∀ h : 0 < a0.size, ((a0[0]'h).toNat : Int) = bt a0 0 := bt_at a0 0
     clear p7
     have qi7 : (0 < (a0.size : Int)) = True := eq_true (od_)
     replace q7 := eq_true q7
     go_wp2
     go_meet
     case rel => exact ⟨_, (((bt a0 0) == 48)), es_, H', ⟨by first | omega | exact Nat.le_refl _⟩, by repeat (first | exact Drawn0.refl _ | apply Drawn0.step)⟩
    ·rw [if_neg c5] at H
     have c5b0 := decide_eq_false c5
     have c5b1 : decide (1 < a0.size) = false := decide_eq_false (by omega)
     clear c5
     have H' := m_ H
     clear H
     go_wp2
     go_meet
     case rel => exact ⟨_, (false), es_, H', ⟨by first | omega | exact Nat.le_refl _⟩, by repeat (first | exact Drawn0.refl _ | apply Drawn0.step)⟩
 case rest =>
  clear HC2
  obtain ⟨kq, x22_1, rfl, HA, HJ1, ⟨mc1, rfl⟩⟩ := hcut
  cases kq with
  | zero => exact absurd HA.out (by simp [spec_l01Number.j0])
  | succ kj1 =>
   have H := HA.out
   clear HA
   simp only [spec_l01Number.j0] at H
   by_cases c8 : x22_1 = true
   ·subst c8
    have H1 : (some (-1)) = some r := by rw [if_pos rfl] at H; exact H
    clear H
    have H := H1
    clear H1
    obtain rfl := Option.some.inj H
    go_wp2
    go_ret
    exact ⟨es_, by repeat (first | exact Drawn0.refl _ | apply Drawn0.step)⟩
   ·replace c8 := Bool.eq_false_iff.mpr c8
    subst c8
    have H1 : (spec_l01Number.l0 kj1 a0 0 0) = some r := by rw [if_neg (show ¬ (false = true) by decide)] at H; exact H
    clear H
    have H := H1
    clear H1
    have H' := m_ H
    clear H
    go_wp2
    go_loopg [3, 4] kj1 (fun kq v3 v4 w' => ∃ (x3_2 : Int) (x4_2 : Int), v3 = .int .i64 x3_2 ∧ v4 = .int .i64 x4_2 ∧ Aside0 (spec_l01Number.l0 kq a0 x3_2 x4_2 = some r) ∧ Aside0 (kq ≤ kj1) ∧ Drawn0 w w')
    case atStart => exact ⟨(0), (0), es_, es_, H', ⟨Nat.le_refl _⟩, by repeat (first | exact Drawn0.refl _ | apply Drawn0.step)⟩
    case round =>
     clear H'
     obtain ⟨x3_2, x4_2, rfl, rfl, HA, HK2, ⟨m2, rfl⟩⟩ := hrel
     cases gk with
     | zero => exact absurd HA.out (by simp [spec_l01Number.l0])
     | succ k2 =>
      have H := HA.out
      clear HA
      simp only [spec_l01Number.l0] at H
      by_cases c9 : x4_2 < (a0.size : Int)
      ·rw [if_pos c9] at H
       have c9b0 := decide_eq_true c9
       clear c9
       obtain ⟨c10, H⟩ := itn_ H
       have c10b0 := decide_eq_true c10
       clear c10
       by_cases c12 : (bt a0 x4_2) < 48
       ·rw [if_pos c12] at H
        have c12b0 := decide_eq_true c12
        clear c12
        obtain rfl := Option.some.inj H
        have p11 : 0 ≤ (x4_2 : Int) := od_
        have q11 : x4_2 < (a0.size : Int) := od_
        have hx11 := bt_at a0 x4_2
        replace p11 := eq_true p11
        replace q11 := eq_true q11
        go_wp2
        go_ret
        exact ⟨es_, by repeat (first | exact Drawn0.refl _ | apply Drawn0.step)⟩
       ·rw [if_neg c12] at H
        have c12b0 := decide_eq_false c12
        clear c12
        by_cases c14 : (bt a0 x4_2) > 57
        ·rw [if_pos c14] at H
         have c14b0 := decide_eq_true c14
         clear c14
         obtain rfl := Option.some.inj H
         have p11 : 0 ≤ (x4_2 : Int) := od_
         have q11 : x4_2 < (a0.size : Int) := od_
         have hx11 := bt_at a0 x4_2
         replace p11 := eq_true p11
         replace q11 := eq_true q11
         have p13 : 0 ≤ (x4_2 : Int) := od_
         have q13 : x4_2 < (a0.size : Int) := od_
         have hx13 := bt_at a0 x4_2
         replace p13 := eq_true p13
         replace q13 := eq_true q13
         go_wp2
         go_ret
         exact ⟨es_, by repeat (first | exact Drawn0.refl _ | apply Drawn0.step)⟩
        ·rw [if_neg c14] at H
         have c14b0 := decide_eq_false c14
         clear c14
         have H' := m_ H
         clear H
         have p11 : 0 ≤ (x4_2 : Int) := od_
         have q11 : x4_2 < (a0.size : Int) := od_
         have hx11 := bt_at a0 x4_2
         replace p11 := eq_true p11
         replace q11 := eq_true q11
         have p13 : 0 ≤ (x4_2 : Int) := od_
         have q13 : x4_2 < (a0.size : Int) := od_
         have hx13 := bt_at a0 x4_2
         replace p13 := eq_true p13
         replace q13 := eq_true q13
         have p15 : 0 ≤ (x4_2 : Int) := od_
         have q15 : x4_2 < (a0.size : Int) := od_
         have hx15 := bt_at a0 x4_2
         replace p15 := eq_true p15
         replace q15 := eq_true q15
         go_wp2
         go_roundg k2
         case measure => have := HJ1.out; have := HK2.out; omega
         case rel => exact ⟨(wrap64 ((wrap64 (x3_2 * 10)) + (((bt a0 x4_2) - 48) % 256))), (wrap64 (x4_2 + 1)), es_, es_, H', ⟨by have := HJ1.out; have := HK2.out; omega⟩, by repeat (first | exact Drawn0.refl _ | apply Drawn0.step)⟩
      ·rw [if_neg c9] at H
       have c9b0 := decide_eq_false c9
       clear c9
       obtain rfl := Option.some.inj H
       go_wp2
       go_ret
       exact ⟨es_, by repeat (first | exact Drawn0.refl _ | apply Drawn0.step)⟩

/-! ### spec_l01Read: function 264 -/
mutual
def spec_l01Read.j0 : Nat → List ByteArray → Int → List (List Int) → Option (Int × (List (List Int)) × Bool)
 | 0, _, _, _ => none
 | k + 1, x6, x257000, x257001 => spec_l01Read.l0 k x6 0 x257000 x257001
def spec_l01Read.l0 : Nat → List ByteArray → Int → Int → List (List Int) → Option (Int × (List (List Int)) × Bool)
 | 0, _, _, _, _ => none
 | k + 1, x6, x7, x257000, x257001 => if x7 < (x6.length : Int) then (if 0 ≤ x7 then ((spec_l01Split.f k (rdOf ByteArray.empty x6 x7) 45).bind fun t267 => (if (t267.length : Int) = 2 then (if 0 < (t267.length : Int) then ((spec_l01Number.f k (rdOf ByteArray.empty t267 0)).bind fun t271 => (if 1 < (t267.length : Int) then ((spec_l01Number.f k (rdOf ByteArray.empty t267 1)).bind fun t273 => (if x257001.length < 5864062014805 then (spec_l01Read.l0 k x6 (wrap64 (x7 + 1)) x257000 (x257001 ++ [(([t271, t273] : List Int))])) else (none))) else (none))) else (none)) else (some (0, ([] : List (List Int)), false)))) else (none)) else ((spec_l01Is.f k x257000 x257001).bind fun t265 => (if t265 = true then (some (x257000, x257001, true)) else (some (0, ([] : List (List Int)), false))))
end
def spec_l01Read.f (k : Nat) (a0 : ByteArray) : Option (Int × (List (List Int)) × Bool) := (spec_l01Split.f k a0 58).bind fun t248 => (if (t248.length : Int) = 2 then (if 0 < (t248.length : Int) then ((spec_l01Number.f k (rdOf ByteArray.empty t248 0)).bind fun t252 => ((some (([] : List (List Int)) : List (List Int))).bind fun y253 => (if 1 < (t248.length : Int) then ((spec_l01Split.f k (rdOf ByteArray.empty t248 1) 44).bind fun t258 => (if (rdOf ByteArray.empty t248 1).toList = ([] : List UInt8) then (spec_l01Read.j0 k (([] : List ByteArray)) t252 y253) else (spec_l01Read.j0 k t258 t252 y253))) else (none)))) else (none)) else (some (0, ([] : List (List Int)), false)))
def spec_l01Read.T14 : Bool × List (List Nat × List Nat) := (true, [([], []), ([0], [0]), ([], []), ([2], [2]), ([3], [3]), ([4], [4]), ([], []), ([6], [6]), ([7], [7]), ([8, 5], [8]), ([5, 9], [5, 9]), ([10], [10]), ([1, 11, 9], [1, 11]), ([0, 1, 2, 3, 4, 5, 6, 7, 8, 9, 10, 11, 12], []), ([13, 12, 12, 0, 1, 2, 3, 4, 5, 6, 7, 8, 9, 10, 11, 12], [12, 13])])
def spec_l01Read.B14 : List Nat := [0, 1, 0, 4, 12, 28, 0, 64, 192, 508, 1020, 2044, 4095, 8191, 16383]
theorem spec_l01Read.tab14 : rtab .any (opsOf Try.f264 14) = spec_l01Read.T14 := by kernel_rfl
theorem spec_l01Read.bits14 : waitsOk spec_l01Read.T14.2 spec_l01Read.B14 = true := by kernel_rfl
set_option maxHeartbeats 8000000 in
set_option maxRecDepth 100000 in
theorem spec_l01Read.calls (k : Nat) (a0 : ByteArray) (r1 : Int) (r2 : List (List Int)) (r3 : Bool) (w : World) (h : spec_l01Read.f k a0 = some (r1, r2, r3)) :
  Calls Try.prog 264 #[.string a0] w fun e w' => ∃ v1_ : Value, e = .returned (.tuple #[.agg #[.int .i64 r1, v1_], .bool r3]) ∧ Kd.S (Kd.slice 2 (Kd.int .i64)) 29 w' w.heap.size (fun _ => True) v1_ r2 ∧ Below w.heap.size w w' := by
 have hu26 := Try.underlying26
 have HB := m_ (Below.refl w.heap.size w)
 have H : ((spec_l01Split.f k a0 58).bind fun t248 => (if (t248.length : Int) = 2 then (if 0 < (t248.length : Int) then ((spec_l01Number.f k (rdOf ByteArray.empty t248 0)).bind fun t252 => ((some (([] : List (List Int)) : List (List Int))).bind fun y253 => (if 1 < (t248.length : Int) then ((spec_l01Split.f k (rdOf ByteArray.empty t248 1) 44).bind fun t258 => (if (rdOf ByteArray.empty t248 1).toList = ([] : List UInt8) then (spec_l01Read.j0 k (([] : List ByteArray)) t252 y253) else (spec_l01Read.j0 k t258 t252 y253))) else (none)))) else (none)) else (some (0, ([] : List (List Int)), false)))) = some (r1, r2, r3) := h
 clear h
 obtain ⟨t248, A2, H⟩ := bnd_ H
 by_cases c3 : (t248.length : Int) = 2
 ·rw [if_pos c3] at H
  have c3b0 : ((t248.length : Int) == 2) = true := beq_iff_eq.mpr c3
  have c3b1 : ((t248.length : Int) != 2) = false := bne_eq_false_iff_eq.mpr c3
  clear c3
  obtain ⟨c4, H⟩ := itn_ H
  have c4b0 := decide_eq_true c4
  have c4b1 : decide (0 < t248.length) = true := decide_eq_true (by omega)
  clear c4
  obtain ⟨t252, A5, H⟩ := bnd_ H
  obtain ⟨y253, Ny253, H⟩ : ∃ y253 : List (List Int), Aside0 (y253 = (([] : List (List Int)))) ∧ (if 1 < (t248.length : Int) then ((spec_l01Split.f k (rdOf ByteArray.empty t248 1) 44).bind fun t258 => (if (rdOf ByteArray.empty t248 1).toList = ([] : List UInt8) then (spec_l01Read.j0 k (([] : List ByteArray)) t252 y253) else (spec_l01Read.j0 k t258 t252 y253))) else (none)) = some (r1, r2, r3) := ⟨_, ⟨rfl⟩, H⟩
  obtain ⟨c6, H⟩ := itn_ H
  have c6b0 := decide_eq_true c6
  have c6b1 : decide (1 < t248.length) = true := decide_eq_true (by omega)
  clear c6
  obtain ⟨t258, A7, H⟩ := bnd_ H
  have HC8 := m_ H
  clear H
  go_enter Try.func264, Try.ntmps264
  go_upto_if 28 with (first | ((with_reducible refine gate_dst (N := 2) rfl ?_); refine bx_ (N := 2) (cs := #[.int .i64 0, .slice none 0 0]) (t := 26) ?_; intro gb247 hg w9 hbox hb; have BK247 := m_ (hbox); have GW247 := m_ ((by rw [hg]; exact (below_size hb_) : w.heap.size ≤ gb247)); have GE247 := m_ ((by rw [hg]; exact (below_size hb_) : w.heap.size ≤ gb247)); replace HB := m_ (below_step hb_ hb); clear hb hbox hg) | ((with_reducible refine gate_callee (f := 267) rfl ?_); refine gl_ (some 10) Try.func267 #[.string a0, .int .u8 58] ?_; (with_reducible refine (spec_l01Split.calls k a0 58 t248 _ A2.out).mono ?_); rintro e w10 ⟨v249, rfl, ho0, hb⟩; refine ⟨_, rfl, ?_⟩; have HO250 := m_ (Kd.R_lower ho0 (below_size hbs_)); replace BK247 := m_ (bb_ BK247.out hb); replace HB := m_ (below_step hbs_ hb); clear hb; (try clear ho0); obtain ⟨Ao11, co11, eo11⟩ := Kd.R_slice HO250.out; subst eo11; have p251 : 0 ≤ (0 : Int) := (by omega); have q251 : 0 < (t248.length : Int) := od_; obtain ⟨ad251, e251, hx251_0⟩ := Kd.at_string (Kd.R_reads' HO250.out).2.2 0 p251 q251; cases e251; have qi251 : (0 < t248.length) = True := eq_true (by omega); (try rw [show ((0 : Int)).toNat = 0 from rfl] at hx251_0); (try rw [Addr.add_zero'] at hx251_0); replace p251 := eq_true p251; replace q251 := eq_true q251) | ((with_reducible refine gate_callee (f := 268) rfl ?_); refine gl_ (some 18) Try.func268 #[.string (rdOf ByteArray.empty t248 0)] ?_; (with_reducible refine (spec_l01Number.calls k (rdOf ByteArray.empty t248 0) t252 _ A5.out).mono ?_); rintro e w' ⟨rfl, ⟨nd, rfl⟩⟩; refine ⟨_, rfl, ?_⟩; (try (rw [drewN_self w10]; generalize hq_ : World.drewN w10 _ = w10; have n0_ : Aside0 (Kd.R Kd.string 9 w10 w.heap.size (fun _ => True) (.slice (some ad251) t248.length co11) t248) := ⟨by rw [← hq_]; exact (Kd.R_below HO250.out bgo_)⟩; have n1_ : Aside0 (w10.heap[gb247]? = some (.cells #[.int .i64 0, .slice none 0 0] 26 (0, 0))) := ⟨by rw [← hq_]; exact (blk_below BK247.out bgo_)⟩; have n2_ : Aside0 (Below w.heap.size w w10) := ⟨by rw [← hq_]; exact hbs_⟩; clear HO250 BK247 HB hq_; have HO250 := n0_; have BK247 := n1_; have HB := n2_; clear n0_ n1_ n2_))) | ((with_reducible refine gate_dst (N := 19) rfl ?_); refine Kd.S_lit (Kd.slice 2 (Kd.int .i64)) _ 29 ?hg (N := 19) ?hd (xs := ([] : List (List Int))) (inner := []) (ok := fun _ => True) (okp := fun _ => True) ?hr ?hp (fun _ hk => hk) trivial (Below.refl _ _) (Nat.le_refl _) (by simp) ?_; (case hd => rfl); (case hg => rfl); (case hr => first | (go_simp; done) | (go_simp; rfl)); (case hp => exact (Reps.none _ _)); intro v254 w12 ho13 hb hg_ hnew_; clear hg_ hnew_; rw [← Ny253.out] at ho13; replace HO250 := m_ (Kd.R_below (Kd.R_below HO250.out bgo_) hb); have HO255 := m_ (Kd.S_lower ho13 (below_size hbs_)); replace BK247 := m_ (bb_ BK247.out hb); replace HB := m_ (below_step hbs_ hb); clear hb ho13; obtain ⟨Ao14, co14, eo14⟩ := Kd.S_slice HO255.out; subst eo14) | ((with_reducible refine gate_dst (N := 5) rfl ?_); refine bx_ (N := 5) (cs := #[.int .i64 0, .slice none 0 0]) (t := 26) ?_; intro gb256 hg w15 hbox hb; replace HO250 := m_ (Kd.R_below (Kd.R_below HO250.out bgo_) hb); replace HO255 := m_ (Kd.S_below (Kd.S_below HO255.out bgo_) hb); have BK256 := m_ (hbox); have GW256 := m_ ((by rw [hg]; exact (below_size hbs_) : w.heap.size ≤ gb256)); have GE256 := m_ ((by rw [hg]; exact (below_size hbs_) : w.heap.size ≤ gb256)); replace HB := m_ (below_step hbs_ hb); have NB247_256 := m_ ((by rw [hg]; exact Nat.ne_of_lt (blk_lt (blk_below BK247.out bgo_)) : gb247 ≠ gb256)); have NB256_247 := m_ NB247_256.out.symm; replace BK247 := m_ (bb_ BK247.out hb); clear hb hbox hg; have hnb16 := NB256_247.out; have hnc16 := NB247_256.out; have hcz17_0 := bc0_ BK256.out; have hcz17_1 := bc1_ BK256.out; have hfz17_0 := blk_frozen BK256.out 0; have hfz17_1 := blk_frozen BK256.out 1; have p257 : 0 ≤ (1 : Int) := (by omega); have q257 : 1 < (t248.length : Int) := od_; obtain ⟨ad257, e257, hx257_0⟩ := Kd.at_string (Kd.R_reads' HO250.out).2.2 1 p257 q257; obtain rfl : ad251 = ad257 := (by injection e257); (try simp only [show (1 : Int).toNat = 1 from rfl, Nat.reduceMul, Nat.reduceEqDiff, Go.Addr.add, ↓reduceIte] at hx257_0); have qi257 : (1 < t248.length) = True := eq_true (by omega); (try rw [show ((1 : Int)).toNat = 1 from rfl] at hx257_0); have hn257_0 : ad251.block ≠ gb256 := Kd.own_blk (Kd.R_ne HO250.out BK256.out (by decide)); have hn257_1 : ad251.block ≠ gb256 := Kd.own_blk (Kd.R_ne HO250.out BK256.out (by decide)); replace hx257_0 := (cell_far (p := ⟨gb256, 0, none⟩) (by first | (rw [add_block]; exact hn257_0) | (show (Addr.add _ _).block ≠ _; rw [add_block]; exact hn257_0) | exact hn257_0) (.int .i64 t252)).trans hx257_0; replace hx257_0 := (cell_far (p := ⟨gb256, 1, none⟩) (by first | (rw [add_block]; exact hn257_1) | (show (Addr.add _ _).block ≠ _; rw [add_block]; exact hn257_1) | exact hn257_1) (.slice Ao14 y253.length co14)).trans hx257_0; clear hn257_0; clear hn257_1; replace p257 := eq_true p257; replace q257 := eq_true q257) | ((with_reducible refine gate_callee (f := 267) rfl ?_); refine gl_ (some 24) Try.func267 #[.string (rdOf ByteArray.empty t248 1), .int .u8 44] ?_; (with_reducible refine (spec_l01Split.calls k (rdOf ByteArray.empty t248 1) 44 t258 _ A7.out).mono ?_); rintro e w18 ⟨v259, rfl, ho0, hb⟩; refine ⟨_, rfl, ?_⟩; replace HO255 := m_ (Kd.S_below (by (with_reducible repeat (first | apply Kd.S_alloc | apply Kd.S_drewN | apply Kd.S_drew)); exact (Kd.S_mono (Kd.S_far (p := ⟨gb256, 1, none⟩) (Kd.S_far (p := ⟨gb256, 0, none⟩) (Kd.S_types HO255.out BK256.out (by decide)) (fun _ hk => hk.2) (.int .i64 t252)) (fun _ hk => hk.2) (.slice Ao14 y253.length co14)) (fun _ h_ => h_.1))) hb); have HO260 := m_ (Kd.R_lower (Kd.R_new' ho0 (Kd.R_lt (by (with_reducible repeat (first | apply Kd.R_alloc | apply Kd.R_drewN | apply Kd.R_drew)); exact (Kd.R_mono (Kd.R_far (p := ⟨gb256, 1, none⟩) (Kd.R_far (p := ⟨gb256, 0, none⟩) (Kd.R_types HO250.out BK256.out (by decide)) (fun _ hk => hk.2) (.int .i64 t252)) (fun _ hk => hk.2) (.slice Ao14 y253.length co14)) (fun _ h_ => h_.1))))) (below_size hbs_)); replace HO250 := m_ (Kd.R_elder' (by (with_reducible repeat (first | apply Kd.R_alloc | apply Kd.R_drewN | apply Kd.R_drew)); exact (Kd.R_mono (Kd.R_far (p := ⟨gb256, 1, none⟩) (Kd.R_far (p := ⟨gb256, 0, none⟩) (Kd.R_types HO250.out BK256.out (by decide)) (fun _ hk => hk.2) (.int .i64 t252)) (fun _ hk => hk.2) (.slice Ao14 y253.length co14)) (fun _ h_ => h_.1))) (Kd.R_base ho0) hb); replace BK247 := m_ (blk_below (g := gb247) (o := .cells #[.int .i64 0, .slice none 0 0] 26 (0, 0)) bk_ hb); replace BK256 := m_ (blk_below (g := gb256) (o := .cells #[.int .i64 t252, .slice Ao14 y253.length co14] 26 (0, 0)) (by (with_reducible repeat (first | refine blk_drewN ?_ _ | refine blk_drew ?_ | refine blk_alloc ?_ _)); refine blk_put (cs := #[.int .i64 t252, .slice none 0 0]) ?_ 1 _ rfl; (with_reducible repeat (first | refine blk_drewN ?_ _ | refine blk_drew ?_ | refine blk_alloc ?_ _)); refine blk_put (cs := #[.int .i64 0, .slice none 0 0]) ?_ 0 _ rfl; (with_reducible repeat (first | refine blk_drewN ?_ _ | refine blk_drew ?_ | refine blk_alloc ?_ _)); exact BK256.out) hb); replace HB := m_ (below_step hbs_ hb); clear hb; (try clear ho0); have p261 : 0 ≤ (1 : Int) := (by omega); have q261 : 1 < (t248.length : Int) := od_; obtain ⟨ad261, e261, hx261_0⟩ := Kd.at_string (Kd.R_reads' HO250.out).2.2 1 p261 q261; obtain rfl : ad251 = ad261 := (by injection e261); (try simp only [show (1 : Int).toNat = 1 from rfl, Nat.reduceMul, Nat.reduceEqDiff, Go.Addr.add, ↓reduceIte] at hx261_0); have qi261 : (1 < t248.length) = True := eq_true (by omega); (try rw [show ((1 : Int)).toNat = 1 from rfl] at hx261_0); replace p261 := eq_true p261; replace q261 := eq_true q261))
  (try simp only [Act.put, List.setIfInBounds_toArray, List.set_cons_zero, List.set_cons_succ])
  go_cut [6] (fun v6 wc => ∃ (kq : Nat) (x6_7 : List ByteArray), Aside0 (spec_l01Read.j0 kq x6_7 t252 y253 = some (r1, r2, r3)) ∧ Aside0 (kq ≤ k) ∧ Aside0 (Kd.R Kd.string 9 wc w.heap.size (fun _ => True) v6 x6_7) ∧ Aside0 (Kd.S (Kd.slice 2 (Kd.int .i64)) 29 wc w.heap.size (fun _ => True) (.slice Ao14 y253.length co14) y253) ∧ Aside0 (wc.heap[gb247]? = some (.cells #[.int .i64 0, (.slice none 0 0)] 26 (0, 0))) ∧ Aside0 (wc.heap[gb256]? = some (.cells #[.int .i64 t252, (.slice Ao14 y253.length co14)] 26 (0, 0))) ∧ Aside0 (Below w.heap.size w wc))
  case first =>
   have H := HC8.out
   clear HC8
   by_cases c19 : (rdOf ByteArray.empty t248 1).toList = ([] : List UInt8)
   ·rw [if_pos c19] at H
    have c19b0 : ((rdOf ByteArray.empty t248 1).toList == ([] : List UInt8)) = true := beq_iff_eq.mpr c19
    have c19b3 : (rdOf ByteArray.empty t248 1).toList.isEmpty = true := by simpa using c19b0
    have c19b1 : ((rdOf ByteArray.empty t248 1).toList != ([] : List UInt8)) = false := bne_eq_false_iff_eq.mpr c19
    clear c19
    (first | rw [c19b3] | rw [c19b0] | (simp only [i64_w, i32_w]; rw [c19b0]) | skip)
    obtain ⟨y262, Ny262, H⟩ : ∃ y262 : List ByteArray, Aside0 (y262 = (([] : List ByteArray))) ∧ (spec_l01Read.j0 k y262 t252 y253) = some (r1, r2, r3) := ⟨_, ⟨rfl⟩, H⟩
    have H' := m_ H
    clear H
    go_wp2_with (first | ((with_reducible refine gate_dst (N := 29) rfl ?_); refine Kd.R_lit Kd.string _ 9 ?hg (N := 29) ?hd (xs := ([] : List ByteArray)) (inner := []) (ok := fun _ => True) (okp := fun _ => True) ?hr ?hp (fun _ hk => hk) trivial (Below.refl _ _) (Nat.le_refl _) (by simp) ?_; (case hd => rfl); (case hg => rfl); (case hr => first | (go_simp; done) | (go_simp; rfl)); (case hp => exact (Reps.none _ _)); intro v263 w20 ho21 hb hg_ hnew_; clear hg_ hnew_; rw [← Ny262.out] at ho21; replace HO255 := m_ (Kd.S_below (Kd.S_below HO255.out bgo_) hb); have HO264 := m_ (Kd.R_lower (Kd.R_new' (Kd.R_new' ho21 (Kd.R_lt (Kd.R_below HO250.out bgo_))) (Kd.R_lt (Kd.R_below HO260.out bgo_))) (below_size hbs_)); replace HO250 := m_ (Kd.R_elder' (Kd.R_below HO250.out bgo_) (Kd.R_base ho21) hb); replace HO260 := m_ (Kd.R_elder' (Kd.R_below HO260.out bgo_) (Kd.R_base ho21) hb); replace BK247 := m_ (bb_ BK247.out hb); replace BK256 := m_ (bb_ BK256.out hb); replace HB := m_ (below_step hbs_ hb); clear hb ho21))
    go_meet
    case rel => exact ⟨_, (y262), H', ⟨by first | omega | exact Nat.le_refl _⟩, ⟨by (with_reducible repeat (first | apply Kd.R_alloc | apply Kd.R_drewN | apply Kd.R_drew)); exact Kd.R_mono HO264.out (fun _ hk => trivial)⟩, ⟨Kd.S_below HO255.out bgo_⟩, ⟨blk_below BK247.out bgo_⟩, ⟨blk_below BK256.out bgo_⟩, ⟨hbs_⟩⟩
   ·rw [if_neg c19] at H
    have c19b0 : ((rdOf ByteArray.empty t248 1).toList == ([] : List UInt8)) = false := beq_eq_false_iff_ne.mpr c19
    have c19b3 : (rdOf ByteArray.empty t248 1).toList.isEmpty = false := by simpa using c19b0
    have c19b1 : ((rdOf ByteArray.empty t248 1).toList != ([] : List UInt8)) = true := bne_iff_ne.mpr c19
    (first | rw [c19b3] | rw [c19b0] | (simp only [i64_w, i32_w]; rw [c19b0]) | skip)
    have H' := m_ H
    clear H
    go_wp2
    go_meet
    case rel => exact ⟨_, (t258), H', ⟨by first | omega | exact Nat.le_refl _⟩, ⟨by (with_reducible repeat (first | apply Kd.R_alloc | apply Kd.R_drewN | apply Kd.R_drew)); exact Kd.R_mono HO260.out (fun _ hk => trivial)⟩, ⟨Kd.S_below HO255.out bgo_⟩, ⟨blk_below BK247.out bgo_⟩, ⟨blk_below BK256.out bgo_⟩, ⟨hbs_⟩⟩
  case rest =>
   clear HC8
   obtain ⟨kq, x6_7, HA, HJ7, HO_6, HO_257001, BK247, BK256, HB⟩ := hcut
   cases kq with
   | zero => exact absurd HA.out (by simp [spec_l01Read.j0])
   | succ kj7 =>
    have H := HA.out
    clear HA
    simp only [spec_l01Read.j0] at H
    have H' := m_ H
    clear H
    go_wp2
    go_loopg [7] kj7 (fun kq v7 w' => ∃ (x7_2 : Int) (x248000_2 : Int) (x257001_2 : List (List Int)) (u257001 : Value), v7 = .int .i64 x7_2 ∧ Aside0 (spec_l01Read.l0 kq x6_7 x7_2 t252 x257001_2 = some (r1, r2, r3)) ∧ Aside0 (kq ≤ kj7) ∧ Aside0 (Kd.R Kd.string 9 w' w.heap.size (fun _ => True) u6 x6_7) ∧ Aside0 (Kd.S (Kd.slice 2 (Kd.int .i64)) 29 w' w.heap.size (fun _ => True) u257001 x257001_2) ∧ Aside0 (w'.heap[gb247]? = some (.cells #[.int .i64 x248000_2, (.slice none 0 0)] 26 (0, 0))) ∧ Aside0 (w'.heap[gb256]? = some (.cells #[.int .i64 t252, u257001] 26 (0, 0))) ∧ Aside0 (Below w.heap.size w w'))
    case atStart => exact ⟨(0), (0), (y253), (.slice Ao14 y253.length co14), es_, H', ⟨Nat.le_refl _⟩, ⟨Kd.R_below HO_6.out bgo_⟩, ⟨Kd.S_below HO_257001.out bgo_⟩, ⟨blk_below BK247.out bgo_⟩, ⟨blk_below BK256.out bgo_⟩, ⟨hbs_⟩⟩
    case round =>
     clear H'
     obtain ⟨x7_2, x248000_2, x257001_2, u257001, rfl, HA, HK2, HO_6, HO_257001, BK247, BK256, HB⟩ := hrel
     cases gk with
     | zero => exact absurd HA.out (by simp [spec_l01Read.l0])
     | succ k2 =>
      have H := HA.out
      clear HA
      simp only [spec_l01Read.l0] at H
      by_cases c22 : x7_2 < (x6_7.length : Int)
      ·rw [if_pos c22] at H
       have c22b0 := decide_eq_true c22
       clear c22
       obtain ⟨c23, H⟩ := itn_ H
       have c23b0 := decide_eq_true c23
       clear c23
       obtain ⟨t267, A24, H⟩ := bnd_ H
       by_cases c25 : (t267.length : Int) = 2
       ·rw [if_pos c25] at H
        have c25b0 : ((t267.length : Int) == 2) = true := beq_iff_eq.mpr c25
        have c25b1 : ((t267.length : Int) != 2) = false := bne_eq_false_iff_eq.mpr c25
        clear c25
        obtain ⟨c26, H⟩ := itn_ H
        have c26b0 := decide_eq_true c26
        have c26b1 : decide (0 < t267.length) = true := decide_eq_true (by omega)
        clear c26
        obtain ⟨t271, A27, H⟩ := bnd_ H
        obtain ⟨c28, H⟩ := itn_ H
        have c28b0 := decide_eq_true c28
        have c28b1 : decide (1 < t267.length) = true := decide_eq_true (by omega)
        clear c28
        obtain ⟨t273, A29, H⟩ := bnd_ H
        obtain ⟨y274, Ny274, H⟩ : ∃ y274 : List Int, Aside0 (y274 = (([t271, t273] : List Int))) ∧ (if x257001_2.length < 5864062014805 then (spec_l01Read.l0 k2 x6_7 (wrap64 (x7_2 + 1)) t252 (x257001_2 ++ [y274])) else (none)) = some (r1, r2, r3) := ⟨_, ⟨rfl⟩, H⟩
        obtain ⟨c30, H⟩ := itn_ H
        have LMc30 := m_ c30
        clear c30
        obtain ⟨y277, Ny277, H⟩ : ∃ y277 : List (List Int), Aside0 (y277 = (x257001_2 ++ [y274])) ∧ (spec_l01Read.l0 k2 x6_7 (wrap64 (x7_2 + 1)) t252 y277) = some (r1, r2, r3) := ⟨_, ⟨rfl⟩, H⟩
        have H' := m_ H
        clear H
        obtain ⟨Ao31, co31, eo31⟩ := Kd.R_slice HO_6.out
        subst eo31
        have p266 : 0 ≤ (x7_2 : Int) := od_
        have q266 : x7_2 < (x6_7.length : Int) := od_
        obtain ⟨ad266, e266, hx266_0⟩ := Kd.at_string (Kd.R_reads' HO_6.out).2.2 x7_2 p266 q266
        cases e266
        replace p266 := eq_true p266
        replace q266 := eq_true q266
        try go_wp2_with (first | ((with_reducible refine gate_callee (f := 267) rfl ?_); refine gl_ (some 40) Try.func267 #[.string (rdOf ByteArray.empty x6_7 x7_2), .int .u8 45] ?_; (with_reducible refine (spec_l01Split.calls k2 (rdOf ByteArray.empty x6_7 x7_2) 45 t267 _ A24.out).mono ?_); rintro e w32 ⟨v268, rfl, ho0, hb⟩; refine ⟨_, rfl, ?_⟩; replace HO_257001 := m_ (Kd.S_below (Kd.S_below HO_257001.out bgo_) hb); have HO269 := m_ (Kd.R_lower (Kd.R_new' ho0 (Kd.R_lt (Kd.R_below HO_6.out bgo_))) (below_size hbs_)); replace HO_6 := m_ (Kd.R_elder' (Kd.R_below HO_6.out bgo_) (Kd.R_base ho0) hb); replace BK247 := m_ (bb_ BK247.out hb); replace BK256 := m_ (bb_ BK256.out hb); replace HB := m_ (below_step hbs_ hb); clear hb; (try clear ho0); obtain ⟨Ao33, co33, eo33⟩ := Kd.R_slice HO269.out; subst eo33))
        replace HO_6 := m_ (Kd.R_drew HO_6.out)
        replace HO_257001 := m_ (Kd.S_drew HO_257001.out)
        replace HO269 := m_ (Kd.R_drew HO269.out)
        replace BK247 := m_ (blk_drew BK247.out)
        replace BK256 := m_ (blk_drew BK256.out)
        replace HB := m_ (below_drew1 HB.out)
        have p270 : 0 ≤ (0 : Int) := (by omega)
        have q270 : 0 < (t267.length : Int) := od_
        obtain ⟨ad270, e270, hx270_0⟩ := Kd.at_string (Kd.R_reads' HO269.out).2.2 0 p270 q270
        cases e270
        have qi270 : (0 < t267.length) = True := eq_true (by omega)
        (try rw [show ((0 : Int)).toNat = 0 from rfl] at hx270_0)
        (try rw [Addr.add_zero'] at hx270_0)
        replace p270 := eq_true p270
        replace q270 := eq_true q270
        have p272 : 0 ≤ (1 : Int) := (by omega)
        have q272 : 1 < (t267.length : Int) := od_
        obtain ⟨ad272, e272, hx272_0⟩ := Kd.at_string (Kd.R_reads' HO269.out).2.2 1 p272 q272
        obtain rfl : ad270 = ad272 := (by injection e272)
        (try simp only [show (1 : Int).toNat = 1 from rfl, Nat.reduceMul, Nat.reduceEqDiff, Go.Addr.add, ↓reduceIte] at hx272_0)
        have qi272 : (1 < t267.length) = True := eq_true (by omega)
        (try rw [show ((1 : Int)).toNat = 1 from rfl] at hx272_0)
        replace p272 := eq_true p272
        replace q272 := eq_true q272
        refine start_ (n := 15) (S := fun w' => w'.cell? ⟨gb256, 0, none⟩ = some (.int .i64 t252) ∧ w'.cell? ⟨gb256, 1, none⟩ = some (u257001) ∧ w'.cell? ad270 = some (.string (rdOf ByteArray.empty t267 0)) ∧ w'.cell? ⟨ad270.block, ad270.off + 1, none⟩ = some (.string (rdOf ByteArray.empty t267 1))) (ds := [12, 14]) #[false, false, false, false, false, false, false, false, false, false, false, false, false, false, false] (by kernel_rfl) rfl rfl ⟨bc0_ BK256.out, bc1_ BK256.out, hx270_0, hx272_0⟩ (fun hHeld => ?_); refine with_tabW spec_l01Read.tab14 spec_l01Read.bits14 (fun HT_ HW_ => ?_)
        generalize w32.drew = w34 at HO_6 HO_257001 HO269 BK247 BK256 HB hx270_0 hx272_0 hHeld ⊢
        refine pk_ 0 15 45 1 ?_
        refine pk_ 2 15 47 5 ?_
        refine pk_ 3 15 48 13 ?_
        refine pk_ 6 15 51 77 ?_
        refine pk_ 7 15 52 205 ?_
        refine tk_ 1 15 46 207 hHeld ?_
        refine tk_ 4 15 49 223 hHeld ?_
        refine tk_ 8 15 53 479 hHeld ?_
        refine on_ 5 15 (some 50) 511 (fun K hK => ?_)
        refine goes_ Try.func268 (by kernel_rfl) rfl #[.string (rdOf ByteArray.empty t267 0)] (by rfl) rfl rfl arg_ ?_
        with_reducible refine (spec_l01Number.calls k2 (rdOf ByteArray.empty t267 0) t271 _ A27.out).mono ?_
        rintro e w' ⟨rfl, ⟨nd, rfl⟩⟩
        refine ⟨_, rfl, ?_⟩
        refine hK.out _ _ ⟨bc0_ BK256.out, bc1_ BK256.out, hHeld.2.2.1, hHeld.2.2.2⟩ (fun hHeld => ?_)
        clear hK K
        refine nm_ ?_
        refine on_ 9 15 (some 54) 1023 (fun K hK => ?_)
        refine goes_ Try.func268 (by kernel_rfl) rfl #[.string (rdOf ByteArray.empty t267 1)] (by rfl) rfl rfl arg_ ?_
        with_reducible refine (spec_l01Number.calls k2 (rdOf ByteArray.empty t267 1) t273 _ A29.out).mono ?_
        rintro e w' ⟨rfl, ⟨nd, rfl⟩⟩
        refine ⟨_, rfl, ?_⟩
        refine hK.out _ _ ⟨bc0_ BK256.out, bc1_ BK256.out, hHeld.2.2.1, hHeld.2.2.2⟩ (fun hHeld => ?_)
        clear hK K
        refine nm_ ?_
        refine on_ 10 15 (some 55) 2047 (fun K hK => ?_)
        refine Kd.R_lit_step (Kd.int .i64) _ 2 ?hg (N := 55) ?hd (xs := ([t271, t273] : List Int)) (inner := [.int .i64 t271, .int .i64 t273]) (ok := fun _ => True) (okp := fun _ => True) ?hr ?hp (fun _ hk => hk) trivial (Below.refl _ _) (Nat.le_refl _) (by simp) ?_; (case hd => rfl); (case hg => rfl); (case hr => first | (go_simp; done) | (go_simp; rfl)); (case hp => exact (Reps.one (show Kd.M (Kd.int .i64) _ _ _ t271 [.int .i64 t271] from rfl) (Reps.one (show Kd.M (Kd.int .i64) _ _ _ t273 [.int .i64 t273] from rfl) (Reps.none _ _))))
        intro v275 w35 ho36 hb hg_ hnew_
        have HS2_ := (hb.cell (World.block_lt_of_cell? _ _ (hHeld.2.2.1))).trans (hHeld.2.2.1)
        have HS3_ := (hb.cell (World.block_lt_of_cell? _ _ (hHeld.2.2.2))).trans (hHeld.2.2.2)
        clear hg_ hnew_
        rw [← Ny274.out] at ho36
        replace HO_6 := m_ (Kd.R_below (Kd.R_below HO_6.out bgo_) hb)
        replace HO_257001 := m_ (Kd.S_elder' (Kd.S_below HO_257001.out bgo_) (Kd.R_base ho36) hb)
        replace HO269 := m_ (Kd.R_below (Kd.R_below HO269.out bgo_) hb)
        have HO276 := m_ (Kd.R_lower ho36 (below_size hbs_))
        replace BK247 := m_ (bb_ BK247.out hb)
        replace BK256 := m_ (bb_ BK256.out hb)
        replace HB := m_ (below_step hbs_ hb)
        clear hb ho36
        obtain ⟨Ao38, co38, eo38⟩ := Kd.R_slice HO276.out
        subst eo38
        refine hK.out _ _ ⟨bc0_ BK256.out, bc1_ BK256.out, HS2_, HS3_⟩ (fun hHeld => ?_)
        clear hK K
        refine nm_ ?_
        refine on_ 11 15 (some 56) 4095 (fun K hK => ?_)
        refine value_ (w1 := ?_) (v := ?_) (by rfl) rfl ?_ ?_
        rotate_left 2
        ·go_simp
         constructor
         ·rfl
         ·rfl
        refine hK.out _ _ ⟨(blk_cell (blk_alloc BK256.out _) 0).trans rfl, (blk_cell (blk_alloc BK256.out _) 1).trans rfl, (World.cell?_alloc_lt _ _ _ (World.block_lt_of_cell? _ _ (hHeld.2.2.1))).trans (hHeld.2.2.1), (World.cell?_alloc_lt _ _ _ (World.block_lt_of_cell? _ _ (hHeld.2.2.2))).trans (hHeld.2.2.2)⟩ (fun hHeld => ?_)
        clear hK K
        refine nm_ ?_
        refine last_ (i := 12) (N := some 57) #[true, true, true, true, true, true, true, true, true, true, true, true, true, false, false] rfl rfl (one_of HT_.out (by kernel_rfl)) (by decide) (fun K hK => ?_)
        refine Kd.S_append_step (Kd.slice 2 (Kd.int .i64)) (w0 := w) w.heap.size (by rfl) (.tmp 46) (.tmp 56) 24 29 (.slice none 0 0) 24 rfl Try.underlying24 info29 rfl (by decide) (by omega) u257001 x257001_2 y274 [.slice Ao38 y274.length co38] (fun _ => True) (fun k_ => some k_ = (.slice Ao38 y274.length co38 : Value).ownBlock) rfl rfl ?aP (fun k_ hk_ => ((Kd.R_mono (ok' := fun k_ => ((fun _ => True)) k_ ∧ some k_ ≠ (u257001 : Value).ownBlock) (Kd.R_apart' (HO276.out) (Kd.S_typed HO_257001.out) (by decide)) (fun k_ hk => ⟨trivial, hk.2⟩))).1 k_ hk_.symm) ?aF ?aO ?aB ?aS ?aL ?_
        (case aP => exact Kd.M_row (Kd.R_mono (Kd.R_tight rfl (Kd.R_mono (ok' := fun k_ => ((fun _ => True)) k_ ∧ some k_ ≠ (u257001 : Value).ownBlock) (Kd.R_apart' (HO276.out) (Kd.S_typed HO_257001.out) (by decide)) (fun k_ hk => ⟨trivial, hk.2⟩))) (fun _ h_ => h_)))
        (case aB => exact hbs_)
        (case aF => exact (fun _ _ => trivial))
        (case aO => exact (Kd.S_below (Kd.S_mono HO_257001.out (fun k_ hk => ⟨trivial, fun e_ => hk.2 e_⟩)) bgo_))
        (case aS => exact (below_size hbs_))
        (case aL => have := LMc30.out; omega)
        intro v278 w37 ho hb hg hat
        rw [← Ny277.out] at ho
        replace HO_6 := m_ (Kd.R_over' (Kd.R_below HO_6.out bgo_) (Kd.S_typed (Kd.S_below HO_257001.out bgo_)) (by decide) hg)
        replace BK247 := m_ (blk_grown (blk_below BK247.out bgo_) hg (Kd.S_ne HO_257001.out BK247.out (by decide)))
        replace BK256 := m_ (blk_grown (blk_below BK256.out bgo_) hg (Kd.S_ne HO_257001.out BK256.out (by decide)))
        replace HO269 := m_ (Kd.R_over' (Kd.R_below HO269.out bgo_) (Kd.S_typed (Kd.S_below HO_257001.out bgo_)) (by decide) hg)
        replace HB := m_ (hb)
        have HO279 := m_ (ho)
        (try clear HO_257001)
        (try clear HO276)
        clear ho hb hg hat
        obtain ⟨Ao39, co39, eo39⟩ := Kd.S_slice HO279.out
        subst eo39
        refine hK.out _ _ ?_
        clear hK K
        refine nm_ ?_
        refine pk_ 13 15 58 16383 ?_
        refine last_ (i := 14) (N := none) #[true, true, true, true, true, true, true, true, true, true, true, true, true, true, true] rfl rfl (one_of HT_.out (by kernel_rfl)) (by decide) (fun K hK => ?_)
        have hs40 : w37.cell? ⟨gb256, 1, none⟩ = some (u257001) := bc1_ BK256.out
        have hfs40 := blk_frozen BK256.out 1
        have hns40_0 := NB247_256.out
        have hms40_0 := NB256_247.out
        refine skip_ (w1 := ?_) (by rfl) rfl ?_ ?_
        rotate_left
        ·go_simp
         rfl
        refine hK.out _ _ ?_
        clear hK K
        refine done_ (done_of HT_.out (by kernel_rfl)) ?_
        try go_wp2
        go_roundg k2
        case measure => have := HJ7.out; have := HK2.out; omega
        case rel => exact ⟨(wrap64 (x7_2 + 1)), (x248000_2), (y277), (.slice Ao39 y277.length co39), es_, H', ⟨by have := HJ7.out; have := HK2.out; omega⟩, ⟨by (with_reducible repeat (first | apply Kd.R_alloc | apply Kd.R_drewN | apply Kd.R_drew)); exact Kd.R_mono (Kd.R_far (p := ⟨gb256, 1, none⟩) (Kd.R_types HO_6.out BK256.out (by decide)) (fun _ hk => hk.2) (.slice Ao39 y277.length co39)) (fun _ hk => trivial)⟩, ⟨by (with_reducible repeat (first | apply Kd.S_alloc | apply Kd.S_drewN | apply Kd.S_drew)); exact Kd.S_mono (Kd.S_far (p := ⟨gb256, 1, none⟩) (Kd.S_types HO279.out BK256.out (by decide)) (fun _ hk => hk.2) (.slice Ao39 y277.length co39)) (fun _ hk => trivial)⟩, ⟨bk_⟩, ⟨by (with_reducible repeat (first | refine blk_drewN ?_ _ | refine blk_drew ?_ | refine blk_alloc ?_ _)); refine blk_put (cs := #[.int .i64 t252, u257001]) ?_ 1 _ rfl; (with_reducible repeat (first | refine blk_drewN ?_ _ | refine blk_drew ?_ | refine blk_alloc ?_ _)); exact BK256.out⟩, ⟨hbs_⟩⟩
       ·rw [if_neg c25] at H
        have c25b0 : ((t267.length : Int) == 2) = false := beq_eq_false_iff_ne.mpr c25
        have c25b1 : ((t267.length : Int) != 2) = true := bne_iff_ne.mpr c25
        simp only [Option.some.injEq, Prod.mk.injEq] at H
        obtain ⟨rfl, rfl, rfl⟩ := H
        obtain ⟨Ao41, co41, eo41⟩ := Kd.R_slice HO_6.out
        subst eo41
        have p266 : 0 ≤ (x7_2 : Int) := od_
        have q266 : x7_2 < (x6_7.length : Int) := od_
        obtain ⟨ad266, e266, hx266_0⟩ := Kd.at_string (Kd.R_reads' HO_6.out).2.2 x7_2 p266 q266
        cases e266
        replace p266 := eq_true p266
        replace q266 := eq_true q266
        go_wp2_with (first | ((with_reducible refine gate_callee (f := 267) rfl ?_); refine gl_ (some 40) Try.func267 #[.string (rdOf ByteArray.empty x6_7 x7_2), .int .u8 45] ?_; (with_reducible refine (spec_l01Split.calls k2 (rdOf ByteArray.empty x6_7 x7_2) 45 t267 _ A24.out).mono ?_); rintro e w42 ⟨v268, rfl, ho0, hb⟩; refine ⟨_, rfl, ?_⟩; replace HO_257001 := m_ (Kd.S_below (Kd.S_below HO_257001.out bgo_) hb); have HO269 := m_ (Kd.R_lower (Kd.R_new' ho0 (Kd.R_lt (Kd.R_below HO_6.out bgo_))) (below_size hbs_)); replace HO_6 := m_ (Kd.R_elder' (Kd.R_below HO_6.out bgo_) (Kd.R_base ho0) hb); replace BK247 := m_ (bb_ BK247.out hb); replace BK256 := m_ (bb_ BK256.out hb); replace HB := m_ (below_step hbs_ hb); clear hb; (try clear ho0); obtain ⟨Ao43, co43, eo43⟩ := Kd.R_slice HO269.out; subst eo43; have hnb44 := NB247_256.out; have hnc44 := NB256_247.out; have hcz45_0 := bc0_ BK247.out; have hcz45_1 := bc1_ BK247.out; have hfz45_0 := blk_frozen BK247.out 0; have hfz45_1 := blk_frozen BK247.out 1))
        refine bodyPost_ret (results_ct rfl _ _ gb247 26 #[.int .i64 0, .slice none 0 0] (0, 0) _ rfl (by (with_reducible repeat (first | refine blk_drewN ?_ _ | refine blk_drew ?_ | refine blk_alloc ?_ _)); refine blk_put (cs := #[.int .i64 0, .slice none 0 0]) ?_ 1 _ rfl; (with_reducible repeat (first | refine blk_drewN ?_ _ | refine blk_drew ?_ | refine blk_alloc ?_ _)); refine blk_put (cs := #[.int .i64 x248000_2, .slice none 0 0]) ?_ 0 _ rfl; (with_reducible repeat (first | refine blk_drewN ?_ _ | refine blk_drew ?_ | refine blk_alloc ?_ _)); exact BK247.out) Try.underlying26 rfl (by kernel_rfl)) rfl ?_
        exact ⟨_, er_, by first | exact Kd.S_nil _ _ _ _ _ | exact Kd.N_nil _ _ _ _ _ | exact Kd.V_nil _ _ _ _ _ | exact Kd.Q_nil _ _ _ _ _ | exact Kd.R_nil _ _ _ _ _, hbs_⟩
      ·rw [if_neg c22] at H
       have c22b0 := decide_eq_false c22
       clear c22
       obtain ⟨t265, A46, H⟩ := bnd_ H
       by_cases c47 : t265 = true
       ·subst c47
        have H1 : (some (t252, x257001_2, true)) = some (r1, r2, r3) := by rw [if_pos rfl] at H; exact H
        clear H
        have H := H1
        clear H1
        simp only [Option.some.injEq, Prod.mk.injEq] at H
        obtain ⟨rfl, rfl, rfl⟩ := H
        obtain ⟨Ao48, co48, eo48⟩ := Kd.R_slice HO_6.out
        subst eo48
        have hnb49 := NB256_247.out
        have hnc49 := NB247_256.out
        have hcz50_0 := bc0_ BK256.out
        have hcz50_1 := bc1_ BK256.out
        have hfz50_0 := blk_frozen BK256.out 0
        have hfz50_1 := blk_frozen BK256.out 1
        obtain ⟨Ao51, co51, eo51⟩ := Kd.S_slice HO_257001.out
        subst eo51
        go_wp2_with (first | ((with_reducible refine gate_callee (f := 137) rfl ?_); refine gl_ (some 60) Try.func137 #[.agg #[.int .i64 t252, .slice Ao51 x257001_2.length co51]] ?_; (with_reducible refine (spec_l01Is.calls k2 t252 _ _ x257001_2 true _ ?side1 ?side2 A46.out).mono ?_); (case side1 => exact Kd.C_below (Kd.S_reads' HO_257001.out).2.2 bgo_); (case side2 => exact (Kd.S_reads' HO_257001.out).2.1); rintro e w52 ⟨rfl, hb⟩; refine ⟨_, rfl, ?_⟩; replace HO_6 := m_ (Kd.R_below (Kd.R_below HO_6.out bgo_) hb); replace HO_257001 := m_ (Kd.S_below (Kd.S_below HO_257001.out bgo_) hb); replace BK247 := m_ (bb_ BK247.out hb); replace BK256 := m_ (bb_ BK256.out hb); replace HB := m_ (below_step hbs_ hb); clear hb; have hcz53_0 := bc0_ BK256.out; have hcz53_1 := bc1_ BK256.out; have hfz53_0 := blk_frozen BK256.out 0; have hfz53_1 := blk_frozen BK256.out 1; have hcz54_0 := bc0_ BK247.out; have hcz54_1 := bc1_ BK247.out; have hfz54_0 := blk_frozen BK247.out 0; have hfz54_1 := blk_frozen BK247.out 1))
        refine bodyPost_ret (results_ct rfl _ _ gb247 26 #[.int .i64 t252, .slice Ao51 x257001_2.length co51] (0, 0) _ rfl (by (with_reducible repeat (first | refine blk_drewN ?_ _ | refine blk_drew ?_ | refine blk_alloc ?_ _)); refine blk_put (cs := #[.int .i64 t252, .slice none 0 0]) ?_ 1 _ rfl; (with_reducible repeat (first | refine blk_drewN ?_ _ | refine blk_drew ?_ | refine blk_alloc ?_ _)); refine blk_put (cs := #[.int .i64 x248000_2, .slice none 0 0]) ?_ 0 _ rfl; (with_reducible repeat (first | refine blk_drewN ?_ _ | refine blk_drew ?_ | refine blk_alloc ?_ _)); exact BK247.out) Try.underlying26 rfl (by kernel_rfl)) rfl ?_
        exact ⟨_, er_, by (with_reducible repeat (first | apply Kd.S_alloc | apply Kd.S_drewN | apply Kd.S_drew)); exact Kd.S_mono (Kd.S_far (p := ⟨gb247, 1, none⟩) (Kd.S_far (p := ⟨gb247, 0, none⟩) (Kd.S_types HO_257001.out BK247.out (by decide)) (fun _ hk => hk.2) (.int .i64 t252)) (fun _ hk => hk.2) (.slice Ao51 x257001_2.length co51)) (fun _ hk => trivial), hbs_⟩
       ·replace c47 := Bool.eq_false_iff.mpr c47
        subst c47
        have H1 : (some (0, ([] : List (List Int)), false)) = some (r1, r2, r3) := by rw [if_neg (show ¬ (false = true) by decide)] at H; exact H
        clear H
        have H := H1
        clear H1
        simp only [Option.some.injEq, Prod.mk.injEq] at H
        obtain ⟨rfl, rfl, rfl⟩ := H
        obtain ⟨Ao55, co55, eo55⟩ := Kd.R_slice HO_6.out
        subst eo55
        have hnb56 := NB256_247.out
        have hnc56 := NB247_256.out
        have hcz57_0 := bc0_ BK256.out
        have hcz57_1 := bc1_ BK256.out
        have hfz57_0 := blk_frozen BK256.out 0
        have hfz57_1 := blk_frozen BK256.out 1
        obtain ⟨Ao58, co58, eo58⟩ := Kd.S_slice HO_257001.out
        subst eo58
        go_wp2_with (first | ((with_reducible refine gate_callee (f := 137) rfl ?_); refine gl_ (some 60) Try.func137 #[.agg #[.int .i64 t252, .slice Ao58 x257001_2.length co58]] ?_; (with_reducible refine (spec_l01Is.calls k2 t252 _ _ x257001_2 false _ ?side1 ?side2 A46.out).mono ?_); (case side1 => exact Kd.C_below (Kd.S_reads' HO_257001.out).2.2 bgo_); (case side2 => exact (Kd.S_reads' HO_257001.out).2.1); rintro e w59 ⟨rfl, hb⟩; refine ⟨_, rfl, ?_⟩; replace HO_6 := m_ (Kd.R_below (Kd.R_below HO_6.out bgo_) hb); replace HO_257001 := m_ (Kd.S_below (Kd.S_below HO_257001.out bgo_) hb); replace BK247 := m_ (bb_ BK247.out hb); replace BK256 := m_ (bb_ BK256.out hb); replace HB := m_ (below_step hbs_ hb); clear hb; have hcz60_0 := bc0_ BK247.out; have hcz60_1 := bc1_ BK247.out; have hfz60_0 := blk_frozen BK247.out 0; have hfz60_1 := blk_frozen BK247.out 1))
        refine bodyPost_ret (results_ct rfl _ _ gb247 26 #[.int .i64 0, .slice none 0 0] (0, 0) _ rfl (by (with_reducible repeat (first | refine blk_drewN ?_ _ | refine blk_drew ?_ | refine blk_alloc ?_ _)); refine blk_put (cs := #[.int .i64 0, .slice none 0 0]) ?_ 1 _ rfl; (with_reducible repeat (first | refine blk_drewN ?_ _ | refine blk_drew ?_ | refine blk_alloc ?_ _)); refine blk_put (cs := #[.int .i64 x248000_2, .slice none 0 0]) ?_ 0 _ rfl; (with_reducible repeat (first | refine blk_drewN ?_ _ | refine blk_drew ?_ | refine blk_alloc ?_ _)); exact BK247.out) Try.underlying26 rfl (by kernel_rfl)) rfl ?_
        exact ⟨_, er_, by first | exact Kd.S_nil _ _ _ _ _ | exact Kd.N_nil _ _ _ _ _ | exact Kd.V_nil _ _ _ _ _ | exact Kd.Q_nil _ _ _ _ _ | exact Kd.R_nil _ _ _ _ _, hbs_⟩
 ·rw [if_neg c3] at H
  have c3b0 : ((t248.length : Int) == 2) = false := beq_eq_false_iff_ne.mpr c3
  have c3b1 : ((t248.length : Int) != 2) = true := bne_iff_ne.mpr c3
  simp only [Option.some.injEq, Prod.mk.injEq] at H
  obtain ⟨rfl, rfl, rfl⟩ := H
  go_enter Try.func264, Try.ntmps264
  go_wp2_with (first | ((with_reducible refine gate_dst (N := 2) rfl ?_); refine bx_ (N := 2) (cs := #[.int .i64 0, .slice none 0 0]) (t := 26) ?_; intro gb247 hg w61 hbox hb; have BK247 := m_ (hbox); have GW247 := m_ ((by rw [hg]; exact (below_size hb_) : w.heap.size ≤ gb247)); have GE247 := m_ ((by rw [hg]; exact (below_size hb_) : w.heap.size ≤ gb247)); replace HB := m_ (below_step hb_ hb); clear hb hbox hg) | ((with_reducible refine gate_callee (f := 267) rfl ?_); refine gl_ (some 10) Try.func267 #[.string a0, .int .u8 58] ?_; (with_reducible refine (spec_l01Split.calls k a0 58 t248 _ A2.out).mono ?_); rintro e w62 ⟨v249, rfl, ho0, hb⟩; refine ⟨_, rfl, ?_⟩; have HO250 := m_ (Kd.R_lower ho0 (below_size hbs_)); replace BK247 := m_ (bb_ BK247.out hb); replace HB := m_ (below_step hbs_ hb); clear hb; (try clear ho0); obtain ⟨Ao63, co63, eo63⟩ := Kd.R_slice HO250.out; subst eo63; have hcz64_0 := bc0_ BK247.out; have hcz64_1 := bc1_ BK247.out; have hfz64_0 := blk_frozen BK247.out 0; have hfz64_1 := blk_frozen BK247.out 1))
  refine bodyPost_ret (results_ct rfl _ _ gb247 26 #[.int .i64 0, .slice none 0 0] (0, 0) _ rfl (by (with_reducible repeat (first | refine blk_drewN ?_ _ | refine blk_drew ?_ | refine blk_alloc ?_ _)); refine blk_put (cs := #[.int .i64 0, .slice none 0 0]) ?_ 1 _ rfl; (with_reducible repeat (first | refine blk_drewN ?_ _ | refine blk_drew ?_ | refine blk_alloc ?_ _)); refine blk_put (cs := #[.int .i64 0, .slice none 0 0]) ?_ 0 _ rfl; (with_reducible repeat (first | refine blk_drewN ?_ _ | refine blk_drew ?_ | refine blk_alloc ?_ _)); exact BK247.out) Try.underlying26 rfl (by kernel_rfl)) rfl ?_
  exact ⟨_, er_, by first | exact Kd.S_nil _ _ _ _ _ | exact Kd.N_nil _ _ _ _ _ | exact Kd.V_nil _ _ _ _ _ | exact Kd.Q_nil _ _ _ _ _ | exact Kd.R_nil _ _ _ _ _, hbs_⟩

/-! ### spec_l01Known: function 265 -/
def spec_l01Known.f (a0 : ByteArray) : Option (ByteArray) := if a0.toList = ([112, 111, 105, 110, 116] : List UInt8) then (some (⟨#[49, 58]⟩ : ByteArray)) else (if a0.toList = ([101, 100, 103, 101] : List UInt8) then (some (⟨#[50, 58, 48, 45, 49]⟩ : ByteArray)) else (if a0.toList = ([108, 111, 111, 112] : List UInt8) then (some (⟨#[49, 58, 48, 45, 48]⟩ : ByteArray)) else (if a0.toList = ([98, 111, 117, 113, 117, 101, 116] : List UInt8) then (some (⟨#[49, 58, 48, 45, 48, 44, 48, 45, 48]⟩ : ByteArray)) else (if a0.toList = ([116, 104, 101, 116, 97] : List UInt8) then (some (⟨#[50, 58, 48, 45, 49, 44, 48, 45, 49, 44, 48, 45, 49]⟩ : ByteArray)) else (if a0.toList = ([100, 117, 109, 98, 98, 101, 108, 108] : List UInt8) then (some (⟨#[50, 58, 48, 45, 48, 44, 48, 45, 49, 44, 49, 45, 49]⟩ : ByteArray)) else (if a0.toList = ([116, 114, 105, 97, 110, 103, 108, 101] : List UInt8) then (some (⟨#[51, 58, 48, 45, 49, 44, 49, 45, 50, 44, 50, 45, 48]⟩ : ByteArray)) else (if a0.toList = ([115, 113, 117, 97, 114, 101] : List UInt8) then (some (⟨#[52, 58, 48, 45, 49, 44, 49, 45, 50, 44, 50, 45, 51, 44, 51, 45, 48]⟩ : ByteArray)) else (if a0.toList = ([112, 101, 110, 116, 97, 103, 111, 110] : List UInt8) then (some (⟨#[53, 58, 48, 45, 49, 44, 49, 45, 50, 44, 50, 45, 51, 44, 51, 45, 52, 44, 52, 45, 48]⟩ : ByteArray)) else (if a0.toList = ([115, 116, 97, 114] : List UInt8) then (some (⟨#[52, 58, 48, 45, 49, 44, 48, 45, 50, 44, 48, 45, 51]⟩ : ByteArray)) else (if a0.toList = ([100, 105, 97, 109, 111, 110, 100] : List UInt8) then (some (⟨#[52, 58, 48, 45, 49, 44, 49, 45, 50, 44, 50, 45, 51, 44, 51, 45, 48, 44, 48, 45, 50]⟩ : ByteArray)) else (if a0.toList = ([116, 101, 116, 114, 97, 104, 101, 100, 114, 111, 110] : List UInt8) then (some (⟨#[52, 58, 48, 45, 49, 44, 48, 45, 50, 44, 48, 45, 51, 44, 49, 45, 50, 44, 49, 45, 51, 44, 50, 45, 51]⟩ : ByteArray)) else (if a0.toList = ([112, 114, 105, 115, 109] : List UInt8) then (some (⟨#[54, 58, 48, 45, 49, 44, 49, 45, 50, 44, 50, 45, 48, 44, 51, 45, 52, 44, 52, 45, 53, 44, 53, 45, 51, 44, 48, 45, 51, 44, 49, 45, 52, 44, 50, 45, 53]⟩ : ByteArray)) else (if a0.toList = ([104, 111, 117, 115, 101, 115] : List UInt8) then (some (⟨#[54, 58, 48, 45, 51, 44, 48, 45, 52, 44, 48, 45, 53, 44, 49, 45, 51, 44, 49, 45, 52, 44, 49, 45, 53, 44, 50, 45, 51, 44, 50, 45, 52, 44, 50, 45, 53]⟩ : ByteArray)) else (some (⟨#[]⟩ : ByteArray)))))))))))))))
set_option maxHeartbeats 8000000 in
set_option maxRecDepth 100000 in
theorem spec_l01Known.calls (a0 : ByteArray) (r : ByteArray) (w : World) (h : spec_l01Known.f a0 = some r) :
  Calls Try.prog 265 #[.string a0] w fun e w' => e = .returned (.string r) ∧ Drawn0 w w' := by
 have H : (if a0.toList = ([112, 111, 105, 110, 116] : List UInt8) then (some (⟨#[49, 58]⟩ : ByteArray)) else (if a0.toList = ([101, 100, 103, 101] : List UInt8) then (some (⟨#[50, 58, 48, 45, 49]⟩ : ByteArray)) else (if a0.toList = ([108, 111, 111, 112] : List UInt8) then (some (⟨#[49, 58, 48, 45, 48]⟩ : ByteArray)) else (if a0.toList = ([98, 111, 117, 113, 117, 101, 116] : List UInt8) then (some (⟨#[49, 58, 48, 45, 48, 44, 48, 45, 48]⟩ : ByteArray)) else (if a0.toList = ([116, 104, 101, 116, 97] : List UInt8) then (some (⟨#[50, 58, 48, 45, 49, 44, 48, 45, 49, 44, 48, 45, 49]⟩ : ByteArray)) else (if a0.toList = ([100, 117, 109, 98, 98, 101, 108, 108] : List UInt8) then (some (⟨#[50, 58, 48, 45, 48, 44, 48, 45, 49, 44, 49, 45, 49]⟩ : ByteArray)) else (if a0.toList = ([116, 114, 105, 97, 110, 103, 108, 101] : List UInt8) then (some (⟨#[51, 58, 48, 45, 49, 44, 49, 45, 50, 44, 50, 45, 48]⟩ : ByteArray)) else (if a0.toList = ([115, 113, 117, 97, 114, 101] : List UInt8) then (some (⟨#[52, 58, 48, 45, 49, 44, 49, 45, 50, 44, 50, 45, 51, 44, 51, 45, 48]⟩ : ByteArray)) else (if a0.toList = ([112, 101, 110, 116, 97, 103, 111, 110] : List UInt8) then (some (⟨#[53, 58, 48, 45, 49, 44, 49, 45, 50, 44, 50, 45, 51, 44, 51, 45, 52, 44, 52, 45, 48]⟩ : ByteArray)) else (if a0.toList = ([115, 116, 97, 114] : List UInt8) then (some (⟨#[52, 58, 48, 45, 49, 44, 48, 45, 50, 44, 48, 45, 51]⟩ : ByteArray)) else (if a0.toList = ([100, 105, 97, 109, 111, 110, 100] : List UInt8) then (some (⟨#[52, 58, 48, 45, 49, 44, 49, 45, 50, 44, 50, 45, 51, 44, 51, 45, 48, 44, 48, 45, 50]⟩ : ByteArray)) else (if a0.toList = ([116, 101, 116, 114, 97, 104, 101, 100, 114, 111, 110] : List UInt8) then (some (⟨#[52, 58, 48, 45, 49, 44, 48, 45, 50, 44, 48, 45, 51, 44, 49, 45, 50, 44, 49, 45, 51, 44, 50, 45, 51]⟩ : ByteArray)) else (if a0.toList = ([112, 114, 105, 115, 109] : List UInt8) then (some (⟨#[54, 58, 48, 45, 49, 44, 49, 45, 50, 44, 50, 45, 48, 44, 51, 45, 52, 44, 52, 45, 53, 44, 53, 45, 51, 44, 48, 45, 51, 44, 49, 45, 52, 44, 50, 45, 53]⟩ : ByteArray)) else (if a0.toList = ([104, 111, 117, 115, 101, 115] : List UInt8) then (some (⟨#[54, 58, 48, 45, 51, 44, 48, 45, 52, 44, 48, 45, 53, 44, 49, 45, 51, 44, 49, 45, 52, 44, 49, 45, 53, 44, 50, 45, 51, 44, 50, 45, 52, 44, 50, 45, 53]⟩ : ByteArray)) else (some (⟨#[]⟩ : ByteArray)))))))))))))))) = some r := h
 clear h
 by_cases c2 : a0.toList = ([112, 111, 105, 110, 116] : List UInt8)
 ·rw [if_pos c2] at H
  have c2b0 : (a0.toList == ([112, 111, 105, 110, 116] : List UInt8)) = true := beq_iff_eq.mpr c2
  have c2b1 : (a0.toList != ([112, 111, 105, 110, 116] : List UInt8)) = false := bne_eq_false_iff_eq.mpr c2
  clear c2
  obtain rfl := Option.some.inj H
  go_enter Try.func265, Try.ntmps265
  go_wp2
  go_ret
  exact ⟨es_, by repeat (first | exact Drawn0.refl _ | apply Drawn0.step)⟩
 ·rw [if_neg c2] at H
  have c2b0 : (a0.toList == ([112, 111, 105, 110, 116] : List UInt8)) = false := beq_eq_false_iff_ne.mpr c2
  have c2b1 : (a0.toList != ([112, 111, 105, 110, 116] : List UInt8)) = true := bne_iff_ne.mpr c2
  by_cases c3 : a0.toList = ([101, 100, 103, 101] : List UInt8)
  ·rw [if_pos c3] at H
   have c3b0 : (a0.toList == ([101, 100, 103, 101] : List UInt8)) = true := beq_iff_eq.mpr c3
   have c3b1 : (a0.toList != ([101, 100, 103, 101] : List UInt8)) = false := bne_eq_false_iff_eq.mpr c3
   clear c3
   obtain rfl := Option.some.inj H
   go_enter Try.func265, Try.ntmps265
   go_wp2
   go_ret
   exact ⟨es_, by repeat (first | exact Drawn0.refl _ | apply Drawn0.step)⟩
  ·rw [if_neg c3] at H
   have c3b0 : (a0.toList == ([101, 100, 103, 101] : List UInt8)) = false := beq_eq_false_iff_ne.mpr c3
   have c3b1 : (a0.toList != ([101, 100, 103, 101] : List UInt8)) = true := bne_iff_ne.mpr c3
   by_cases c4 : a0.toList = ([108, 111, 111, 112] : List UInt8)
   ·rw [if_pos c4] at H
    have c4b0 : (a0.toList == ([108, 111, 111, 112] : List UInt8)) = true := beq_iff_eq.mpr c4
    have c4b1 : (a0.toList != ([108, 111, 111, 112] : List UInt8)) = false := bne_eq_false_iff_eq.mpr c4
    clear c4
    obtain rfl := Option.some.inj H
    go_enter Try.func265, Try.ntmps265
    go_wp2
    go_ret
    exact ⟨es_, by repeat (first | exact Drawn0.refl _ | apply Drawn0.step)⟩
   ·rw [if_neg c4] at H
    have c4b0 : (a0.toList == ([108, 111, 111, 112] : List UInt8)) = false := beq_eq_false_iff_ne.mpr c4
    have c4b1 : (a0.toList != ([108, 111, 111, 112] : List UInt8)) = true := bne_iff_ne.mpr c4
    by_cases c5 : a0.toList = ([98, 111, 117, 113, 117, 101, 116] : List UInt8)
    ·rw [if_pos c5] at H
     have c5b0 : (a0.toList == ([98, 111, 117, 113, 117, 101, 116] : List UInt8)) = true := beq_iff_eq.mpr c5
     have c5b1 : (a0.toList != ([98, 111, 117, 113, 117, 101, 116] : List UInt8)) = false := bne_eq_false_iff_eq.mpr c5
     clear c5
     obtain rfl := Option.some.inj H
     go_enter Try.func265, Try.ntmps265
     go_wp2
     go_ret
     exact ⟨es_, by repeat (first | exact Drawn0.refl _ | apply Drawn0.step)⟩
    ·rw [if_neg c5] at H
     have c5b0 : (a0.toList == ([98, 111, 117, 113, 117, 101, 116] : List UInt8)) = false := beq_eq_false_iff_ne.mpr c5
     have c5b1 : (a0.toList != ([98, 111, 117, 113, 117, 101, 116] : List UInt8)) = true := bne_iff_ne.mpr c5
     by_cases c6 : a0.toList = ([116, 104, 101, 116, 97] : List UInt8)
     ·rw [if_pos c6] at H
      have c6b0 : (a0.toList == ([116, 104, 101, 116, 97] : List UInt8)) = true := beq_iff_eq.mpr c6
      have c6b1 : (a0.toList != ([116, 104, 101, 116, 97] : List UInt8)) = false := bne_eq_false_iff_eq.mpr c6
      clear c6
      obtain rfl := Option.some.inj H
      go_enter Try.func265, Try.ntmps265
      go_wp2
      go_ret
      exact ⟨es_, by repeat (first | exact Drawn0.refl _ | apply Drawn0.step)⟩
     ·rw [if_neg c6] at H
      have c6b0 : (a0.toList == ([116, 104, 101, 116, 97] : List UInt8)) = false := beq_eq_false_iff_ne.mpr c6
      have c6b1 : (a0.toList != ([116, 104, 101, 116, 97] : List UInt8)) = true := bne_iff_ne.mpr c6
      by_cases c7 : a0.toList = ([100, 117, 109, 98, 98, 101, 108, 108] : List UInt8)
      ·rw [if_pos c7] at H
       have c7b0 : (a0.toList == ([100, 117, 109, 98, 98, 101, 108, 108] : List UInt8)) = true := beq_iff_eq.mpr c7
       have c7b1 : (a0.toList != ([100, 117, 109, 98, 98, 101, 108, 108] : List UInt8)) = false := bne_eq_false_iff_eq.mpr c7
       clear c7
       obtain rfl := Option.some.inj H
       go_enter Try.func265, Try.ntmps265
       go_wp2
       go_ret
       exact ⟨es_, by repeat (first | exact Drawn0.refl _ | apply Drawn0.step)⟩
      ·rw [if_neg c7] at H
       have c7b0 : (a0.toList == ([100, 117, 109, 98, 98, 101, 108, 108] : List UInt8)) = false := beq_eq_false_iff_ne.mpr c7
       have c7b1 : (a0.toList != ([100, 117, 109, 98, 98, 101, 108, 108] : List UInt8)) = true := bne_iff_ne.mpr c7
       by_cases c8 : a0.toList = ([116, 114, 105, 97, 110, 103, 108, 101] : List UInt8)
       ·rw [if_pos c8] at H
        have c8b0 : (a0.toList == ([116, 114, 105, 97, 110, 103, 108, 101] : List UInt8)) = true := beq_iff_eq.mpr c8
        have c8b1 : (a0.toList != ([116, 114, 105, 97, 110, 103, 108, 101] : List UInt8)) = false := bne_eq_false_iff_eq.mpr c8
        clear c8
        obtain rfl := Option.some.inj H
        go_enter Try.func265, Try.ntmps265
        go_wp2
        go_ret
        exact ⟨es_, by repeat (first | exact Drawn0.refl _ | apply Drawn0.step)⟩
       ·rw [if_neg c8] at H
        have c8b0 : (a0.toList == ([116, 114, 105, 97, 110, 103, 108, 101] : List UInt8)) = false := beq_eq_false_iff_ne.mpr c8
        have c8b1 : (a0.toList != ([116, 114, 105, 97, 110, 103, 108, 101] : List UInt8)) = true := bne_iff_ne.mpr c8
        by_cases c9 : a0.toList = ([115, 113, 117, 97, 114, 101] : List UInt8)
        ·rw [if_pos c9] at H
         have c9b0 : (a0.toList == ([115, 113, 117, 97, 114, 101] : List UInt8)) = true := beq_iff_eq.mpr c9
         have c9b1 : (a0.toList != ([115, 113, 117, 97, 114, 101] : List UInt8)) = false := bne_eq_false_iff_eq.mpr c9
         clear c9
         obtain rfl := Option.some.inj H
         go_enter Try.func265, Try.ntmps265
         go_wp2
         go_ret
         exact ⟨es_, by repeat (first | exact Drawn0.refl _ | apply Drawn0.step)⟩
        ·rw [if_neg c9] at H
         have c9b0 : (a0.toList == ([115, 113, 117, 97, 114, 101] : List UInt8)) = false := beq_eq_false_iff_ne.mpr c9
         have c9b1 : (a0.toList != ([115, 113, 117, 97, 114, 101] : List UInt8)) = true := bne_iff_ne.mpr c9
         by_cases c10 : a0.toList = ([112, 101, 110, 116, 97, 103, 111, 110] : List UInt8)
         ·rw [if_pos c10] at H
          have c10b0 : (a0.toList == ([112, 101, 110, 116, 97, 103, 111, 110] : List UInt8)) = true := beq_iff_eq.mpr c10
          have c10b1 : (a0.toList != ([112, 101, 110, 116, 97, 103, 111, 110] : List UInt8)) = false := bne_eq_false_iff_eq.mpr c10
          clear c10
          obtain rfl := Option.some.inj H
          go_enter Try.func265, Try.ntmps265
          go_wp2
          go_ret
          exact ⟨es_, by repeat (first | exact Drawn0.refl _ | apply Drawn0.step)⟩
         ·rw [if_neg c10] at H
          have c10b0 : (a0.toList == ([112, 101, 110, 116, 97, 103, 111, 110] : List UInt8)) = false := beq_eq_false_iff_ne.mpr c10
          have c10b1 : (a0.toList != ([112, 101, 110, 116, 97, 103, 111, 110] : List UInt8)) = true := bne_iff_ne.mpr c10
          by_cases c11 : a0.toList = ([115, 116, 97, 114] : List UInt8)
          ·rw [if_pos c11] at H
           have c11b0 : (a0.toList == ([115, 116, 97, 114] : List UInt8)) = true := beq_iff_eq.mpr c11
           have c11b1 : (a0.toList != ([115, 116, 97, 114] : List UInt8)) = false := bne_eq_false_iff_eq.mpr c11
           clear c11
           obtain rfl := Option.some.inj H
           go_enter Try.func265, Try.ntmps265
           go_wp2
           go_ret
           exact ⟨es_, by repeat (first | exact Drawn0.refl _ | apply Drawn0.step)⟩
          ·rw [if_neg c11] at H
           have c11b0 : (a0.toList == ([115, 116, 97, 114] : List UInt8)) = false := beq_eq_false_iff_ne.mpr c11
           have c11b1 : (a0.toList != ([115, 116, 97, 114] : List UInt8)) = true := bne_iff_ne.mpr c11
           by_cases c12 : a0.toList = ([100, 105, 97, 109, 111, 110, 100] : List UInt8)
           ·rw [if_pos c12] at H
            have c12b0 : (a0.toList == ([100, 105, 97, 109, 111, 110, 100] : List UInt8)) = true := beq_iff_eq.mpr c12
            have c12b1 : (a0.toList != ([100, 105, 97, 109, 111, 110, 100] : List UInt8)) = false := bne_eq_false_iff_eq.mpr c12
            clear c12
            obtain rfl := Option.some.inj H
            go_enter Try.func265, Try.ntmps265
            go_wp2
            go_ret
            exact ⟨es_, by repeat (first | exact Drawn0.refl _ | apply Drawn0.step)⟩
           ·rw [if_neg c12] at H
            have c12b0 : (a0.toList == ([100, 105, 97, 109, 111, 110, 100] : List UInt8)) = false := beq_eq_false_iff_ne.mpr c12
            have c12b1 : (a0.toList != ([100, 105, 97, 109, 111, 110, 100] : List UInt8)) = true := bne_iff_ne.mpr c12
            by_cases c13 : a0.toList = ([116, 101, 116, 114, 97, 104, 101, 100, 114, 111, 110] : List UInt8)
            ·rw [if_pos c13] at H
             have c13b0 : (a0.toList == ([116, 101, 116, 114, 97, 104, 101, 100, 114, 111, 110] : List UInt8)) = true := beq_iff_eq.mpr c13
             have c13b1 : (a0.toList != ([116, 101, 116, 114, 97, 104, 101, 100, 114, 111, 110] : List UInt8)) = false := bne_eq_false_iff_eq.mpr c13
             clear c13
             obtain rfl := Option.some.inj H
             go_enter Try.func265, Try.ntmps265
             go_wp2
             go_ret
             exact ⟨es_, by repeat (first | exact Drawn0.refl _ | apply Drawn0.step)⟩
            ·rw [if_neg c13] at H
             have c13b0 : (a0.toList == ([116, 101, 116, 114, 97, 104, 101, 100, 114, 111, 110] : List UInt8)) = false := beq_eq_false_iff_ne.mpr c13
             have c13b1 : (a0.toList != ([116, 101, 116, 114, 97, 104, 101, 100, 114, 111, 110] : List UInt8)) = true := bne_iff_ne.mpr c13
             by_cases c14 : a0.toList = ([112, 114, 105, 115, 109] : List UInt8)
             ·rw [if_pos c14] at H
              have c14b0 : (a0.toList == ([112, 114, 105, 115, 109] : List UInt8)) = true := beq_iff_eq.mpr c14
              have c14b1 : (a0.toList != ([112, 114, 105, 115, 109] : List UInt8)) = false := bne_eq_false_iff_eq.mpr c14
              clear c14
              obtain rfl := Option.some.inj H
              go_enter Try.func265, Try.ntmps265
              go_wp2
              go_ret
              exact ⟨es_, by repeat (first | exact Drawn0.refl _ | apply Drawn0.step)⟩
             ·rw [if_neg c14] at H
              have c14b0 : (a0.toList == ([112, 114, 105, 115, 109] : List UInt8)) = false := beq_eq_false_iff_ne.mpr c14
              have c14b1 : (a0.toList != ([112, 114, 105, 115, 109] : List UInt8)) = true := bne_iff_ne.mpr c14
              by_cases c15 : a0.toList = ([104, 111, 117, 115, 101, 115] : List UInt8)
              ·rw [if_pos c15] at H
               have c15b0 : (a0.toList == ([104, 111, 117, 115, 101, 115] : List UInt8)) = true := beq_iff_eq.mpr c15
               have c15b1 : (a0.toList != ([104, 111, 117, 115, 101, 115] : List UInt8)) = false := bne_eq_false_iff_eq.mpr c15
               clear c15
               obtain rfl := Option.some.inj H
               go_enter Try.func265, Try.ntmps265
               go_wp2
               go_ret
               exact ⟨es_, by repeat (first | exact Drawn0.refl _ | apply Drawn0.step)⟩
              ·rw [if_neg c15] at H
               have c15b0 : (a0.toList == ([104, 111, 117, 115, 101, 115] : List UInt8)) = false := beq_eq_false_iff_ne.mpr c15
               have c15b1 : (a0.toList != ([104, 111, 117, 115, 101, 115] : List UInt8)) = true := bne_iff_ne.mpr c15
               obtain rfl := Option.some.inj H
               go_enter Try.func265, Try.ntmps265
               go_wp2
               go_ret
               exact ⟨es_, by repeat (first | exact Drawn0.refl _ | apply Drawn0.step)⟩

/-! ### spec_l01Named: function 256 -/
def spec_l01Named.f (k : Nat) (a0 : ByteArray) : Option (Int × (List (List Int)) × Bool) := (spec_l01Known.f a0).bind fun t281 => ((spec_l01Read.f k t281).bind fun bt282 => (some (bt282.1, bt282.2.1, bt282.2.2)))
set_option maxHeartbeats 8000000 in
set_option maxRecDepth 100000 in
theorem spec_l01Named.calls (k : Nat) (a0 : ByteArray) (r1 : Int) (r2 : List (List Int)) (r3 : Bool) (w : World) (h : spec_l01Named.f k a0 = some (r1, r2, r3)) :
  Calls Try.prog 256 #[.string a0] w fun e w' => ∃ v1_ : Value, e = .returned (.tuple #[.agg #[.int .i64 r1, v1_], .bool r3]) ∧ Kd.S (Kd.slice 2 (Kd.int .i64)) 29 w' w.heap.size (fun _ => True) v1_ r2 ∧ Below w.heap.size w w' := by
 have hu26 := Try.underlying26
 have HB := m_ (Below.refl w.heap.size w)
 have H : ((spec_l01Known.f a0).bind fun t281 => ((spec_l01Read.f k t281).bind fun bt282 => (some (bt282.1, bt282.2.1, bt282.2.2)))) = some (r1, r2, r3) := h
 clear h
 obtain ⟨t281, A2, H⟩ := bnd_ H
 obtain ⟨⟨t282, t283, t286⟩, A3, H⟩ := bnd_ H
 dsimp only at H
 simp only [Option.some.injEq, Prod.mk.injEq] at H
 obtain ⟨rfl, rfl, rfl⟩ := H
 go_enter Try.func256, Try.ntmps256
 go_wp2_with (first | ((with_reducible refine gate_dst (N := 2) rfl ?_); refine bx_ (N := 2) (cs := #[.int .i64 0, .slice none 0 0]) (t := 26) ?_; intro gb280 hg w4 hbox hb; have BK280 := m_ (hbox); have GW280 := m_ ((by rw [hg]; exact (below_size hb_) : w.heap.size ≤ gb280)); have GE280 := m_ ((by rw [hg]; exact (below_size hb_) : w.heap.size ≤ gb280)); replace HB := m_ (below_step hb_ hb); clear hb hbox hg) | ((with_reducible refine gate_callee (f := 265) rfl ?_); refine gl_ (some 8) Try.func265 #[.string a0] ?_; (with_reducible refine (spec_l01Known.calls a0 t281 _ A2.out).mono ?_); rintro e w' ⟨rfl, ⟨nd, rfl⟩⟩; refine ⟨_, rfl, ?_⟩; (try (rw [drewN_self w4]; generalize hq_ : World.drewN w4 _ = w4; have n0_ : Aside0 (w4.heap[gb280]? = some (.cells #[.int .i64 0, .slice none 0 0] 26 (0, 0))) := ⟨by rw [← hq_]; exact (blk_below BK280.out bgo_)⟩; have n1_ : Aside0 (Below w.heap.size w w4) := ⟨by rw [← hq_]; exact hbs_⟩; clear BK280 HB hq_; have BK280 := n0_; have HB := n1_; clear n0_ n1_))) | ((with_reducible refine gate_callee (f := 264) rfl ?_); refine gl_ (some 9) Try.func264 #[.string t281] ?_; (with_reducible refine (spec_l01Read.calls k t281 t282 t283 t286 _ A3.out).mono ?_); rintro e w5 ⟨v284, rfl, ho0, hb⟩; refine ⟨_, rfl, ?_⟩; have HO285 := m_ (Kd.S_lower ho0 (below_size hbs_)); replace BK280 := m_ (bb_ BK280.out hb); replace HB := m_ (below_step hbs_ hb); clear hb; (try clear ho0)) | ((with_reducible refine gate_dst (N := 4) rfl ?_); refine bx_ (N := 4) (cs := #[.int .i64 0, .slice none 0 0]) (t := 26) ?_; intro gb287 hg w6 hbox hb; replace HO285 := m_ (Kd.S_below (Kd.S_below HO285.out bgo_) hb); have BK287 := m_ (hbox); have GW287 := m_ ((by rw [hg]; exact (below_size hbs_) : w.heap.size ≤ gb287)); have GE287 := m_ ((by rw [hg]; exact (below_size hbs_) : w.heap.size ≤ gb287)); replace HB := m_ (below_step hbs_ hb); have NB280_287 := m_ ((by rw [hg]; exact Nat.ne_of_lt (blk_lt (blk_below BK280.out bgo_)) : gb280 ≠ gb287)); have NB287_280 := m_ NB280_287.out.symm; replace BK280 := m_ (bb_ BK280.out hb); clear hb hbox hg; have hnb7 := NB287_280.out; have hnc7 := NB280_287.out; have hcz8_0 := bc0_ BK287.out; have hcz8_1 := bc1_ BK287.out; have hfz8_0 := blk_frozen BK287.out 0; have hfz8_1 := blk_frozen BK287.out 1; obtain ⟨Ao9, co9, eo9⟩ := Kd.S_slice HO285.out; subst eo9; have hcz10_0 := bc0_ BK280.out; have hcz10_1 := bc1_ BK280.out; have hfz10_0 := blk_frozen BK280.out 0; have hfz10_1 := blk_frozen BK280.out 1))
 refine bodyPost_ret (results_ct rfl _ _ gb280 26 #[.int .i64 t282, .slice Ao9 t283.length co9] (0, 0) _ rfl (by (with_reducible repeat (first | refine blk_drewN ?_ _ | refine blk_drew ?_ | refine blk_alloc ?_ _)); refine blk_put (cs := #[.int .i64 t282, .slice none 0 0]) ?_ 1 _ rfl; (with_reducible repeat (first | refine blk_drewN ?_ _ | refine blk_drew ?_ | refine blk_alloc ?_ _)); refine blk_put (cs := #[.int .i64 0, .slice none 0 0]) ?_ 0 _ rfl; (with_reducible repeat (first | refine blk_drewN ?_ _ | refine blk_drew ?_ | refine blk_alloc ?_ _)); refine blk_far ?_ NB280_287.out _; (with_reducible repeat (first | refine blk_drewN ?_ _ | refine blk_drew ?_ | refine blk_alloc ?_ _)); refine blk_far ?_ NB280_287.out _; (with_reducible repeat (first | refine blk_drewN ?_ _ | refine blk_drew ?_ | refine blk_alloc ?_ _)); exact BK280.out) Try.underlying26 rfl (by kernel_rfl)) rfl ?_
 exact ⟨_, er_, by (with_reducible repeat (first | apply Kd.S_alloc | apply Kd.S_drewN | apply Kd.S_drew)); exact Kd.S_mono (Kd.S_far (p := ⟨gb280, 1, none⟩) (Kd.S_far (p := ⟨gb280, 0, none⟩) (Kd.S_far (p := ⟨gb287, 1, none⟩) (Kd.S_far (p := ⟨gb287, 0, none⟩) (Kd.S_types (Kd.S_types HO285.out BK287.out (by decide)) BK280.out (by decide)) (fun _ hk => hk.1.2) (.int .i64 t282)) (fun _ hk => hk.1.2) (.slice Ao9 t283.length co9)) (fun _ hk => hk.2) (.int .i64 t282)) (fun _ hk => hk.2) (.slice Ao9 t283.length co9)) (fun _ hk => trivial), hbs_⟩

/-! ### spec_l01Draw: function 226 -/
def spec_l01Draw.f (k : Nat) (s0_0 : List Int) (s0_1 : Int) (s0_2 : Int) : Option (Int × (List (List Int)) × Int × Int) := (spec_l01Next.f s0_0 s0_1 s0_2 4).bind fun bt289 => (if bt289.1 = 0 then ((spec_l01Names.f).bind fun t292 => ((spec_l01Next.f s0_0 bt289.2.1 bt289.2.2 (t292.length : Int)).bind fun bt295 => (if 0 ≤ bt295.1 then (if bt295.1 < (t292.length : Int) then ((spec_l01Named.f k (rdOf ByteArray.empty t292 bt295.1)).bind fun bt299 => (some (bt299.1, bt299.2.1, bt295.2.1, bt295.2.2))) else (none)) else (none)))) else ((spec_l01Next.f s0_0 bt289.2.1 bt289.2.2 8).bind fun bt305 => ((spec_l01Pick.f s0_0 bt305.2.1 bt305.2.2 (([1, 2, 3, 3, 4, 4, 5, 6, wrap64 (1 + bt305.1)] : List Int))).bind fun bt311 => ((spec_l01Pick.f s0_0 bt311.2.1 bt311.2.2 (([2, 4, 6, 6, 8, 10] : List Int))).bind fun bt317 => ((spec_l01DrawOf.f k s0_0 bt317.2.1 bt317.2.2 bt311.1 bt317.1).bind fun bt320 => (some (bt320.1, bt320.2.1, bt320.2.2.1, bt320.2.2.2)))))))
set_option maxHeartbeats 8000000 in
set_option maxRecDepth 100000 in
theorem spec_l01Draw.calls (k : Nat) (g : Nat) (s0_0 : List Int) (s0_1 : Int) (s0_2 : Int) (r1 : Int) (r2 : List (List Int)) (r3 : Int) (r4 : Int) (w0 w : World) (hI : IsS131 w0 w g s0_0 s0_1 s0_2) (hB : Below w0.heap.size w0 w) (h : spec_l01Draw.f k s0_0 s0_1 s0_2 = some (r1, r2, r3, r4)) :
  Calls Try.prog 226 #[.pointer (some ⟨g, 0, none⟩)] w fun e w' => ∃ v1_ : Value, e = .returned (.agg #[.int .i64 r1, v1_]) ∧ Kd.S (Kd.slice 2 (Kd.int .i64)) 29 w' w.heap.size (fun _ => True) v1_ r2 ∧ IsS131 w0 w' g s0_0 r3 r4 ∧ Below w0.heap.size w0 w' ∧ KeepBut w w' g none := by
 have hu26 := Try.underlying26
 have HI0 := m_ hI
 have HK := m_ (KeepBut.refl w g none)
 have HL := m_ hB.size
 clear hI
 have HW0 := m_ hB.size
 have HB := m_ hB
 clear hB
 have H : ((spec_l01Next.f s0_0 s0_1 s0_2 4).bind fun bt289 => (if bt289.1 = 0 then ((spec_l01Names.f).bind fun t292 => ((spec_l01Next.f s0_0 bt289.2.1 bt289.2.2 (t292.length : Int)).bind fun bt295 => (if 0 ≤ bt295.1 then (if bt295.1 < (t292.length : Int) then ((spec_l01Named.f k (rdOf ByteArray.empty t292 bt295.1)).bind fun bt299 => (some (bt299.1, bt299.2.1, bt295.2.1, bt295.2.2))) else (none)) else (none)))) else ((spec_l01Next.f s0_0 bt289.2.1 bt289.2.2 8).bind fun bt305 => ((spec_l01Pick.f s0_0 bt305.2.1 bt305.2.2 (([1, 2, 3, 3, 4, 4, 5, 6, wrap64 (1 + bt305.1)] : List Int))).bind fun bt311 => ((spec_l01Pick.f s0_0 bt311.2.1 bt311.2.2 (([2, 4, 6, 6, 8, 10] : List Int))).bind fun bt317 => ((spec_l01DrawOf.f k s0_0 bt317.2.1 bt317.2.2 bt311.1 bt317.1).bind fun bt320 => (some (bt320.1, bt320.2.1, bt320.2.2.1, bt320.2.2.2)))))))) = some (r1, r2, r3, r4) := h
 clear h
 obtain ⟨⟨t289, t290, t291⟩, A2, H⟩ := bnd_ H
 dsimp only at H
 by_cases c3 : t289 = 0
 ·rw [if_pos c3] at H
  have c3b0 : (t289 == 0) = true := beq_iff_eq.mpr c3
  have c3b1 : (t289 != 0) = false := bne_eq_false_iff_eq.mpr c3
  clear c3
  obtain ⟨t292, A4, H⟩ := bnd_ H
  obtain ⟨⟨t295, t296, t297⟩, A5, H⟩ := bnd_ H
  dsimp only at H
  obtain ⟨c6, H⟩ := itn_ H
  have c6b0 := decide_eq_true c6
  clear c6
  obtain ⟨c7, H⟩ := itn_ H
  have c7b0 := decide_eq_true c7
  clear c7
  obtain ⟨⟨t299, t300, t303⟩, A8, H⟩ := bnd_ H
  dsimp only at H
  simp only [Option.some.injEq, Prod.mk.injEq] at H
  obtain ⟨rfl, rfl, rfl, rfl⟩ := H
  go_enter Try.func226, Try.ntmps226
  go_wp2_with (first | ((with_reducible refine gate_dst (N := 2) rfl ?_); refine bx_ (N := 2) (cs := #[.int .i64 0, .slice none 0 0]) (t := 26) ?_; intro gb288 hg w9 hbox hb; replace HB := m_ (below_step IsS131.hb_ hb); have BK288 := m_ (hbox); have GW288 := m_ ((by rw [hg]; exact (keep_size (w := w) (g := g) (row := none) kp_) : w.heap.size ≤ gb288)); have GE288 := m_ (Nat.le_trans HW0.out GW288.out); replace HK := m_ (KeepBut.trans kp_ (KeepBut.of_below hb g none) (.inl rfl)); have NB0_288 := m_ ((by rw [hg]; exact Nat.ne_of_lt (IsS131.lt (show IsS131 w0 _ g s0_0 s0_1 s0_2 from IsS131.go_)) : g ≠ gb288)); have NB288_0 := m_ NB0_288.out.symm; replace HI0 := m_ (IsS131.below IsS131.go_ hb); clear hb hbox hg) | ((with_reducible refine gate_callee (f := 171) rfl ?_); refine gl_ (some 7) Try.func171 #[.pointer (some ⟨g, 0, none⟩), .int .i64 4] ?_; (with_reducible refine (spec_l01Next.calls g s0_0 s0_1 s0_2 4 t289 t290 t291 w0 _ ?side1 ?side2 A2.out).mono ?_); (case side1 => exact IsS131.gs_); (case side2 => exact IsS131.hs_); rintro e w10 ⟨rfl, hi, hb, hk⟩; refine ⟨_, rfl, ?_⟩; replace BK288 := m_ (KeepBut.blk hk (blk_below BK288.out bgo_) NB288_0.out (by simp)); replace HK := m_ (KeepBut.trans kp_ hk (.inl rfl)); replace HB := m_ (hb); replace HI0 := m_ (hi); clear hi hb hk) | ((with_reducible refine gate_callee (f := 255) rfl ?_); refine gl_ (some 9) Try.func255 #[] ?_; (with_reducible refine (spec_l01Names.calls  t292 _ A4.out).mono ?_); rintro e w11 ⟨v293, rfl, ho0, hb⟩; refine ⟨_, rfl, ?_⟩; have HO294 := m_ (Kd.R_lower ho0 (keep_size (w := w) (g := g) (row := none) kp_)); replace BK288 := m_ (bb_ BK288.out hb); replace HK := m_ (KeepBut.trans kp_ (KeepBut.of_below hb g none) (.inl rfl)); replace HB := m_ (below_step IsS131.hs_ hb); replace HI0 := m_ (IsS131.below IsS131.gs_ hb); clear hb; (try clear ho0); obtain ⟨Ao12, co12, eo12⟩ := Kd.R_slice HO294.out; subst eo12) | ((with_reducible refine gate_callee (f := 171) rfl ?_); refine gl_ (some 15) Try.func171 #[.pointer (some ⟨g, 0, none⟩), .int .i64 (t292.length : Int)] ?_; (with_reducible refine (spec_l01Next.calls g s0_0 t290 t291 (t292.length : Int) t295 t296 t297 w0 _ ?side1 ?side2 A5.out).mono ?_); (case side1 => exact IsS131.gs_); (case side2 => exact IsS131.hs_); rintro e w13 ⟨rfl, hi, hb, hk⟩; refine ⟨_, rfl, ?_⟩; replace BK288 := m_ (KeepBut.blk hk (blk_below BK288.out bgo_) NB288_0.out (by simp)); replace HO294 := m_ (Kd.R_mono (Kd.R_keep (IsS131.apart (show IsS131 w0 _ g s0_0 t290 t291 from IsS131.gs_) (Kd.R_below HO294.out bgo_) (by decide)) hk (fun _ h => h.2)) (fun _ h => h.1)); replace HK := m_ (KeepBut.trans kp_ hk (.inl rfl)); replace HB := m_ (hb); replace HI0 := m_ (hi); clear hi hb hk; have p298 : 0 ≤ (t295 : Int) := od_; have q298 : t295 < (t292.length : Int) := od_; obtain ⟨ad298, e298, hx298_0⟩ := Kd.at_string (Kd.R_reads' HO294.out).2.2 t295 p298 q298; cases e298; replace p298 := eq_true p298; replace q298 := eq_true q298) | ((with_reducible refine gate_callee (f := 256) rfl ?_); refine gl_ (some 18) Try.func256 #[.string (rdOf ByteArray.empty t292 t295)] ?_; (with_reducible refine (spec_l01Named.calls k (rdOf ByteArray.empty t292 t295) t299 t300 t303 _ A8.out).mono ?_); rintro e w14 ⟨v301, rfl, ho0, hb⟩; refine ⟨_, rfl, ?_⟩; replace HO294 := m_ (Kd.R_below (Kd.R_below HO294.out bgo_) hb); have HO302 := m_ (Kd.S_lower ho0 (keep_size (w := w) (g := g) (row := none) kp_)); replace BK288 := m_ (bb_ BK288.out hb); replace HK := m_ (KeepBut.trans kp_ (KeepBut.of_below hb g none) (.inl rfl)); replace HB := m_ (below_step IsS131.hs_ hb); replace HI0 := m_ (IsS131.below IsS131.gs_ hb); clear hb; (try clear ho0)) | ((with_reducible refine gate_dst (N := 4) rfl ?_); refine bx_ (N := 4) (cs := #[.int .i64 0, .slice none 0 0]) (t := 26) ?_; intro gb304 hg w15 hbox hb; replace HO294 := m_ (Kd.R_below (Kd.R_below HO294.out bgo_) hb); replace HO302 := m_ (Kd.S_below (Kd.S_below HO302.out bgo_) hb); replace HB := m_ (below_step IsS131.hs_ hb); have BK304 := m_ (hbox); have GW304 := m_ ((by rw [hg]; exact (keep_size (w := w) (g := g) (row := none) kp_) : w.heap.size ≤ gb304)); have GE304 := m_ (Nat.le_trans HW0.out GW304.out); replace HK := m_ (KeepBut.trans kp_ (KeepBut.of_below hb g none) (.inl rfl)); have NB288_304 := m_ ((by rw [hg]; exact Nat.ne_of_lt (blk_lt (blk_below BK288.out bgo_)) : gb288 ≠ gb304)); have NB304_288 := m_ NB288_304.out.symm; replace BK288 := m_ (bb_ BK288.out hb); have NB0_304 := m_ ((by rw [hg]; exact Nat.ne_of_lt (IsS131.lt (show IsS131 w0 _ g s0_0 t296 t297 from IsS131.gs_)) : g ≠ gb304)); have NB304_0 := m_ NB0_304.out.symm; replace HI0 := m_ (IsS131.below IsS131.gs_ hb); clear hb hbox hg; have hnb16 := NB304_288.out; have hnc16 := NB288_304.out; have hnb17 := NB304_0.out; have hnc17 := NB0_304.out; have hcz18_0 := bc0_ BK304.out; have hcz18_1 := bc1_ BK304.out; have hfz18_0 := blk_frozen BK304.out 0; have hfz18_1 := blk_frozen BK304.out 1; obtain ⟨Ao19, co19, eo19⟩ := Kd.S_slice HO302.out; subst eo19; have hnb20 := NB288_0.out; have hnc20 := NB0_288.out; have hcz21_0 := bc0_ BK288.out; have hcz21_1 := bc1_ BK288.out; have hfz21_0 := blk_frozen BK288.out 0; have hfz21_1 := blk_frozen BK288.out 1))
  refine bodyPost_ret (results_cell_row rfl _ _ gb288 26 #[.int .i64 t299, .slice Ao19 t300.length co19] (0, 0) _ rfl (by (with_reducible repeat (first | refine blk_drewN ?_ _ | refine blk_drew ?_ | refine blk_alloc ?_ _)); refine blk_put (cs := #[.int .i64 t299, .slice none 0 0]) ?_ 1 _ rfl; (with_reducible repeat (first | refine blk_drewN ?_ _ | refine blk_drew ?_ | refine blk_alloc ?_ _)); refine blk_put (cs := #[.int .i64 0, .slice none 0 0]) ?_ 0 _ rfl; (with_reducible repeat (first | refine blk_drewN ?_ _ | refine blk_drew ?_ | refine blk_alloc ?_ _)); refine blk_far ?_ NB288_304.out _; (with_reducible repeat (first | refine blk_drewN ?_ _ | refine blk_drew ?_ | refine blk_alloc ?_ _)); refine blk_far ?_ NB288_304.out _; (with_reducible repeat (first | refine blk_drewN ?_ _ | refine blk_drew ?_ | refine blk_alloc ?_ _)); exact BK288.out) Try.underlying26 rfl (by kernel_rfl)) rfl ?_
  exact ⟨_, er_, by (with_reducible repeat (first | apply Kd.S_alloc | apply Kd.S_drewN | apply Kd.S_drew)); exact Kd.S_mono (Kd.S_far (p := ⟨gb288, 1, none⟩) (Kd.S_far (p := ⟨gb288, 0, none⟩) (Kd.S_far (p := ⟨gb304, 1, none⟩) (Kd.S_far (p := ⟨gb304, 0, none⟩) (Kd.S_types (Kd.S_types HO302.out BK304.out (by decide)) BK288.out (by decide)) (fun _ hk => hk.1.2) (.int .i64 t299)) (fun _ hk => hk.1.2) (.slice Ao19 t300.length co19)) (fun _ hk => hk.2) (.int .i64 t299)) (fun _ hk => hk.2) (.slice Ao19 t300.length co19)) (fun _ hk => trivial), IsS131.gs_, IsS131.hs_, kp_⟩
 ·rw [if_neg c3] at H
  have c3b0 : (t289 == 0) = false := beq_eq_false_iff_ne.mpr c3
  have c3b1 : (t289 != 0) = true := bne_iff_ne.mpr c3
  obtain ⟨⟨t305, t306, t307⟩, A22, H⟩ := bnd_ H
  dsimp only at H
  obtain ⟨y308, Ny308, H⟩ : ∃ y308 : List Int, Aside0 (y308 = (([1, 2, 3, 3, 4, 4, 5, 6, wrap64 (1 + t305)] : List Int))) ∧ ((spec_l01Pick.f s0_0 t306 t307 y308).bind fun bt311 => ((spec_l01Pick.f s0_0 bt311.2.1 bt311.2.2 (([2, 4, 6, 6, 8, 10] : List Int))).bind fun bt317 => ((spec_l01DrawOf.f k s0_0 bt317.2.1 bt317.2.2 bt311.1 bt317.1).bind fun bt320 => (some (bt320.1, bt320.2.1, bt320.2.2.1, bt320.2.2.2))))) = some (r1, r2, r3, r4) := ⟨_, ⟨rfl⟩, H⟩
  obtain ⟨⟨t311, t312, t313⟩, A23, H⟩ := bnd_ H
  dsimp only at H
  obtain ⟨y314, Ny314, H⟩ : ∃ y314 : List Int, Aside0 (y314 = (([2, 4, 6, 6, 8, 10] : List Int))) ∧ ((spec_l01Pick.f s0_0 t312 t313 y314).bind fun bt317 => ((spec_l01DrawOf.f k s0_0 bt317.2.1 bt317.2.2 t311 bt317.1).bind fun bt320 => (some (bt320.1, bt320.2.1, bt320.2.2.1, bt320.2.2.2)))) = some (r1, r2, r3, r4) := ⟨_, ⟨rfl⟩, H⟩
  obtain ⟨⟨t317, t318, t319⟩, A24, H⟩ := bnd_ H
  dsimp only at H
  obtain ⟨⟨t320, t321, t324, t325⟩, A25, H⟩ := bnd_ H
  dsimp only at H
  simp only [Option.some.injEq, Prod.mk.injEq] at H
  obtain ⟨rfl, rfl, rfl, rfl⟩ := H
  go_enter Try.func226, Try.ntmps226
  go_wp2_with (first | ((with_reducible refine gate_dst (N := 2) rfl ?_); refine bx_ (N := 2) (cs := #[.int .i64 0, .slice none 0 0]) (t := 26) ?_; intro gb288 hg w26 hbox hb; replace HB := m_ (below_step IsS131.hb_ hb); have BK288 := m_ (hbox); have GW288 := m_ ((by rw [hg]; exact (keep_size (w := w) (g := g) (row := none) kp_) : w.heap.size ≤ gb288)); have GE288 := m_ (Nat.le_trans HW0.out GW288.out); replace HK := m_ (KeepBut.trans kp_ (KeepBut.of_below hb g none) (.inl rfl)); have NB0_288 := m_ ((by rw [hg]; exact Nat.ne_of_lt (IsS131.lt (show IsS131 w0 _ g s0_0 s0_1 s0_2 from IsS131.go_)) : g ≠ gb288)); have NB288_0 := m_ NB0_288.out.symm; replace HI0 := m_ (IsS131.below IsS131.go_ hb); clear hb hbox hg) | ((with_reducible refine gate_callee (f := 171) rfl ?_); refine gl_ (some 7) Try.func171 #[.pointer (some ⟨g, 0, none⟩), .int .i64 4] ?_; (with_reducible refine (spec_l01Next.calls g s0_0 s0_1 s0_2 4 t289 t290 t291 w0 _ ?side1 ?side2 A2.out).mono ?_); (case side1 => exact IsS131.gs_); (case side2 => exact IsS131.hs_); rintro e w27 ⟨rfl, hi, hb, hk⟩; refine ⟨_, rfl, ?_⟩; replace BK288 := m_ (KeepBut.blk hk (blk_below BK288.out bgo_) NB288_0.out (by simp)); replace HK := m_ (KeepBut.trans kp_ hk (.inl rfl)); replace HB := m_ (hb); replace HI0 := m_ (hi); clear hi hb hk) | ((with_reducible refine gate_callee (f := 171) rfl ?_); refine gl_ (some 25) Try.func171 #[.pointer (some ⟨g, 0, none⟩), .int .i64 8] ?_; (with_reducible refine (spec_l01Next.calls g s0_0 t290 t291 8 t305 t306 t307 w0 _ ?side1 ?side2 A22.out).mono ?_); (case side1 => exact IsS131.gs_); (case side2 => exact IsS131.hs_); rintro e w28 ⟨rfl, hi, hb, hk⟩; refine ⟨_, rfl, ?_⟩; replace BK288 := m_ (KeepBut.blk hk (blk_below BK288.out bgo_) NB288_0.out (by simp)); replace HK := m_ (KeepBut.trans kp_ hk (.inl rfl)); replace HB := m_ (hb); replace HI0 := m_ (hi); clear hi hb hk) | ((with_reducible refine gate_dst (N := 27) rfl ?_); refine Kd.R_lit (Kd.int .i64) _ 2 ?hg (N := 27) ?hd (xs := ([1, 2, 3, 3, 4, 4, 5, 6, wrap64 (1 + t305)] : List Int)) (inner := [.int .i64 1, .int .i64 2, .int .i64 3, .int .i64 3, .int .i64 4, .int .i64 4, .int .i64 5, .int .i64 6, .int .i64 (wrap64 (1 + t305))]) (ok := fun _ => True) (okp := fun _ => True) ?hr ?hp (fun _ hk => hk) trivial (Below.refl _ _) (Nat.le_refl _) (by simp) ?_; (case hd => rfl); (case hg => rfl); (case hr => first | (go_simp; done) | (go_simp; rfl)); (case hp => exact (Reps.one (show Kd.M (Kd.int .i64) _ _ _ 1 [.int .i64 1] from rfl) (Reps.one (show Kd.M (Kd.int .i64) _ _ _ 2 [.int .i64 2] from rfl) (Reps.one (show Kd.M (Kd.int .i64) _ _ _ 3 [.int .i64 3] from rfl) (Reps.one (show Kd.M (Kd.int .i64) _ _ _ 3 [.int .i64 3] from rfl) (Reps.one (show Kd.M (Kd.int .i64) _ _ _ 4 [.int .i64 4] from rfl) (Reps.one (show Kd.M (Kd.int .i64) _ _ _ 4 [.int .i64 4] from rfl) (Reps.one (show Kd.M (Kd.int .i64) _ _ _ 5 [.int .i64 5] from rfl) (Reps.one (show Kd.M (Kd.int .i64) _ _ _ 6 [.int .i64 6] from rfl) (Reps.one (show Kd.M (Kd.int .i64) _ _ _ (wrap64 (1 + t305)) [.int .i64 (wrap64 (1 + t305))] from rfl) (Reps.none _ _))))))))))); intro v309 w29 ho30 hb hg_ hnew_; clear hg_ hnew_; rw [← Ny308.out] at ho30; have HO310 := m_ (Kd.R_lower ho30 (keep_size (w := w) (g := g) (row := none) kp_)); replace BK288 := m_ (bb_ BK288.out hb); replace HK := m_ (KeepBut.trans kp_ (KeepBut.of_below hb g none) (.inl rfl)); replace HB := m_ (below_step IsS131.hs_ hb); replace HI0 := m_ (IsS131.below IsS131.gs_ hb); clear hb ho30; obtain ⟨Ao31, co31, eo31⟩ := Kd.R_slice HO310.out; subst eo31) | ((with_reducible refine gate_callee (f := 144) rfl ?_); refine gl_ (some 28) Try.func144 #[.pointer (some ⟨g, 0, none⟩), .slice Ao31 y308.length co31] ?_; (with_reducible refine (spec_l01Pick.calls g s0_0 t306 t307 _ _ y308 t311 t312 t313 w0 _ ?side1 ?side2 ?side3 ?side4 ?side5 A23.out).mono ?_); (case side1 => exact IsS131.gs_); (case side2 => exact IsS131.hs_); (case side3 => exact Kd.C_below (Kd.R_reads' HO310.out).2.2 bgo_); (case side4 => exact (Kd.R_reads' HO310.out).2.1); (case side5 => exact far_slice (IsS131.own_ne HI0.out HO310.out (by decide))); rintro e w32 ⟨rfl, hi, hb, hk⟩; refine ⟨_, rfl, ?_⟩; replace BK288 := m_ (KeepBut.blk hk (blk_below BK288.out bgo_) NB288_0.out (by simp)); replace HO310 := m_ (Kd.R_mono (Kd.R_keep (IsS131.apart (show IsS131 w0 _ g s0_0 t306 t307 from IsS131.gs_) (Kd.R_below HO310.out bgo_) (by decide)) hk (fun _ h => h.2)) (fun _ h => h.1)); replace HK := m_ (KeepBut.trans kp_ hk (.inl rfl)); replace HB := m_ (hb); replace HI0 := m_ (hi); clear hi hb hk) | ((with_reducible refine gate_dst (N := 30) rfl ?_); refine Kd.R_lit (Kd.int .i64) _ 2 ?hg (N := 30) ?hd (xs := ([2, 4, 6, 6, 8, 10] : List Int)) (inner := [.int .i64 2, .int .i64 4, .int .i64 6, .int .i64 6, .int .i64 8, .int .i64 10]) (ok := fun _ => True) (okp := fun _ => True) ?hr ?hp (fun _ hk => hk) trivial (Below.refl _ _) (Nat.le_refl _) (by simp) ?_; (case hd => rfl); (case hg => rfl); (case hr => first | (go_simp; done) | (go_simp; rfl)); (case hp => exact (Reps.one (show Kd.M (Kd.int .i64) _ _ _ 2 [.int .i64 2] from rfl) (Reps.one (show Kd.M (Kd.int .i64) _ _ _ 4 [.int .i64 4] from rfl) (Reps.one (show Kd.M (Kd.int .i64) _ _ _ 6 [.int .i64 6] from rfl) (Reps.one (show Kd.M (Kd.int .i64) _ _ _ 6 [.int .i64 6] from rfl) (Reps.one (show Kd.M (Kd.int .i64) _ _ _ 8 [.int .i64 8] from rfl) (Reps.one (show Kd.M (Kd.int .i64) _ _ _ 10 [.int .i64 10] from rfl) (Reps.none _ _)))))))); intro v315 w33 ho34 hb hg_ hnew_; clear hg_ hnew_; rw [← Ny314.out] at ho34; have HO316 := m_ (Kd.R_lower (Kd.R_new' ho34 (Kd.R_lt (Kd.R_below HO310.out bgo_))) (keep_size (w := w) (g := g) (row := none) kp_)); replace HO310 := m_ (Kd.R_elder' (Kd.R_below HO310.out bgo_) (Kd.R_base ho34) hb); replace BK288 := m_ (bb_ BK288.out hb); replace HK := m_ (KeepBut.trans kp_ (KeepBut.of_below hb g none) (.inl rfl)); replace HB := m_ (below_step IsS131.hs_ hb); replace HI0 := m_ (IsS131.below IsS131.gs_ hb); clear hb ho34; obtain ⟨Ao35, co35, eo35⟩ := Kd.R_slice HO316.out; subst eo35) | ((with_reducible refine gate_callee (f := 144) rfl ?_); refine gl_ (some 31) Try.func144 #[.pointer (some ⟨g, 0, none⟩), .slice Ao35 y314.length co35] ?_; (with_reducible refine (spec_l01Pick.calls g s0_0 t312 t313 _ _ y314 t317 t318 t319 w0 _ ?side1 ?side2 ?side3 ?side4 ?side5 A24.out).mono ?_); (case side1 => exact IsS131.gs_); (case side2 => exact IsS131.hs_); (case side3 => exact Kd.C_below (Kd.R_reads' HO316.out).2.2 bgo_); (case side4 => exact (Kd.R_reads' HO316.out).2.1); (case side5 => exact far_slice (IsS131.own_ne HI0.out HO316.out (by decide))); rintro e w36 ⟨rfl, hi, hb, hk⟩; refine ⟨_, rfl, ?_⟩; replace BK288 := m_ (KeepBut.blk hk (blk_below BK288.out bgo_) NB288_0.out (by simp)); replace HO310 := m_ (Kd.R_mono (Kd.R_keep (IsS131.apart (show IsS131 w0 _ g s0_0 t312 t313 from IsS131.gs_) (Kd.R_below HO310.out bgo_) (by decide)) hk (fun _ h => h.2)) (fun _ h => h.1)); replace HO316 := m_ (Kd.R_mono (Kd.R_keep (IsS131.apart (show IsS131 w0 _ g s0_0 t312 t313 from IsS131.gs_) (Kd.R_below HO316.out bgo_) (by decide)) hk (fun _ h => h.2)) (fun _ h => h.1)); replace HK := m_ (KeepBut.trans kp_ hk (.inl rfl)); replace HB := m_ (hb); replace HI0 := m_ (hi); clear hi hb hk) | ((with_reducible refine gate_callee (f := 238) rfl ?_); refine gl_ (some 32) Try.func238 #[.pointer (some ⟨g, 0, none⟩), .int .i64 t311, .int .i64 t317] ?_; (with_reducible refine (spec_l01DrawOf.calls k g s0_0 t318 t319 t311 t317 t320 t321 t324 t325 w0 _ ?side1 ?side2 A25.out).mono ?_); (case side1 => exact IsS131.gs_); (case side2 => exact IsS131.hs_); rintro e w37 ⟨v322, rfl, ho0, hi, hb, hk⟩; refine ⟨_, rfl, ?_⟩; replace BK288 := m_ (KeepBut.blk hk (blk_below BK288.out bgo_) NB288_0.out (by simp)); have HO323 := m_ (Kd.S_lower (Kd.S_new' (Kd.S_new' ho0 (Kd.R_lt (Kd.R_below HO310.out bgo_))) (Kd.R_lt (Kd.R_below HO316.out bgo_))) (keep_size (w := w) (g := g) (row := none) kp_)); replace HO310 := m_ (Kd.R_mono (Kd.R_keep (IsS131.apart (show IsS131 w0 _ g s0_0 t318 t319 from IsS131.gs_) (Kd.R_below HO310.out bgo_) (by decide)) hk (fun _ h => h.2)) (fun _ h => h.1)); replace HO316 := m_ (Kd.R_mono (Kd.R_keep (IsS131.apart (show IsS131 w0 _ g s0_0 t318 t319 from IsS131.gs_) (Kd.R_below HO316.out bgo_) (by decide)) hk (fun _ h => h.2)) (fun _ h => h.1)); replace HK := m_ (KeepBut.trans kp_ hk (.inl rfl)); replace HB := m_ (hb); replace HI0 := m_ (hi); clear hi hb hk; (try clear ho0); have hnb38 := NB288_0.out; have hnc38 := NB0_288.out; have hcz39_0 := bc0_ BK288.out; have hcz39_1 := bc1_ BK288.out; have hfz39_0 := blk_frozen BK288.out 0; have hfz39_1 := blk_frozen BK288.out 1; obtain ⟨Ao40, co40, eo40⟩ := Kd.S_slice HO323.out; subst eo40))
  refine bodyPost_ret (results_cell_row rfl _ _ gb288 26 #[.int .i64 t320, .slice Ao40 t321.length co40] (0, 0) _ rfl (by (with_reducible repeat (first | refine blk_drewN ?_ _ | refine blk_drew ?_ | refine blk_alloc ?_ _)); refine blk_put (cs := #[.int .i64 t320, .slice none 0 0]) ?_ 1 _ rfl; (with_reducible repeat (first | refine blk_drewN ?_ _ | refine blk_drew ?_ | refine blk_alloc ?_ _)); refine blk_put (cs := #[.int .i64 0, .slice none 0 0]) ?_ 0 _ rfl; (with_reducible repeat (first | refine blk_drewN ?_ _ | refine blk_drew ?_ | refine blk_alloc ?_ _)); exact BK288.out) Try.underlying26 rfl (by kernel_rfl)) rfl ?_
  exact ⟨_, er_, by (with_reducible repeat (first | apply Kd.S_alloc | apply Kd.S_drewN | apply Kd.S_drew)); exact Kd.S_mono (Kd.S_far (p := ⟨gb288, 1, none⟩) (Kd.S_far (p := ⟨gb288, 0, none⟩) (Kd.S_types HO323.out BK288.out (by decide)) (fun _ hk => hk.2) (.int .i64 t320)) (fun _ hk => hk.2) (.slice Ao40 t321.length co40)) (fun _ hk => trivial), IsS131.gs_, IsS131.hs_, kp_⟩

/-! ### spec_l01Spoil: function 135 -/
def spec_l01Spoil.f (k : Nat) (s0_0 : List Int) (s0_1 : Int) (s0_2 : Int) : Option (Int × (List (List Int)) × Int × Int) := (spec_l01Draw.f k s0_0 s0_1 s0_2).bind fun bt327 => ((spec_l01Bad.f k s0_0 bt327.2.2.1 bt327.2.2.2 bt327.1 bt327.2.1).bind fun bt333 => (some (bt333.1, bt333.2.1, bt333.2.2.1, bt333.2.2.2)))
set_option maxHeartbeats 8000000 in
set_option maxRecDepth 100000 in
theorem spec_l01Spoil.calls (k : Nat) (g : Nat) (s0_0 : List Int) (s0_1 : Int) (s0_2 : Int) (r1 : Int) (r2 : List (List Int)) (r3 : Int) (r4 : Int) (w0 w : World) (hI : IsS131 w0 w g s0_0 s0_1 s0_2) (hB : Below w0.heap.size w0 w) (h : spec_l01Spoil.f k s0_0 s0_1 s0_2 = some (r1, r2, r3, r4)) :
  Calls Try.prog 135 #[.pointer (some ⟨g, 0, none⟩)] w fun e w' => ∃ v1_ : Value, e = .returned (.agg #[.int .i64 r1, v1_]) ∧ Kd.V (Kd.slice 2 (Kd.int .i64)) 29 w' w.heap.size (fun k_ => (w.heap.size ≤ k_)) v1_ r2 ∧ IsS131 w0 w' g s0_0 r3 r4 ∧ Below w0.heap.size w0 w' ∧ KeepBut w w' g none := by
 have hu26 := Try.underlying26
 have HI0 := m_ hI
 have HK := m_ (KeepBut.refl w g none)
 have HL := m_ hB.size
 clear hI
 have HW0 := m_ hB.size
 have HB := m_ hB
 clear hB
 have H : ((spec_l01Draw.f k s0_0 s0_1 s0_2).bind fun bt327 => ((spec_l01Bad.f k s0_0 bt327.2.2.1 bt327.2.2.2 bt327.1 bt327.2.1).bind fun bt333 => (some (bt333.1, bt333.2.1, bt333.2.2.1, bt333.2.2.2)))) = some (r1, r2, r3, r4) := h
 clear h
 obtain ⟨⟨t327, t328, t331, t332⟩, A2, H⟩ := bnd_ H
 dsimp only at H
 obtain ⟨⟨t333, t334, t337, t338⟩, A3, H⟩ := bnd_ H
 dsimp only at H
 simp only [Option.some.injEq, Prod.mk.injEq] at H
 obtain ⟨rfl, rfl, rfl, rfl⟩ := H
 go_enter Try.func135, Try.ntmps135
 go_wp2_with (first | ((with_reducible refine gate_dst (N := 2) rfl ?_); refine bx_ (N := 2) (cs := #[.int .i64 0, .slice none 0 0]) (t := 26) ?_; intro gb326 hg w4 hbox hb; replace HB := m_ (below_step IsS131.hb_ hb); have BK326 := m_ (hbox); have GW326 := m_ ((by rw [hg]; exact (keep_size (w := w) (g := g) (row := none) kp_) : w.heap.size ≤ gb326)); have GE326 := m_ (Nat.le_trans HW0.out GW326.out); replace HK := m_ (KeepBut.trans kp_ (KeepBut.of_below hb g none) (.inl rfl)); have NB0_326 := m_ ((by rw [hg]; exact Nat.ne_of_lt (IsS131.lt (show IsS131 w0 _ g s0_0 s0_1 s0_2 from IsS131.go_)) : g ≠ gb326)); have NB326_0 := m_ NB0_326.out.symm; replace HI0 := m_ (IsS131.below IsS131.go_ hb); clear hb hbox hg) | ((with_reducible refine gate_callee (f := 226) rfl ?_); refine gl_ (some 5) Try.func226 #[.pointer (some ⟨g, 0, none⟩)] ?_; (with_reducible refine (spec_l01Draw.calls k g s0_0 s0_1 s0_2 t327 t328 t331 t332 w0 _ ?side1 ?side2 A2.out).mono ?_); (case side1 => exact IsS131.gs_); (case side2 => exact IsS131.hs_); rintro e w5 ⟨v329, rfl, ho0, hi, hb, hk⟩; refine ⟨_, rfl, ?_⟩; replace BK326 := m_ (KeepBut.blk hk (blk_below BK326.out bgo_) NB326_0.out (by simp)); have HO330 := m_ (Kd.S_lower (Kd.S_newM (M := fun k_ => (w.heap.size ≤ k_)) ho0 (keep_size (w := w) (g := g) (row := none) kp_) (fun k_ h_ => h_)) (keep_size (w := w) (g := g) (row := none) kp_)); replace HK := m_ (KeepBut.trans kp_ hk (.inl rfl)); replace HB := m_ (hb); replace HI0 := m_ (hi); clear hi hb hk; (try clear ho0); obtain ⟨Ao6, co6, eo6⟩ := Kd.S_slice HO330.out; subst eo6) | ((with_reducible refine gate_callee (f := 225) rfl ?_); refine gl_ (some 6) Try.func225 #[.pointer (some ⟨g, 0, none⟩), .agg #[.int .i64 t327, .slice Ao6 t328.length co6]] ?_; (with_reducible refine (spec_l01Bad.calls k g s0_0 t331 t332 t327 (fun k_ => ((((w.heap.size ≤ k_) ∧ True) ∧ k_ ≠ gb326) ∧ k_ ≠ g)) _ _ t328 t333 t334 t337 t338 w0 _ ?side1 ?side2 ?side3 A3.out).mono ?_); (case side1 => exact IsS131.gs_); (case side2 => exact IsS131.hs_); (case side3 => exact Kd.V_mono (Kd.S_V (IsS131.apartS HI0.out (Kd.S_types (HO330.out) BK326.out (by decide)) (by decide))) (fun k_ hk_ => ⟨hk_, hk_.2⟩)); rintro e w7 ⟨v335, rfl, ho0, hi, hb, hk⟩; refine ⟨_, rfl, ?_⟩; replace HO330 := m_ (Kd.S_mono (Kd.S_keep (IsS131.apartS (show IsS131 w0 _ g s0_0 t331 t332 from IsS131.gs_) (Kd.S_below HO330.out bgo_) (by decide)) hk (fun _ h => h.2)) (fun _ h => h.1)); have HO336 := m_ (Kd.V_lower (Kd.V_mono (ok' := fun k_ => (w.heap.size ≤ k_) ∧ k_ ≠ gb326 ∧ k_ ≠ g) ho0 (fun k_ hk_ => ⟨Or.elim hk_ (fun hs_ => hs_.1.1.1) (fun hn_ => (Nat.le_trans (keep_size (w := w) (g := g) (row := none) kp_) hn_)), Or.elim hk_ (fun hs_ => hs_.1.2) (fun hn_ => (Kd.freshB (g := gb326) (o := .cells #[.int .i64 0, .slice none 0 0] 26 (0, 0)) (blk_below BK326.out bgo_) k_ hn_)), Or.elim hk_ (fun hs_ => hs_.2) (fun hn_ => (IsS131.fresh IsS131.gs_ k_ hn_))⟩)) (keep_size (w := w) (g := g) (row := none) kp_)); replace BK326 := m_ (KeepBut.blk hk (blk_below BK326.out bgo_) NB326_0.out (by simp)); replace HK := m_ (KeepBut.trans kp_ hk (.inl rfl)); replace HB := m_ (hb); replace HI0 := m_ (hi); clear hi hb hk; (try clear ho0); have hnb8 := NB326_0.out; have hnc8 := NB0_326.out; have hcz9_0 := bc0_ BK326.out; have hcz9_1 := bc1_ BK326.out; have hfz9_0 := blk_frozen BK326.out 0; have hfz9_1 := blk_frozen BK326.out 1; obtain ⟨Ao10, co10, eo10⟩ := Kd.V_slice HO336.out; subst eo10))
 refine bodyPost_ret (results_cell_row rfl _ _ gb326 26 #[.int .i64 t333, .slice Ao10 t334.length co10] (0, 0) _ rfl (by (with_reducible repeat (first | refine blk_drewN ?_ _ | refine blk_drew ?_ | refine blk_alloc ?_ _)); refine blk_put (cs := #[.int .i64 t333, .slice none 0 0]) ?_ 1 _ rfl; (with_reducible repeat (first | refine blk_drewN ?_ _ | refine blk_drew ?_ | refine blk_alloc ?_ _)); refine blk_put (cs := #[.int .i64 0, .slice none 0 0]) ?_ 0 _ rfl; (with_reducible repeat (first | refine blk_drewN ?_ _ | refine blk_drew ?_ | refine blk_alloc ?_ _)); exact BK326.out) Try.underlying26 rfl (by kernel_rfl)) rfl ?_
 exact ⟨_, er_, by (with_reducible repeat (first | apply Kd.V_alloc | apply Kd.V_drewN | apply Kd.V_drew)); exact Kd.V_mono (Kd.V_far (p := ⟨gb326, 1, none⟩) (Kd.V_far (p := ⟨gb326, 0, none⟩) (Kd.V_mono HO336.out (fun k_ hk => (⟨hk, hk.2.1⟩ : _ ∧ k_ ≠ gb326))) (fun _ hk => hk.2) (.int .i64 t333)) (fun _ hk => hk.2) (.slice Ao10 t334.length co10)) (fun _ hk => hk.1.1), IsS131.gs_, IsS131.hs_, kp_⟩

/-! ### spec_l04Small: function 202 -/
def spec_l04Small.f (k : Nat) (s0_0 : List Int) (s0_1 : Int) (s0_2 : Int) : Option (Int × (List (List Int)) × Int × Int) := (spec_l01Next.f s0_0 s0_1 s0_2 4).bind fun bt340 => (if bt340.1 = 0 then ((spec_l01Spoil.f k s0_0 bt340.2.1 bt340.2.2).bind fun bt343 => (some (bt343.1, bt343.2.1, bt343.2.2.1, bt343.2.2.2))) else ((spec_l01Next.f s0_0 bt340.2.1 bt340.2.2 3).bind fun bt349 => ((spec_l01Next.f s0_0 bt349.2.1 bt349.2.2 4).bind fun bt352 => ((spec_l01DrawOf.f k s0_0 bt352.2.1 bt352.2.2 (wrap64 (1 + bt349.1)) (wrap64 (1 + bt352.1))).bind fun bt355 => (some (bt355.1, bt355.2.1, bt355.2.2.1, bt355.2.2.2))))))
set_option maxHeartbeats 8000000 in
set_option maxRecDepth 100000 in
theorem spec_l04Small.calls (k : Nat) (g : Nat) (s0_0 : List Int) (s0_1 : Int) (s0_2 : Int) (r1 : Int) (r2 : List (List Int)) (r3 : Int) (r4 : Int) (w0 w : World) (hI : IsS131 w0 w g s0_0 s0_1 s0_2) (hB : Below w0.heap.size w0 w) (h : spec_l04Small.f k s0_0 s0_1 s0_2 = some (r1, r2, r3, r4)) :
  Calls Try.prog 202 #[.pointer (some ⟨g, 0, none⟩)] w fun e w' => ∃ v1_ : Value, e = .returned (.agg #[.int .i64 r1, v1_]) ∧ Kd.V (Kd.slice 2 (Kd.int .i64)) 29 w' w.heap.size (fun k_ => (w.heap.size ≤ k_)) v1_ r2 ∧ IsS131 w0 w' g s0_0 r3 r4 ∧ Below w0.heap.size w0 w' ∧ KeepBut w w' g none := by
 have hu26 := Try.underlying26
 have HI0 := m_ hI
 have HK := m_ (KeepBut.refl w g none)
 have HL := m_ hB.size
 clear hI
 have HW0 := m_ hB.size
 have HB := m_ hB
 clear hB
 have H : ((spec_l01Next.f s0_0 s0_1 s0_2 4).bind fun bt340 => (if bt340.1 = 0 then ((spec_l01Spoil.f k s0_0 bt340.2.1 bt340.2.2).bind fun bt343 => (some (bt343.1, bt343.2.1, bt343.2.2.1, bt343.2.2.2))) else ((spec_l01Next.f s0_0 bt340.2.1 bt340.2.2 3).bind fun bt349 => ((spec_l01Next.f s0_0 bt349.2.1 bt349.2.2 4).bind fun bt352 => ((spec_l01DrawOf.f k s0_0 bt352.2.1 bt352.2.2 (wrap64 (1 + bt349.1)) (wrap64 (1 + bt352.1))).bind fun bt355 => (some (bt355.1, bt355.2.1, bt355.2.2.1, bt355.2.2.2))))))) = some (r1, r2, r3, r4) := h
 clear h
 obtain ⟨⟨t340, t341, t342⟩, A2, H⟩ := bnd_ H
 dsimp only at H
 by_cases c3 : t340 = 0
 ·rw [if_pos c3] at H
  have c3b0 : (t340 == 0) = true := beq_iff_eq.mpr c3
  have c3b1 : (t340 != 0) = false := bne_eq_false_iff_eq.mpr c3
  clear c3
  obtain ⟨⟨t343, t344, t347, t348⟩, A4, H⟩ := bnd_ H
  dsimp only at H
  simp only [Option.some.injEq, Prod.mk.injEq] at H
  obtain ⟨rfl, rfl, rfl, rfl⟩ := H
  go_enter Try.func202, Try.ntmps202
  go_wp2_with (first | ((with_reducible refine gate_dst (N := 2) rfl ?_); refine bx_ (N := 2) (cs := #[.int .i64 0, .slice none 0 0]) (t := 26) ?_; intro gb339 hg w5 hbox hb; replace HB := m_ (below_step IsS131.hb_ hb); have BK339 := m_ (hbox); have GW339 := m_ ((by rw [hg]; exact (keep_size (w := w) (g := g) (row := none) kp_) : w.heap.size ≤ gb339)); have GE339 := m_ (Nat.le_trans HW0.out GW339.out); replace HK := m_ (KeepBut.trans kp_ (KeepBut.of_below hb g none) (.inl rfl)); have NB0_339 := m_ ((by rw [hg]; exact Nat.ne_of_lt (IsS131.lt (show IsS131 w0 _ g s0_0 s0_1 s0_2 from IsS131.go_)) : g ≠ gb339)); have NB339_0 := m_ NB0_339.out.symm; replace HI0 := m_ (IsS131.below IsS131.go_ hb); clear hb hbox hg) | ((with_reducible refine gate_callee (f := 171) rfl ?_); refine gl_ (some 4) Try.func171 #[.pointer (some ⟨g, 0, none⟩), .int .i64 4] ?_; (with_reducible refine (spec_l01Next.calls g s0_0 s0_1 s0_2 4 t340 t341 t342 w0 _ ?side1 ?side2 A2.out).mono ?_); (case side1 => exact IsS131.gs_); (case side2 => exact IsS131.hs_); rintro e w6 ⟨rfl, hi, hb, hk⟩; refine ⟨_, rfl, ?_⟩; replace BK339 := m_ (KeepBut.blk hk (blk_below BK339.out bgo_) NB339_0.out (by simp)); replace HK := m_ (KeepBut.trans kp_ hk (.inl rfl)); replace HB := m_ (hb); replace HI0 := m_ (hi); clear hi hb hk) | ((with_reducible refine gate_callee (f := 135) rfl ?_); refine gl_ (some 7) Try.func135 #[.pointer (some ⟨g, 0, none⟩)] ?_; (with_reducible refine (spec_l01Spoil.calls k g s0_0 t341 t342 t343 t344 t347 t348 w0 _ ?side1 ?side2 A4.out).mono ?_); (case side1 => exact IsS131.gs_); (case side2 => exact IsS131.hs_); rintro e w7 ⟨v345, rfl, ho0, hi, hb, hk⟩; refine ⟨_, rfl, ?_⟩; have HO346 := m_ (Kd.V_lower (Kd.V_mono (ok' := fun k_ => (w.heap.size ≤ k_) ∧ k_ ≠ gb339 ∧ k_ ≠ g) ho0 (fun k_ hk_ => ⟨(Nat.le_trans (keep_size (w := w) (g := g) (row := none) kp_) hk_), (Kd.freshB (g := gb339) (o := .cells #[.int .i64 0, .slice none 0 0] 26 (0, 0)) (blk_below BK339.out bgo_) k_ hk_), (IsS131.fresh IsS131.gs_ k_ hk_)⟩)) (keep_size (w := w) (g := g) (row := none) kp_)); replace BK339 := m_ (KeepBut.blk hk (blk_below BK339.out bgo_) NB339_0.out (by simp)); replace HK := m_ (KeepBut.trans kp_ hk (.inl rfl)); replace HB := m_ (hb); replace HI0 := m_ (hi); clear hi hb hk; (try clear ho0); have hnb8 := NB339_0.out; have hnc8 := NB0_339.out; have hcz9_0 := bc0_ BK339.out; have hcz9_1 := bc1_ BK339.out; have hfz9_0 := blk_frozen BK339.out 0; have hfz9_1 := blk_frozen BK339.out 1; obtain ⟨Ao10, co10, eo10⟩ := Kd.V_slice HO346.out; subst eo10))
  refine bodyPost_ret (results_cell_row rfl _ _ gb339 26 #[.int .i64 t343, .slice Ao10 t344.length co10] (0, 0) _ rfl (by (with_reducible repeat (first | refine blk_drewN ?_ _ | refine blk_drew ?_ | refine blk_alloc ?_ _)); refine blk_put (cs := #[.int .i64 t343, .slice none 0 0]) ?_ 1 _ rfl; (with_reducible repeat (first | refine blk_drewN ?_ _ | refine blk_drew ?_ | refine blk_alloc ?_ _)); refine blk_put (cs := #[.int .i64 0, .slice none 0 0]) ?_ 0 _ rfl; (with_reducible repeat (first | refine blk_drewN ?_ _ | refine blk_drew ?_ | refine blk_alloc ?_ _)); exact BK339.out) Try.underlying26 rfl (by kernel_rfl)) rfl ?_
  exact ⟨_, er_, by (with_reducible repeat (first | apply Kd.V_alloc | apply Kd.V_drewN | apply Kd.V_drew)); exact Kd.V_mono (Kd.V_far (p := ⟨gb339, 1, none⟩) (Kd.V_far (p := ⟨gb339, 0, none⟩) (Kd.V_mono HO346.out (fun k_ hk => (⟨hk, hk.2.1⟩ : _ ∧ k_ ≠ gb339))) (fun _ hk => hk.2) (.int .i64 t343)) (fun _ hk => hk.2) (.slice Ao10 t344.length co10)) (fun _ hk => hk.1.1), IsS131.gs_, IsS131.hs_, kp_⟩
 ·rw [if_neg c3] at H
  have c3b0 : (t340 == 0) = false := beq_eq_false_iff_ne.mpr c3
  have c3b1 : (t340 != 0) = true := bne_iff_ne.mpr c3
  obtain ⟨⟨t349, t350, t351⟩, A11, H⟩ := bnd_ H
  dsimp only at H
  obtain ⟨⟨t352, t353, t354⟩, A12, H⟩ := bnd_ H
  dsimp only at H
  obtain ⟨⟨t355, t356, t359, t360⟩, A13, H⟩ := bnd_ H
  dsimp only at H
  simp only [Option.some.injEq, Prod.mk.injEq] at H
  obtain ⟨rfl, rfl, rfl, rfl⟩ := H
  go_enter Try.func202, Try.ntmps202
  go_wp2_with (first | ((with_reducible refine gate_dst (N := 2) rfl ?_); refine bx_ (N := 2) (cs := #[.int .i64 0, .slice none 0 0]) (t := 26) ?_; intro gb339 hg w14 hbox hb; replace HB := m_ (below_step IsS131.hb_ hb); have BK339 := m_ (hbox); have GW339 := m_ ((by rw [hg]; exact (keep_size (w := w) (g := g) (row := none) kp_) : w.heap.size ≤ gb339)); have GE339 := m_ (Nat.le_trans HW0.out GW339.out); replace HK := m_ (KeepBut.trans kp_ (KeepBut.of_below hb g none) (.inl rfl)); have NB0_339 := m_ ((by rw [hg]; exact Nat.ne_of_lt (IsS131.lt (show IsS131 w0 _ g s0_0 s0_1 s0_2 from IsS131.go_)) : g ≠ gb339)); have NB339_0 := m_ NB0_339.out.symm; replace HI0 := m_ (IsS131.below IsS131.go_ hb); clear hb hbox hg) | ((with_reducible refine gate_callee (f := 171) rfl ?_); refine gl_ (some 4) Try.func171 #[.pointer (some ⟨g, 0, none⟩), .int .i64 4] ?_; (with_reducible refine (spec_l01Next.calls g s0_0 s0_1 s0_2 4 t340 t341 t342 w0 _ ?side1 ?side2 A2.out).mono ?_); (case side1 => exact IsS131.gs_); (case side2 => exact IsS131.hs_); rintro e w15 ⟨rfl, hi, hb, hk⟩; refine ⟨_, rfl, ?_⟩; replace BK339 := m_ (KeepBut.blk hk (blk_below BK339.out bgo_) NB339_0.out (by simp)); replace HK := m_ (KeepBut.trans kp_ hk (.inl rfl)); replace HB := m_ (hb); replace HI0 := m_ (hi); clear hi hb hk) | ((with_reducible refine gate_callee (f := 171) rfl ?_); refine gl_ (some 10) Try.func171 #[.pointer (some ⟨g, 0, none⟩), .int .i64 3] ?_; (with_reducible refine (spec_l01Next.calls g s0_0 t341 t342 3 t349 t350 t351 w0 _ ?side1 ?side2 A11.out).mono ?_); (case side1 => exact IsS131.gs_); (case side2 => exact IsS131.hs_); rintro e w16 ⟨rfl, hi, hb, hk⟩; refine ⟨_, rfl, ?_⟩; replace BK339 := m_ (KeepBut.blk hk (blk_below BK339.out bgo_) NB339_0.out (by simp)); replace HK := m_ (KeepBut.trans kp_ hk (.inl rfl)); replace HB := m_ (hb); replace HI0 := m_ (hi); clear hi hb hk) | ((with_reducible refine gate_callee (f := 171) rfl ?_); refine gl_ (some 13) Try.func171 #[.pointer (some ⟨g, 0, none⟩), .int .i64 4] ?_; (with_reducible refine (spec_l01Next.calls g s0_0 t350 t351 4 t352 t353 t354 w0 _ ?side1 ?side2 A12.out).mono ?_); (case side1 => exact IsS131.gs_); (case side2 => exact IsS131.hs_); rintro e w17 ⟨rfl, hi, hb, hk⟩; refine ⟨_, rfl, ?_⟩; replace BK339 := m_ (KeepBut.blk hk (blk_below BK339.out bgo_) NB339_0.out (by simp)); replace HK := m_ (KeepBut.trans kp_ hk (.inl rfl)); replace HB := m_ (hb); replace HI0 := m_ (hi); clear hi hb hk) | ((with_reducible refine gate_callee (f := 238) rfl ?_); refine gl_ (some 15) Try.func238 #[.pointer (some ⟨g, 0, none⟩), .int .i64 (wrap64 (1 + t349)), .int .i64 (wrap64 (1 + t352))] ?_; (with_reducible refine (spec_l01DrawOf.calls k g s0_0 t353 t354 (wrap64 (1 + t349)) (wrap64 (1 + t352)) t355 t356 t359 t360 w0 _ ?side1 ?side2 A13.out).mono ?_); (case side1 => exact IsS131.gs_); (case side2 => exact IsS131.hs_); rintro e w18 ⟨v357, rfl, ho0, hi, hb, hk⟩; refine ⟨_, rfl, ?_⟩; replace BK339 := m_ (KeepBut.blk hk (blk_below BK339.out bgo_) NB339_0.out (by simp)); have HO358 := m_ (Kd.S_lower (Kd.S_newM (M := fun k_ => (w.heap.size ≤ k_)) ho0 (keep_size (w := w) (g := g) (row := none) kp_) (fun k_ h_ => h_)) (keep_size (w := w) (g := g) (row := none) kp_)); replace HK := m_ (KeepBut.trans kp_ hk (.inl rfl)); replace HB := m_ (hb); replace HI0 := m_ (hi); clear hi hb hk; (try clear ho0); have hnb19 := NB339_0.out; have hnc19 := NB0_339.out; have hcz20_0 := bc0_ BK339.out; have hcz20_1 := bc1_ BK339.out; have hfz20_0 := blk_frozen BK339.out 0; have hfz20_1 := blk_frozen BK339.out 1; obtain ⟨Ao21, co21, eo21⟩ := Kd.S_slice HO358.out; subst eo21))
  refine bodyPost_ret (results_cell_row rfl _ _ gb339 26 #[.int .i64 t355, .slice Ao21 t356.length co21] (0, 0) _ rfl (by (with_reducible repeat (first | refine blk_drewN ?_ _ | refine blk_drew ?_ | refine blk_alloc ?_ _)); refine blk_put (cs := #[.int .i64 t355, .slice none 0 0]) ?_ 1 _ rfl; (with_reducible repeat (first | refine blk_drewN ?_ _ | refine blk_drew ?_ | refine blk_alloc ?_ _)); refine blk_put (cs := #[.int .i64 0, .slice none 0 0]) ?_ 0 _ rfl; (with_reducible repeat (first | refine blk_drewN ?_ _ | refine blk_drew ?_ | refine blk_alloc ?_ _)); exact BK339.out) Try.underlying26 rfl (by kernel_rfl)) rfl ?_
  exact ⟨_, er_, Kd.S_V (Kd.S_below (Kd.S_mono (Kd.S_far (p := ⟨gb339, 1, none⟩) (Kd.S_far (p := ⟨gb339, 0, none⟩) (Kd.S_types HO358.out BK339.out (by decide)) (fun _ hk => hk.2) (.int .i64 t355)) (fun _ hk => hk.2) (.slice Ao21 t356.length co21)) (fun _ hk => hk.1.1)) bgo_), IsS131.gs_, IsS131.hs_, kp_⟩

/-! ### spec_l04Turn: function 203 -/
def spec_l04Turn.l0 : Nat → Int → List Int → Int → List Int → Int → Int → Option (List Int × Int × Int)
 | 0, _, _, _, _, _, _ => none
 | k + 1, x1, x5, x6, x1000, x1001, x1002 => if x6 < x1 then ((spec_l01Next.f x1000 x1001 x1002 (wrap64 (x6 + 1))).bind fun bt364 => ((some (([x6] : List Int) : List Int)).bind fun y367 => (if 0 ≤ bt364.1 then (if bt364.1 ≤ (x5.length : Int) then ((some (x5.drop (bt364.1 : Int).toNat : List Int)).bind fun y370 => (if y367.length + y370.length < 17592186044416 then ((some (y367 ++ y370 : List Int)).bind fun y374 => ((spec_l01Own.f (x5.take (bt364.1 : Int).toNat)).bind fun t381 => (if t381.length + y374.length < 17592186044416 then (spec_l04Turn.l0 k x1 (t381 ++ y374) (wrap64 (x6 + 1)) x1000 bt364.2.1 bt364.2.2) else (none)))) else (none))) else (none)) else (none)))) else (some (x5, x1001, x1002))
def spec_l04Turn.f (k : Nat) (s0_0 : List Int) (s0_1 : Int) (s0_2 : Int) (a1 : Int) : Option (List Int × Int × Int) := spec_l04Turn.l0 k a1 (([] : List Int)) 0 s0_0 s0_1 s0_2
set_option maxHeartbeats 8000000 in
set_option maxRecDepth 100000 in
theorem spec_l04Turn.calls (k : Nat) (g : Nat) (s0_0 : List Int) (s0_1 : Int) (s0_2 : Int) (a1 : Int) (r1 : List Int) (r2 : Int) (r3 : Int) (w0 w : World) (hI : IsS131 w0 w g s0_0 s0_1 s0_2) (hB : Below w0.heap.size w0 w) (h : spec_l04Turn.f k s0_0 s0_1 s0_2 a1 = some (r1, r2, r3)) :
  Calls Try.prog 203 #[.pointer (some ⟨g, 0, none⟩), .int .i64 a1] w fun e w' => ∃ v0_ : Value, e = .returned (v0_) ∧ Kd.R (Kd.int .i64) 2 w' w.heap.size (fun _ => True) v0_ r1 ∧ IsS131 w0 w' g s0_0 r2 r3 ∧ Below w0.heap.size w0 w' ∧ KeepBut w w' g none := by
 have HI0 := m_ hI
 have HK := m_ (KeepBut.refl w g none)
 have HL := m_ hB.size
 clear hI
 have HW0 := m_ hB.size
 have HB := m_ hB
 clear hB
 have H : (spec_l04Turn.l0 k a1 (([] : List Int)) 0 s0_0 s0_1 s0_2) = some (r1, r2, r3) := h
 clear h
 obtain ⟨y361, Ny361, H⟩ : ∃ y361 : List Int, Aside0 (y361 = (([] : List Int))) ∧ (spec_l04Turn.l0 k a1 y361 0 s0_0 s0_1 s0_2) = some (r1, r2, r3) := ⟨_, ⟨rfl⟩, H⟩
 have H' := m_ H
 clear H
 go_enter Try.func203, Try.ntmps203
 go_wp2_with (first | ((with_reducible refine gate_dst (N := 9) rfl ?_); refine Kd.R_lit (Kd.int .i64) _ 2 ?hg (N := 9) ?hd (xs := ([] : List Int)) (inner := []) (ok := fun _ => True) (okp := fun _ => True) ?hr ?hp (fun _ hk => hk) trivial (Below.refl _ _) (Nat.le_refl _) (by simp) ?_; (case hd => rfl); (case hg => rfl); (case hr => first | (go_simp; done) | (go_simp; rfl)); (case hp => exact (Reps.none _ _)); intro v362 w3 ho4 hb hg_ hnew_; clear hg_ hnew_; rw [← Ny361.out] at ho4; have HO363 := m_ (Kd.R_lower ho4 (keep_size (w := w) (g := g) (row := none) kp_)); replace HK := m_ (KeepBut.trans kp_ (KeepBut.of_below hb g none) (.inl rfl)); replace HB := m_ (below_step IsS131.hb_ hb); replace HI0 := m_ (IsS131.below IsS131.go_ hb); clear hb ho4))
 go_loopg [5, 6] k (fun kq v5 v6 w' => ∃ (x5_1 : List Int) (x6_1 : Int) (x1001_1 : Int) (x1002_1 : Int), v6 = .int .i64 x6_1 ∧ Aside0 (spec_l04Turn.l0 kq a1 x5_1 x6_1 s0_0 x1001_1 x1002_1 = some (r1, r2, r3)) ∧ Aside0 (kq ≤ k) ∧ Aside0 (Kd.R (Kd.int .i64) 2 w' w.heap.size (fun _ => True) v5 x5_1) ∧ Aside0 (IsS131 w0 w' g s0_0 x1001_1 x1002_1) ∧ Aside0 (KeepBut w w' g none) ∧ Aside0 (Below w0.heap.size w0 w'))
 case atStart => exact ⟨(y361), (0), (s0_1), (s0_2), es_, H', ⟨Nat.le_refl _⟩, ⟨Kd.R_below HO363.out bgo_⟩, ⟨IsS131.go_⟩, ⟨kp_⟩, ⟨IsS131.hb_⟩⟩
 case round =>
  clear H'
  obtain ⟨x5_1, x6_1, x1001_1, x1002_1, rfl, HA, HK1, HO_5, HI0, HK, HB⟩ := hrel
  cases gk with
  | zero => exact absurd HA.out (by simp [spec_l04Turn.l0])
  | succ k1 =>
   have H := HA.out
   clear HA
   simp only [spec_l04Turn.l0] at H
   by_cases c5 : x6_1 < a1
   ·rw [if_pos c5] at H
    have c5b0 := decide_eq_true c5
    clear c5
    obtain ⟨⟨t364, t365, t366⟩, A6, H⟩ := bnd_ H
    dsimp only at H
    obtain ⟨y367, Ny367, H⟩ : ∃ y367 : List Int, Aside0 (y367 = (([x6_1] : List Int))) ∧ (if 0 ≤ t364 then (if t364 ≤ (x5_1.length : Int) then ((some (x5_1.drop (t364 : Int).toNat : List Int)).bind fun y370 => (if y367.length + y370.length < 17592186044416 then ((some (y367 ++ y370 : List Int)).bind fun y374 => ((spec_l01Own.f (x5_1.take (t364 : Int).toNat)).bind fun t381 => (if t381.length + y374.length < 17592186044416 then (spec_l04Turn.l0 k1 a1 (t381 ++ y374) (wrap64 (x6_1 + 1)) s0_0 t365 t366) else (none)))) else (none))) else (none)) else (none)) = some (r1, r2, r3) := ⟨_, ⟨rfl⟩, H⟩
    obtain ⟨c7, H⟩ := itn_ H
    have c7b0 := eq_true c7
    have c7b1 := decide_eq_true c7
    clear c7
    obtain ⟨c8, H⟩ := itn_ H
    have c8b0 := eq_true c8
    have c8b1 := decide_eq_true c8
    clear c8
    obtain ⟨y370, Ny370, H⟩ : ∃ y370 : List Int, Aside0 (y370 = (x5_1.drop (t364 : Int).toNat)) ∧ (if y367.length + y370.length < 17592186044416 then ((some (y367 ++ y370 : List Int)).bind fun y374 => ((spec_l01Own.f (x5_1.take (t364 : Int).toNat)).bind fun t381 => (if t381.length + y374.length < 17592186044416 then (spec_l04Turn.l0 k1 a1 (t381 ++ y374) (wrap64 (x6_1 + 1)) s0_0 t365 t366) else (none)))) else (none)) = some (r1, r2, r3) := ⟨_, ⟨rfl⟩, H⟩
    obtain ⟨c9, H⟩ := itn_ H
    have LMc9 := m_ c9
    clear c9
    obtain ⟨y374, Ny374, H⟩ : ∃ y374 : List Int, Aside0 (y374 = (y367 ++ y370)) ∧ ((spec_l01Own.f (x5_1.take (t364 : Int).toNat)).bind fun t381 => (if t381.length + y374.length < 17592186044416 then (spec_l04Turn.l0 k1 a1 (t381 ++ y374) (wrap64 (x6_1 + 1)) s0_0 t365 t366) else (none))) = some (r1, r2, r3) := ⟨_, ⟨rfl⟩, H⟩
    have c10b0 := eq_true (od_ : 0 ≤ t364)
    have c11b0 := eq_true (od_ : t364 ≤ (x5_1.length : Int))
    obtain ⟨y377, Ny377, H⟩ : ∃ y377 : List Int, Aside0 (y377 = (x5_1.take (t364 : Int).toNat)) ∧ ((spec_l01Own.f y377).bind fun t381 => (if t381.length + y374.length < 17592186044416 then (spec_l04Turn.l0 k1 a1 (t381 ++ y374) (wrap64 (x6_1 + 1)) s0_0 t365 t366) else (none))) = some (r1, r2, r3) := ⟨_, ⟨rfl⟩, H⟩
    obtain ⟨t381, A12, H⟩ := bnd_ H
    obtain ⟨c13, H⟩ := itn_ H
    have LMc13 := m_ c13
    clear c13
    obtain ⟨y384, Ny384, H⟩ : ∃ y384 : List Int, Aside0 (y384 = (t381 ++ y374)) ∧ (spec_l04Turn.l0 k1 a1 y384 (wrap64 (x6_1 + 1)) s0_0 t365 t366) = some (r1, r2, r3) := ⟨_, ⟨rfl⟩, H⟩
    have H' := m_ H
    clear H
    go_wp2_with (first | ((with_reducible refine gate_callee (f := 171) rfl ?_); refine gl_ (some 18) Try.func171 #[.pointer (some ⟨g, 0, none⟩), .int .i64 (wrap64 (x6_1 + 1))] ?_; (with_reducible refine (spec_l01Next.calls g s0_0 x1001_1 x1002_1 (wrap64 (x6_1 + 1)) t364 t365 t366 w0 _ ?side1 ?side2 A6.out).mono ?_); (case side1 => exact IsS131.go_); (case side2 => exact IsS131.hb_); rintro e w14 ⟨rfl, hi, hb, hk⟩; refine ⟨_, rfl, ?_⟩; replace HO_5 := m_ (Kd.R_mono (Kd.R_keep (IsS131.apart (show IsS131 w0 _ g s0_0 x1001_1 x1002_1 from IsS131.go_) (Kd.R_below HO_5.out bgo_) (by decide)) hk (fun _ h => h.2)) (fun _ h => h.1)); replace HK := m_ (KeepBut.trans kp_ hk (.inl rfl)); replace HB := m_ (hb); replace HI0 := m_ (hi); clear hi hb hk) | ((with_reducible refine gate_dst (N := 20) rfl ?_); refine Kd.R_lit (Kd.int .i64) _ 2 ?hg (N := 20) ?hd (xs := ([x6_1] : List Int)) (inner := [.int .i64 x6_1]) (ok := fun _ => True) (okp := fun _ => True) ?hr ?hp (fun _ hk => hk) trivial (Below.refl _ _) (Nat.le_refl _) (by simp) ?_; (case hd => rfl); (case hg => rfl); (case hr => first | (go_simp; done) | (go_simp; rfl)); (case hp => exact (Reps.one (show Kd.M (Kd.int .i64) _ _ _ x6_1 [.int .i64 x6_1] from rfl) (Reps.none _ _))); intro v368 w15 ho16 hb hg_ hnew_; clear hg_ hnew_; rw [← Ny367.out] at ho16; have HO369 := m_ (Kd.R_lower (Kd.R_new' ho16 (Kd.R_lt (Kd.R_below HO_5.out bgo_))) (keep_size (w := w) (g := g) (row := none) kp_)); replace HO_5 := m_ (Kd.R_elder' (Kd.R_below HO_5.out bgo_) (Kd.R_base ho16) hb); replace HK := m_ (KeepBut.trans kp_ (KeepBut.of_below hb g none) (.inl rfl)); replace HB := m_ (below_step IsS131.hb_ hb); replace HI0 := m_ (IsS131.below IsS131.go_ hb); clear hb ho16; obtain ⟨Ao18, co18, eo18⟩ := Kd.R_slice HO_5.out; subst eo18; have q17 : (t364 : Int) ≤ ((x5_1.length : Int) : Int) := od_; obtain ⟨i017, hi017, _, hsz17, _⟩ := info_parts info2; have hroom17 : x5_1.length ≤ co18 := (Kd.R_reads' HO_5.out).2.1; have hC17 : Kd.C (Kd.int .i64) _ Ao18 x5_1.length x5_1 := (Kd.R_reads' HO_5.out).2.2; have q017 : (0 : Int) ≤ (t364 : Int) := od_; have hcut17 := cut_from (P := Try.prog) 29 2 .i64 Try.underlying29 hi017 1 hsz17 Ao18 x5_1.length co18 t364 q017 q17; have hr17 := Kd.C_drop (m := (t364 : Int).toNat) (c := co18) hC17 (by omega) hroom17; obtain ⟨A17, hA17⟩ : ∃ A1, A1 = (if co18 = (t364 : Int).toNat then Ao18 else (Ao18 : Option Addr).map (·.add ((t364 : Int).toNat * 1))) := ⟨_, rfl⟩; obtain ⟨c17, hc17⟩ : ∃ c1, c1 = co18 - (t364 : Int).toNat := ⟨_, rfl⟩; have hy17 : y370.length = x5_1.length - (t364 : Int).toNat := (by rw [Ny370.out, List.length_drop] <;> omega); rw [show (x5_1).drop (t364 : Int).toNat = y370 from Ny370.out.symm] at hr17; replace hr17 : Kd.C (Kd.int .i64) _ A17 y370.length y370 := (by rw [hA17]; exact hr17); rw [← hy17, ← hA17, ← hc17] at hcut17; have HR373 := m_ hr17; have HC373 := m_ (show y370.length ≤ c17 from by rw [hy17, hc17]; exact Nat.sub_le_sub_right hroom17 _); clear hr17 hC17 hroom17 hi017 hsz17 hc17; have KY17 := m_ hy17; have KA17 := m_ hA17; clear hy17 hA17; have KL17 := m_ (show (t364 : Int).toNat ≤ x5_1.length from by omega); replace q17 := eq_true q17) | ((with_reducible refine gate_builtin (b := .append) (xs := #[.tmp 20, .tmp 23]) rfl ?_); at_builtin; refine Kd.R_append_rows (Kd.int .i64) w.heap.size rfl (.tmp 20) (.tmp 23) 29 2 (.int .i64 0) 8 rfl Try.underlying29 info2 rfl (by decide) (by omega) v368 y367 y370 _ _ _ (fun k_ => some k_ ≠ (.slice Ao18 x5_1.length co18 : Value).ownBlock) (fun _ => False) rfl rfl ?aO ?aR (fun _ _ h => h) (fun _ h => h.elim) ?aF (Below.refl _ _) ?aS ?aL ?_; (case aR => repeat (first | exact (by repeat (first | (with_reducible exact HR373.out) | (with_reducible refine Kd.C_alloc ?_ _) | (with_reducible refine Kd.C_drewN ?_ _) | (with_reducible refine Kd.C_drew ?_) | exact HR373.out)) | (with_reducible refine Kd.C_alloc ?_ _) | (with_reducible refine Kd.C_drewN ?_ _) | (with_reducible refine Kd.C_drew ?_))); (case aF => exact (fun k_ hk => Kd.fresh' (Kd.R_lt (Kd.R_below HO_5.out bgo_)) k_ hk)); (case aO => exact (Kd.R_below (Kd.R_mono HO369.out (fun _ hk => hk.2)) bgo_)); (case aS => exact (keep_size (w := w) (g := g) (row := none) kp_)); (case aL => have := LMc9.out; omega); intro v375 w19 ho hb hg hat; rw [← Ny374.out] at ho; replace HB := m_ (below_weaken IsS131.hb_ HL.out hb); replace HI0 := m_ (IsS131.grown IsS131.go_ hg (IsS131.own_ne HI0.out HO369.out (by decide))); replace HK := m_ (KeepBut.trans kp_ (KeepBut.of_grown hg g) (Kd.R_base2 HO369.out)); replace HR373 := m_ ((show Kd.C (Kd.int .i64) w19 A17 y370.length y370 from by rw [Ny370.out, KA17.out]; exact Kd.C_drop (m := (t364 : Int).toNat) (c := co18) ((Kd.R_reads' (Kd.R_after (ok := (fun _ => True)) (Kd.R_below HO_5.out bgo_) hg hat)).2.2) KL17.out ((Kd.R_reads' (Kd.R_after (ok := (fun _ => True)) (Kd.R_below HO_5.out bgo_) hg hat)).2.1))); replace HO_5 := m_ (Kd.R_after (ok := (fun _ => True)) (Kd.R_below HO_5.out bgo_) hg hat); have HO376 := m_ (ho); clear HO369; clear ho hb hg hat; have q20 : (t364 : Int) ≤ ((x5_1.length : Int) : Int) := od_; obtain ⟨i020, hi020, _, hsz20, _⟩ := info_parts info2; have hroom20 : x5_1.length ≤ co18 := (Kd.R_reads' HO_5.out).2.1; have hC20 : Kd.C (Kd.int .i64) _ Ao18 x5_1.length x5_1 := (Kd.R_reads' HO_5.out).2.2; have hcut20 := cut_to (P := Try.prog) 29 2 .i64 Try.underlying29 hi020 Ao18 x5_1.length co18 t364 (od_) q20 hroom20; have hr20 := Kd.C_take (m := (t364 : Int).toNat) hC20 (by omega); have hy20 : y377.length = (t364 : Int).toNat := (by rw [Ny377.out, List.length_take]; omega); rw [← Ny377.out] at hr20; rw [← hy20] at hcut20; have HR380 := m_ hr20; have HC380 := m_ (show y377.length ≤ co18 from by omega); clear hr20 hC20 hroom20 hi020 hsz20; have KY20 := m_ hy20; clear hy20; have KL20 := m_ (show (t364 : Int).toNat ≤ x5_1.length from by omega); replace q20 := eq_true q20) | ((with_reducible refine gate_callee (f := 113) rfl ?_); refine gl_ (some 28) Try.func113 #[.slice Ao18 y377.length co18] ?_; (with_reducible refine (spec_l01Own.calls _ _ y377 t381 _ ?side1 ?side2 A12.out).mono ?_); (case side1 => repeat (first | exact (by repeat (first | (with_reducible exact HR380.out) | (with_reducible refine Kd.C_alloc ?_ _) | (with_reducible refine Kd.C_drewN ?_ _) | (with_reducible refine Kd.C_drew ?_) | exact HR380.out)) | (with_reducible refine Kd.C_alloc ?_ _) | (with_reducible refine Kd.C_drewN ?_ _) | (with_reducible refine Kd.C_drew ?_))); (case side2 => exact HC380.out); rintro e w21 ⟨v382, rfl, ho0, hb⟩; refine ⟨_, rfl, ?_⟩; have HO383 := m_ (Kd.R_lower (Kd.R_new' (Kd.R_new' ho0 (Kd.R_lt (Kd.R_below HO_5.out bgo_))) (Kd.R_lt (Kd.R_below HO376.out bgo_))) (keep_size (w := w) (g := g) (row := none) kp_)); replace HO_5 := m_ (Kd.R_elder' (Kd.R_below HO_5.out bgo_) (Kd.R_base ho0) hb); replace HO376 := m_ (Kd.R_elder' (Kd.R_below HO376.out bgo_) (Kd.R_base ho0) hb); replace HR373 := m_ (Kd.C_below (by repeat (first | (with_reducible exact HR373.out) | (with_reducible refine Kd.C_alloc ?_ _) | (with_reducible refine Kd.C_drewN ?_ _) | (with_reducible refine Kd.C_drew ?_) | exact HR373.out)) hb); replace HR380 := m_ (Kd.C_below (by repeat (first | (with_reducible exact HR380.out) | (with_reducible refine Kd.C_alloc ?_ _) | (with_reducible refine Kd.C_drewN ?_ _) | (with_reducible refine Kd.C_drew ?_) | exact HR380.out)) hb); replace HK := m_ (KeepBut.trans kp_ (KeepBut.of_below hb g none) (.inl rfl)); replace HB := m_ (below_step IsS131.hb_ hb); replace HI0 := m_ (IsS131.below IsS131.go_ hb); clear hb; (try clear ho0); obtain ⟨Ao23, co23, eo23⟩ := Kd.R_slice HO376.out; subst eo23) | ((with_reducible refine gate_builtin (b := .append) (xs := #[.tmp 28, .tmp 29]) rfl ?_); at_builtin; refine Kd.R_append_rows (Kd.int .i64) w.heap.size rfl (.tmp 28) (.tmp 29) 29 2 (.int .i64 0) 8 rfl Try.underlying29 info2 rfl (by decide) (by omega) v382 t381 y374 _ _ _ (fun k_ => some k_ ≠ (.slice Ao18 x5_1.length co18 : Value).ownBlock ∧ some k_ ≠ (.slice Ao23 y374.length co23 : Value).ownBlock) (fun _ => False) rfl rfl ?aO ?aR (fun _ _ h => h) (fun _ h => h.elim) ?aF (Below.refl _ _) ?aS ?aL ?_; (case aR => repeat (first | exact (Kd.R_reads' HO376.out).2.2 | (with_reducible refine Kd.C_alloc ?_ _) | (with_reducible refine Kd.C_drewN ?_ _) | (with_reducible refine Kd.C_drew ?_))); (case aF => exact (fun k_ hk => ⟨Kd.fresh' (Kd.R_lt (Kd.R_below HO_5.out bgo_)) k_ hk, Kd.fresh' (Kd.R_lt (Kd.R_below HO376.out bgo_)) k_ hk⟩)); (case aO => exact (Kd.R_below (Kd.R_mono HO383.out (fun _ hk => ⟨hk.1.2, hk.2⟩)) bgo_)); (case aS => exact (keep_size (w := w) (g := g) (row := none) kp_)); (case aL => have := LMc13.out; omega); intro v385 w22 ho hb hg hat; rw [← Ny384.out] at ho; replace HO376 := m_ (Kd.R_after (ok := (fun k_ => some k_ ≠ (.slice Ao18 x5_1.length co18 : Value).ownBlock)) (Kd.R_below HO376.out bgo_) hg hat); replace HB := m_ (below_weaken IsS131.hb_ HL.out hb); replace HI0 := m_ (IsS131.grown IsS131.go_ hg (IsS131.own_ne HI0.out HO383.out (by decide))); replace HK := m_ (KeepBut.trans kp_ (KeepBut.of_grown hg g) (Kd.R_base2 HO383.out)); replace HR373 := m_ ((show Kd.C (Kd.int .i64) w22 A17 y370.length y370 from by rw [Ny370.out, KA17.out]; exact Kd.C_drop (m := (t364 : Int).toNat) (c := co18) ((Kd.R_reads' (Kd.R_after (ok := (fun k_ => some k_ ≠ (.slice Ao23 y374.length co23 : Value).ownBlock)) (Kd.R_below (Kd.R_mono HO_5.out (fun _ hk => ⟨hk.1.2, hk.2⟩)) bgo_) hg hat)).2.2) KL17.out ((Kd.R_reads' (Kd.R_after (ok := (fun k_ => some k_ ≠ (.slice Ao23 y374.length co23 : Value).ownBlock)) (Kd.R_below (Kd.R_mono HO_5.out (fun _ hk => ⟨hk.1.2, hk.2⟩)) bgo_) hg hat)).2.1))); replace HR380 := m_ ((show Kd.C (Kd.int .i64) w22 Ao18 y377.length y377 from by rw [Ny377.out]; exact Kd.C_take (m := (t364 : Int).toNat) ((Kd.R_reads' (Kd.R_after (ok := (fun k_ => some k_ ≠ (.slice Ao23 y374.length co23 : Value).ownBlock)) (Kd.R_below (Kd.R_mono HO_5.out (fun _ hk => ⟨hk.1.2, hk.2⟩)) bgo_) hg hat)).2.2) KL20.out)); replace HO_5 := m_ (Kd.R_after (ok := (fun k_ => some k_ ≠ (.slice Ao23 y374.length co23 : Value).ownBlock)) (Kd.R_below (Kd.R_mono HO_5.out (fun _ hk => ⟨hk.1.2, hk.2⟩)) bgo_) hg hat); have HO386 := m_ (ho); clear HO383; clear ho hb hg hat))
    go_roundg k1
    case measure => have := HK1.out; omega
    case rel => exact ⟨(y384), (wrap64 (x6_1 + 1)), (t365), (t366), es_, H', ⟨by have := HK1.out; omega⟩, ⟨by (with_reducible repeat (first | apply Kd.R_alloc | apply Kd.R_drewN | apply Kd.R_drew)); exact Kd.R_mono HO386.out (fun _ hk => trivial)⟩, ⟨IsS131.go_⟩, ⟨kp_⟩, ⟨IsS131.hb_⟩⟩
   ·rw [if_neg c5] at H
    have c5b0 := decide_eq_false c5
    clear c5
    simp only [Option.some.injEq, Prod.mk.injEq] at H
    obtain ⟨rfl, rfl, rfl⟩ := H
    go_wp2
    go_ret
    exact ⟨_, er_, (Kd.R_below HO_5.out bgo_), IsS131.go_, IsS131.hb_, kp_⟩

end Go.Proofs.Ytkadhadceongiaa.G
