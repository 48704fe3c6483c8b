/- The printed functions that this law reaches, and their contracts: part 1. -/
-- printed by this repo's wip/printer out of the kit's print with its own changes
import Derived.Test.YtipigagbgpoecaaC0
namespace Go.Proofs.Ytipigagbgpoecaa.G
open Go.RowKit Go.Proofs.YtipigagbgpoecaaW.PrintWords Go.Proofs.YtipigagbgpoecaaW.PrintLast Go.Proofs.YtipigagbgpoecaaW.PrintMore
attribute [local go_sem] max2_int min2_int max_two min_two max_three min_three max_four min_four   -- for this text's walks alone
set_option linter.unusedVariables false
set_option linter.unusedSimpArgs false

/-! ### spec_l03Rows: function 63 -/
mutual
def spec_l03Rows.l0 : Nat → Int → Int → List (List Int) → Int → Int → List (List Int) → Option ((List (List Int)))
 | 0, _, _, _, _, _, _ => none
 | k + 1, x1, x5, x6, x7, x184000, x184001 => if x7 < x5 then (if 0 ≤ x5 then (if (x5 : Int).toNat ≤ 35184372088832 then ((some (List.replicate (x5 : Int).toNat 0 : List Int)).bind fun y187 => (if 0 ≤ x7 then (if x7 < (y187.length : Int) then (spec_l03Rows.l1 k x1 x5 x6 x7 (y187.set (x7 : Int).toNat 1) 1 x184000 x184001) else (none)) else (none))) else (none)) else (none)) else (some x6)
def spec_l03Rows.l1 : Nat → Int → Int → List (List Int) → Int → List Int → Int → Int → List (List Int) → Option ((List (List Int)))
 | 0, _, _, _, _, _, _, _, _ => none
 | k + 1, x1, x5, x6, x7, x8, x9, x184000, x184001 => if x9 < x1 then (if 0 ≤ x5 then (if (x5 : Int).toNat ≤ 35184372088832 then (spec_l03Rows.l2 k x1 x5 x6 x7 x8 x9 (List.replicate (x5 : Int).toNat 0) 0 x184000 x184001) else (none)) else (none)) else (if x6.length < 5864062014805 then (spec_l03Rows.l0 k x1 x5 (x6 ++ [x8]) (wrap64 (x7 + 1)) x184000 x184001) else (none))
def spec_l03Rows.l2 : Nat → Int → Int → List (List Int) → Int → List Int → Int → List Int → Int → Int → List (List Int) → Option ((List (List Int)))
 | 0, _, _, _, _, _, _, _, _, _, _ => none
 | k + 1, x1, x5, x6, x7, x8, x9, x10, x11, x184000, x184001 => if x11 < x5 then (spec_l03Rows.l3 k x1 x5 x6 x7 x8 x9 x10 x11 0 x184000 x184001) else (spec_l03Rows.l1 k x1 x5 x6 x7 x10 (wrap64 (x9 + 1)) x184000 x184001)
def spec_l03Rows.l3 : Nat → Int → Int → List (List Int) → Int → List Int → Int → List Int → Int → Int → Int → List (List Int) → Option ((List (List Int)))
 | 0, _, _, _, _, _, _, _, _, _, _, _ => none
 | k + 1, x1, x5, x6, x7, x8, x9, x10, x11, x12, x184000, x184001 => if x12 < x5 then (if 0 ≤ x11 then (if x11 < (x8.length : Int) then (spec_l03Rows.j4 k x1 x5 x6 x7 x8 x9 x10 x11 x12 (decide ((rd x8 x11) > 0)) x184000 x184001) else (none)) else (none)) else (spec_l03Rows.j4 k x1 x5 x6 x7 x8 x9 x10 x11 x12 false x184000 x184001)
def spec_l03Rows.j4 : Nat → Int → Int → List (List Int) → Int → List Int → Int → List Int → Int → Int → Bool → Int → List (List Int) → Option ((List (List Int)))
 | 0, _, _, _, _, _, _, _, _, _, _, _, _ => none
 | k + 1, x1, x5, x6, x7, x8, x9, x10, x11, x12, x49, x184000, x184001 => if x49 = true then ((spec_l03Next.f x184000 x184001 x11 x12).bind fun t198 => (if t198 = true then (if 0 ≤ x12 then (if x12 < (x10.length : Int) then (if 0 ≤ x11 then (if x11 < (x8.length : Int) then (spec_l03Rows.l3 k x1 x5 x6 x7 x8 x9 (x10.set (x12 : Int).toNat (wrap64 ((rd x10 x12) + (rd x8 x11)))) x11 (wrap64 (x12 + 1)) x184000 x184001) else (none)) else (none)) else (none)) else (none)) else (spec_l03Rows.l3 k x1 x5 x6 x7 x8 x9 x10 x11 (wrap64 (x12 + 1)) x184000 x184001))) else (spec_l03Rows.l2 k x1 x5 x6 x7 x8 x9 x10 (wrap64 (x11 + 1)) x184000 x184001)
end
def spec_l03Rows.f (k : Nat) (a0_0 : Int) (l0_1 : List (List Int)) (a1 : Int) : Option ((List (List Int))) := spec_l03Rows.l0 k a1 (wrap64 (2 * (l0_1.length : Int))) (([] : List (List Int))) 0 a0_0 l0_1
def spec_l03Rows.T19 : Bool × List (List Nat × List Nat) := (true, [([], []), ([], []), ([], []), ([], []), ([2, 3], [2, 3]), ([4], [4]), ([], []), ([], []), ([6, 7], [6, 7]), ([8], [8]), ([5, 9], [5, 9]), ([0, 1, 0, 1, 2, 3, 4, 5, 6, 7, 8, 9, 10], [0, 1]), ([11, 10, 0, 1, 2, 3, 4, 5, 6, 7, 8, 9, 10], [10, 11])])
def spec_l03Rows.B19 : List Nat := [0, 0, 0, 0, 12, 28, 0, 0, 192, 448, 1020, 2047, 4095]
theorem spec_l03Rows.tab19 : rtab .any (opsOf Try.f63 19) = spec_l03Rows.T19 := by kernel_rfl
theorem spec_l03Rows.bits19 : waitsOk spec_l03Rows.T19.2 spec_l03Rows.B19 = true := by kernel_rfl
set_option maxHeartbeats 8000000 in
set_option maxRecDepth 100000 in
theorem spec_l03Rows.calls (k : Nat) (a0_0 : Int) (A0_1 : Option Addr) (c0_1 : Nat) (l0_1 : List (List Int)) (a1 : Int) (r : List (List Int)) (w : World) (hr0_1 : Kd.C (Kd.slice 2 (Kd.int .i64)) w A0_1 l0_1.length l0_1) (hc0_1 : l0_1.length ≤ c0_1) (h : spec_l03Rows.f k a0_0 l0_1 a1 = some r) :
  Calls Try.prog 63 #[.agg #[.int .i64 a0_0, .slice A0_1 l0_1.length c0_1], .int .i64 a1] w fun e w' => ∃ v0_ : Value, e = .returned (v0_) ∧ Kd.S (Kd.slice 2 (Kd.int .i64)) 26 w' w.heap.size (fun _ => True) v0_ r ∧ Below w.heap.size w w' := by
 have hu29 := Try.underlying29
 have HR0_1 := Aside0.mk hr0_1
 have HC0_1 := Aside0.mk hc0_1
 clear hr0_1 hc0_1
 have HB := Aside0.mk (Below.refl w.heap.size w)
 have H : (spec_l03Rows.l0 k a1 (wrap64 (2 * (l0_1.length : Int))) (([] : List (List Int))) 0 a0_0 l0_1) = some r := h
 clear h
 obtain ⟨y184, Ny184, H⟩ : ∃ y184 : List (List Int), Aside0 (y184 = (([] : List (List Int)))) ∧ (spec_l03Rows.l0 k a1 (wrap64 (2 * (l0_1.length : Int))) y184 0 a0_0 l0_1) = some r := ⟨_, ⟨rfl⟩, H⟩
 have H' := Aside0.mk H
 clear H
 go_enter Try.func63, Try.ntmps63
 go_wp2_with (first | ((with_reducible refine gate_dst (N := 2) rfl ?_); refine box_event ?hg (N := 2) ?hd (cs := #[.int .i64 a0_0, .slice A0_1 l0_1.length c0_1]) (t := 29) ?hr ?_; (case hd => rfl); (case hg => rfl); (case hr => first | (go_simp; done) | (go_simp; rfl)); intro gb183 hg w3 hbox hb; have BK183 := Aside0.mk (hbox); have GW183 := Aside0.mk ((by rw [hg]; exact (below_size hb_) : w.heap.size ≤ gb183)); have GE183 := Aside0.mk ((by rw [hg]; exact (below_size hb_) : w.heap.size ≤ gb183)); replace HB := Aside0.mk (below_step hb_ hb); clear hb hbox hg; have hcz4_0 : w3.cell? ⟨gb183, 0, none⟩ = some (.int .i64 a0_0) := (blk_cell BK183.out 0).trans rfl; have hcz4_1 : w3.cell? ⟨gb183, 1, none⟩ = some (.slice A0_1 l0_1.length c0_1) := (blk_cell BK183.out 1).trans rfl; have hfz4_0 := blk_frozen BK183.out 0; have hfz4_1 := blk_frozen BK183.out 1) | ((with_reducible refine gate_dst (N := 17) rfl ?_); refine Kd.S_lit (Kd.slice 2 (Kd.int .i64)) _ 26 ?hg (N := 17) ?hd (xs := ([] : List (List Int))) (inner := []) (ok := fun _ => True) (okp := fun _ => True) ?hr ?hp (fun _ hk => hk) trivial (Below.refl _ _) (Nat.le_refl _) (by simp) ?_; (case hd => rfl); (case hg => rfl); (case hr => first | (go_simp; done) | (go_simp; rfl)); (case hp => exact (Reps.none _ _)); intro v185 w5 ho6 hb hg_ hnew_; clear hg_ hnew_; (first | rw [← Ny184.out] at ho6 | (simp only [Int.reduceToNat] at ho6; rw [← Ny184.out] at ho6)); have HO186 := Aside0.mk (Kd.S_lower ho6 (below_size hbs_)); replace BK183 := Aside0.mk (blk_below (g := gb183) (o := .cells #[.int .i64 a0_0, .slice A0_1 l0_1.length c0_1] 29 (0, 0)) (blk_below BK183.out bgo_) hb); replace HB := Aside0.mk (below_step hbs_ hb); clear hb ho6))
 go_loopg [6, 7] k (fun kq v6 v7 w' => ∃ (x6_1 : List (List Int)) (x7_1 : Int), v7 = .int .i64 x7_1 ∧ Aside0 (spec_l03Rows.l0 kq a1 (wrap64 (2 * (l0_1.length : Int))) x6_1 x7_1 a0_0 l0_1 = some r) ∧ Aside0 (kq ≤ k) ∧ Aside0 (Kd.S (Kd.slice 2 (Kd.int .i64)) 26 w' w.heap.size (fun _ => True) v6 x6_1) ∧ Aside0 (w'.heap[gb183]? = some (.cells #[.int .i64 a0_0, (.slice A0_1 l0_1.length c0_1)] 29 (0, 0))) ∧ Aside0 (Below w.heap.size w w'))
 case atStart => exact ⟨(y184), (0), es_, H', ⟨Nat.le_refl _⟩, ⟨Kd.S_below HO186.out bgo_⟩, ⟨blk_below BK183.out bgo_⟩, ⟨hbs_⟩⟩
 case round =>
  clear H'
  obtain ⟨x6_1, x7_1, rfl, HA, HK1, HO_6, BK183, HB⟩ := hrel
  cases gk with
  | zero => exact absurd HA.out (by simp [spec_l03Rows.l0])
  | succ k1 =>
   have H := HA.out
   clear HA
   simp only [spec_l03Rows.l0] at H
   by_cases c7 : x7_1 < (wrap64 (2 * (l0_1.length : Int)))
   ·rw [if_pos c7] at H
    have c7b0 := decide_eq_true c7
    clear c7
    obtain ⟨ji8, hji8⟩ : ∃ j_ : Int, (wrap64 (2 * (l0_1.length : Int))) = j_ := ⟨_, rfl⟩
    (try rw [hji8])
    replace H : (if 0 ≤ (ji8) then (if ((ji8) : Int).toNat ≤ 35184372088832 then ((some (List.replicate ((ji8) : Int).toNat 0 : List Int)).bind fun y187 => (if 0 ≤ x7_1 then (if x7_1 < (y187.length : Int) then (spec_l03Rows.l1 k1 a1 (ji8) x6_1 x7_1 (y187.set (x7_1 : Int).toNat 1) 1 a0_0 l0_1) else (none)) else (none))) else (none)) else (none)) = some r := by first | (rw [hji8] at H; exact H) | (simp only [hji8] at H ⊢; exact H)
    (try rw [hji8] at c7b0)
    have hji8w : (IntKind.i64.wrap (2 * (l0_1.length : Int))) = ji8 := (i64_w _).trans hji8
    obtain ⟨c9, H⟩ := itn_ H
    have c9b0 := eq_true c9
    have c9b1 := decide_eq_true c9
    clear c9
    obtain ⟨c10, H⟩ := itn_ H
    have c10b0 := eq_true c10
    have c10b1 := decide_eq_true c10
    clear c10
    obtain ⟨y187, Ny187, H⟩ : ∃ y187 : List Int, Aside0 (y187 = (List.replicate ((ji8) : Int).toNat 0)) ∧ (if 0 ≤ x7_1 then (if x7_1 < (y187.length : Int) then (spec_l03Rows.l1 k1 a1 (ji8) x6_1 x7_1 (y187.set (x7_1 : Int).toNat 1) 1 a0_0 l0_1) else (none)) else (none)) = some r := ⟨_, ⟨rfl⟩, H⟩
    obtain ⟨c11, H⟩ := itn_ H
    have c11b0 := decide_eq_true c11
    clear c11
    obtain ⟨c12, H⟩ := itn_ H
    have c12b0 := decide_eq_true c12
    clear c12
    obtain ⟨y190, Ny190, H⟩ : ∃ y190 : List Int, Aside0 (y190 = (y187.set (x7_1 : Int).toNat 1)) ∧ (spec_l03Rows.l1 k1 a1 (ji8) x6_1 x7_1 y190 1 a0_0 l0_1) = some r := ⟨_, ⟨rfl⟩, H⟩
    have H' := Aside0.mk H
    clear H
    go_wp2_with (first | ((with_reducible refine gate_dst (N := 24) rfl ?_); refine Kd.R_make (Kd.int .i64) _ 2 rfl (N := 24) rfl 26 _ _ rfl (ji8) rfl rfl Try.underlying26 (.int .i64 0) 8 info2 rfl (by decide) (by omega) 0 (ok := fun _ => True) (okp := fun _ => True) rfl (fun _ hk => hk) trivial (od_) (Nat.le_trans (Nat.mul_le_mul_right _ (od_ : (ji8).toNat ≤ 35184372088832)) (by omega)) (Below.refl _ _) (Nat.le_refl _) ?_; intro v188 w14 ho15 hb hg_ hnew_; clear hg_ hnew_; (first | rw [← Ny187.out] at ho15 | (simp only [Int.reduceToNat] at ho15; rw [← Ny187.out] at ho15)); replace HO_6 := Aside0.mk (Kd.S_elder' (Kd.S_below HO_6.out bgo_) (Kd.R_base ho15) hb); have HO189 := Aside0.mk (Kd.R_lower ho15 (below_size hbs_)); replace BK183 := Aside0.mk (blk_below (g := gb183) (o := .cells #[.int .i64 a0_0, .slice A0_1 l0_1.length c0_1] 29 (0, 0)) (blk_below BK183.out bgo_) hb); replace HB := Aside0.mk (below_step hbs_ hb); clear hb ho15; have p13 : 0 ≤ (x7_1 : Int) := od_; have q13 : (x7_1 : Int) < ((y187.length : Int) : Int) := od_; obtain ⟨go13, co13, eo13, gb13, gl13, cl13, HG13⟩ := Kd.R_form HO189.out (by omega); (first | cases eo13 | (injection eo13 with ea_ en_ ec_; (first | subst ea_ | (injection ea_ with ea_; subst ea_)); subst ec_; clear en_)); have GB13 := Aside0.mk gb13; have GG13 := Aside0.mk HG13; clear gb13 gl13 HG13; obtain ⟨hx13_0, hf13_0⟩ := Kd.R_celln 0 HO189.out (x7_1 : Int) p13 q13; replace p13 := eq_true p13; replace q13 := eq_true q13; obtain ⟨hy16_, hz16_⟩ := Kd.R_celln 0 HO189.out (x7_1 : Int) (od_) (od_); have HP16 := Kd.R_putg HO189.out (x7_1 : Int) 1) | ((with_reducible refine gate_store (t := 2) (p := 27) rfl ?_); refine store_event (t := 2) (p := 27) (v := ?vo_w17) (w1 := (w14.setCell ⟨go13, (x7_1 : Int).toNat, none⟩ (.int .i64 1))) ?hg ?ho ?hn ?hr ?_; (case ho => rfl); (case hg => rfl); (case hn => rfl); (case hr => first | (go_simp; done) | (go_simp; rfl)); intro w17 hw; have hg : w14.grownBy w17 (some go13) := (by rw [hw]; exact HP16.2); have hp_ : Kd.R (Kd.int .i64) 2 w17 w.heap.size (fun _ => True) (.slice (some ⟨go13, 0, none⟩) y187.length co13) y190 := (by rw [hw, Ny190.out]; exact HP16.1); clear HP16; replace HO_6 := Aside0.mk (Kd.S_after (v := (.slice (some ⟨go13, 0, none⟩) y187.length co13)) (v1 := (.slice (some ⟨go13, 0, none⟩) y187.length co13)) (ok := (fun _ => True)) (Kd.S_below HO_6.out bgo_) hg (.inl rfl)); replace BK183 := Aside0.mk (blk_grown (g := gb183) (o := .cells #[.int .i64 a0_0, .slice A0_1 l0_1.length c0_1] 29 (0, 0)) (blk_below BK183.out bgo_) hg (Kd.R_ne HO189.out BK183.out (by decide))); replace HO189 := Aside0.mk (hp_); replace HB := Aside0.mk ((by rw [hw]; exact below_set (HB.out) GB13.out : Below w.heap.size w w17)); clear hg hw hp_))
    go_loopg [8, 9] k1 (fun kq v8 v9 w' => ∃ (x8_2 : List Int) (x9_2 : Int), v9 = .int .i64 x9_2 ∧ Aside0 (spec_l03Rows.l1 kq a1 (ji8) x6_1 x7_1 x8_2 x9_2 a0_0 l0_1 = some r) ∧ Aside0 (kq ≤ k1) ∧ Aside0 (Kd.S (Kd.slice 2 (Kd.int .i64)) 26 w' w.heap.size (fun k_ => some k_ ≠ (v8 : Value).ownBlock) u6 x6_1) ∧ Aside0 (Kd.R (Kd.int .i64) 2 w' w.heap.size (fun _ => True) v8 x8_2) ∧ Aside0 (w'.heap[gb183]? = some (.cells #[.int .i64 a0_0, (.slice A0_1 l0_1.length c0_1)] 29 (0, 0))) ∧ Aside0 (Below w.heap.size w w'))
    case atStart => exact ⟨(y190), (1), es_, H', ⟨Nat.le_refl _⟩, ⟨by (with_reducible repeat (first | apply Kd.S_alloc | apply Kd.S_drewN | apply Kd.S_drew)); exact Kd.S_mono HO_6.out (fun _ hk => hk.2)⟩, ⟨Kd.R_below HO189.out bgo_⟩, ⟨blk_below BK183.out bgo_⟩, ⟨hbs_⟩⟩
    case round =>
     clear H'
     obtain ⟨x8_2, x9_2, rfl, HA, HK2, HO_6, HO_8, BK183, HB⟩ := hrel
     cases gk with
     | zero => exact absurd HA.out (by simp [spec_l03Rows.l1])
     | succ k2 =>
      have H := HA.out
      clear HA
      simp only [spec_l03Rows.l1] at H
      by_cases c18 : x9_2 < a1
      ·rw [if_pos c18] at H
       have c18b0 := decide_eq_true c18
       clear c18
       obtain ⟨c19, H⟩ := itn_ H
       have c19b0 := eq_true c19
       have c19b1 := decide_eq_true c19
       clear c19
       obtain ⟨c20, H⟩ := itn_ H
       have c20b0 := eq_true c20
       have c20b1 := decide_eq_true c20
       clear c20
       obtain ⟨y194, Ny194, H⟩ : ∃ y194 : List Int, Aside0 (y194 = (List.replicate ((ji8) : Int).toNat 0)) ∧ (spec_l03Rows.l2 k2 a1 (ji8) x6_1 x7_1 x8_2 x9_2 y194 0 a0_0 l0_1) = some r := ⟨_, ⟨rfl⟩, H⟩
       have H' := Aside0.mk H
       clear H
       go_wp2_with (first | ((with_reducible refine gate_dst (N := 34) rfl ?_); refine Kd.R_make (Kd.int .i64) _ 2 rfl (N := 34) rfl 26 _ _ rfl (ji8) rfl rfl Try.underlying26 (.int .i64 0) 8 info2 rfl (by decide) (by omega) 0 (ok := fun _ => True) (okp := fun _ => True) rfl (fun _ hk => hk) trivial (od_) (Nat.le_trans (Nat.mul_le_mul_right _ (od_ : (ji8).toNat ≤ 35184372088832)) (by omega)) (Below.refl _ _) (Nat.le_refl _) ?_; intro v195 w21 ho22 hb hg_ hnew_; clear hg_ hnew_; (first | rw [← Ny194.out] at ho22 | (simp only [Int.reduceToNat] at ho22; rw [← Ny194.out] at ho22)); replace HO_6 := Aside0.mk (Kd.S_elder' (Kd.S_below HO_6.out bgo_) (Kd.R_base ho22) hb); have HO196 := Aside0.mk (Kd.R_lower (Kd.R_new' ho22 (Kd.R_lt (Kd.R_below HO_8.out bgo_))) (below_size hbs_)); replace HO_8 := Aside0.mk (Kd.R_elder' (Kd.R_below HO_8.out bgo_) (Kd.R_base ho22) hb); replace BK183 := Aside0.mk (blk_below (g := gb183) (o := .cells #[.int .i64 a0_0, .slice A0_1 l0_1.length c0_1] 29 (0, 0)) (blk_below BK183.out bgo_) hb); replace HB := Aside0.mk (below_step hbs_ hb); clear hb ho22))
       go_loopg [11] k2 (fun kq v11 w' => ∃ (x10_3 : List Int) (x11_3 : Int), v11 = .int .i64 x11_3 ∧ Aside0 (spec_l03Rows.l2 kq a1 (ji8) x6_1 x7_1 x8_2 x9_2 x10_3 x11_3 a0_0 l0_1 = some r) ∧ Aside0 (kq ≤ k2) ∧ Aside0 (Kd.S (Kd.slice 2 (Kd.int .i64)) 26 w' w.heap.size (fun k_ => some k_ ≠ (u8 : Value).ownBlock ∧ some k_ ≠ (v195 : Value).ownBlock) u6 x6_1) ∧ Aside0 (Kd.R (Kd.int .i64) 2 w' w.heap.size (fun k_ => some k_ ≠ (v195 : Value).ownBlock) u8 x8_2) ∧ Aside0 (Kd.R (Kd.int .i64) 2 w' w.heap.size (fun k_ => some k_ ≠ (u8 : Value).ownBlock) v195 x10_3) ∧ Aside0 (w'.heap[gb183]? = some (.cells #[.int .i64 a0_0, (.slice A0_1 l0_1.length c0_1)] 29 (0, 0))) ∧ Aside0 (Below w.heap.size w w'))
       case atStart => exact ⟨(y194), (0), es_, H', ⟨Nat.le_refl _⟩, ⟨Kd.S_below HO_6.out bgo_⟩, ⟨by (with_reducible repeat (first | apply Kd.R_alloc | apply Kd.R_drewN | apply Kd.R_drew)); exact Kd.R_mono HO_8.out (fun _ hk => hk.2)⟩, ⟨by (with_reducible repeat (first | apply Kd.R_alloc | apply Kd.R_drewN | apply Kd.R_drew)); exact Kd.R_mono HO196.out (fun _ hk => hk.2)⟩, ⟨blk_below BK183.out bgo_⟩, ⟨hbs_⟩⟩
       case round =>
        clear H'
        obtain ⟨x10_3, x11_3, rfl, HA, HK3, HO_6, HO_8, HO_10, BK183, HB⟩ := hrel
        cases gk with
        | zero => exact absurd HA.out (by simp [spec_l03Rows.l2])
        | succ k3 =>
         have H := HA.out
         clear HA
         simp only [spec_l03Rows.l2] at H
         by_cases c23 : x11_3 < (ji8)
         ·rw [if_pos c23] at H
          have c23b0 := decide_eq_true c23
          clear c23
          have H' := Aside0.mk H
          clear H
          go_wp2
          go_loopg [12] k3 (fun kq v12 w' => ∃ (x10_4 : List Int) (x12_4 : Int), v12 = .int .i64 x12_4 ∧ Aside0 (spec_l03Rows.l3 kq a1 (ji8) x6_1 x7_1 x8_2 x9_2 x10_4 x11_3 x12_4 a0_0 l0_1 = some r) ∧ Aside0 (kq ≤ k3) ∧ Aside0 (Kd.S (Kd.slice 2 (Kd.int .i64)) 26 w' w.heap.size (fun k_ => some k_ ≠ (u8 : Value).ownBlock ∧ some k_ ≠ (v195 : Value).ownBlock) u6 x6_1) ∧ Aside0 (Kd.R (Kd.int .i64) 2 w' w.heap.size (fun k_ => some k_ ≠ (v195 : Value).ownBlock) u8 x8_2) ∧ Aside0 (Kd.R (Kd.int .i64) 2 w' w.heap.size (fun k_ => some k_ ≠ (u8 : Value).ownBlock) v195 x10_4) ∧ Aside0 (w'.heap[gb183]? = some (.cells #[.int .i64 a0_0, (.slice A0_1 l0_1.length c0_1)] 29 (0, 0))) ∧ Aside0 (Below w.heap.size w w'))
          case atStart => exact ⟨(x10_3), (0), es_, H', ⟨Nat.le_refl _⟩, ⟨Kd.S_below HO_6.out bgo_⟩, ⟨Kd.R_below HO_8.out bgo_⟩, ⟨Kd.R_below HO_10.out bgo_⟩, ⟨blk_below BK183.out bgo_⟩, ⟨hbs_⟩⟩
          case round =>
           clear H'
           obtain ⟨x10_4, x12_4, rfl, HA, HK4, HO_6, HO_8, HO_10, BK183, HB⟩ := hrel
           cases gk with
           | zero => exact absurd HA.out (by simp [spec_l03Rows.l3])
           | succ k4 =>
            have H := HA.out
            clear HA
            simp only [spec_l03Rows.l3] at H
            have HC24 := Aside0.mk H
            clear H
            go_upto_region 16 with (fail)
            go_cut [49] (fun v49 wc => ∃ (kq : Nat) (x49_23 : Bool), v49 = .bool x49_23 ∧ Aside0 (spec_l03Rows.j4 kq a1 (ji8) x6_1 x7_1 x8_2 x9_2 x10_4 x11_3 x12_4 x49_23 a0_0 l0_1 = some r) ∧ Aside0 (kq ≤ k4) ∧ Aside0 (Kd.S (Kd.slice 2 (Kd.int .i64)) 26 wc w.heap.size (fun k_ => some k_ ≠ (u8 : Value).ownBlock ∧ some k_ ≠ (v195 : Value).ownBlock) u6 x6_1) ∧ Aside0 (Kd.R (Kd.int .i64) 2 wc w.heap.size (fun k_ => some k_ ≠ (v195 : Value).ownBlock) u8 x8_2) ∧ Aside0 (Kd.R (Kd.int .i64) 2 wc w.heap.size (fun k_ => some k_ ≠ (u8 : Value).ownBlock) v195 x10_4) ∧ Aside0 (wc.heap[gb183]? = some (.cells #[.int .i64 a0_0, (.slice A0_1 l0_1.length c0_1)] 29 (0, 0))) ∧ Aside0 (Below w.heap.size w wc))
            case first =>
             have H := HC24.out
             clear HC24
             by_cases c25 : x12_4 < (ji8)
             ·rw [if_pos c25] at H
              have c25b0 := decide_eq_true c25
              clear c25
              (first | rw [c25b0] | (simp only [i64_w, i32_w]; rw [c25b0]) | skip)
              obtain ⟨c26, H⟩ := itn_ H
              have c26b0 := decide_eq_true c26
              clear c26
              obtain ⟨c27, H⟩ := itn_ H
              have c27b0 := decide_eq_true c27
              clear c27
              have H' := Aside0.mk H
              clear H
              obtain ⟨Ao28, co28, eo28⟩ := Kd.R_slice HO_8.out
              subst eo28
              have p197 : 0 ≤ (x11_3 : Int) := od_
              have q197 : x11_3 < (x8_2.length : Int) := od_
              obtain ⟨ad197, e197, hx197_0⟩ := Kd.at_int (Kd.R_reads' HO_8.out).2.2 x11_3 p197 q197
              cases e197
              replace p197 := eq_true p197
              replace q197 := eq_true q197
              go_wp2
              go_meet
              case rel => exact ⟨_, (decide ((rd x8_2 x11_3) > 0)), es_, H', ⟨by have := HK1.out; have := HK2.out; have := HK3.out; have := HK4.out; first | omega | exact Nat.le_refl _⟩, ⟨Kd.S_below HO_6.out bgo_⟩, ⟨Kd.R_below HO_8.out bgo_⟩, ⟨Kd.R_below HO_10.out bgo_⟩, ⟨blk_below BK183.out bgo_⟩, ⟨hbs_⟩⟩
             ·rw [if_neg c25] at H
              have c25b0 := decide_eq_false c25
              clear c25
              (first | rw [c25b0] | (simp only [i64_w, i32_w]; rw [c25b0]) | skip)
              have H' := Aside0.mk H
              clear H
              go_wp2
              go_meet
              case rel => exact ⟨_, (false), es_, H', ⟨by have := HK1.out; have := HK2.out; have := HK3.out; have := HK4.out; first | omega | exact Nat.le_refl _⟩, ⟨Kd.S_below HO_6.out bgo_⟩, ⟨Kd.R_below HO_8.out bgo_⟩, ⟨Kd.R_below HO_10.out bgo_⟩, ⟨blk_below BK183.out bgo_⟩, ⟨hbs_⟩⟩
            case rest =>
             clear HC24
             obtain ⟨kq, x49_23, rfl, HA, HJ23, HO_6, HO_8, HO_10, BK183, HB⟩ := hcut
             cases kq with
             | zero => exact absurd HA.out (by simp [spec_l03Rows.j4])
             | succ kj23 =>
              have H := HA.out
              clear HA
              simp only [spec_l03Rows.j4] at H
              by_cases c29 : x49_23 = true
              ·subst c29
               have H1 : ((spec_l03Next.f a0_0 l0_1 x11_3 x12_4).bind fun t198 => (if t198 = true then (if 0 ≤ x12_4 then (if x12_4 < (x10_4.length : Int) then (if 0 ≤ x11_3 then (if x11_3 < (x8_2.length : Int) then (spec_l03Rows.l3 kj23 a1 (ji8) x6_1 x7_1 x8_2 x9_2 (x10_4.set (x12_4 : Int).toNat (wrap64 ((rd x10_4 x12_4) + (rd x8_2 x11_3)))) x11_3 (wrap64 (x12_4 + 1)) a0_0 l0_1) else (none)) else (none)) else (none)) else (none)) else (spec_l03Rows.l3 kj23 a1 (ji8) x6_1 x7_1 x8_2 x9_2 x10_4 x11_3 (wrap64 (x12_4 + 1)) a0_0 l0_1))) = some r := by rw [if_pos rfl] at H; exact H
               clear H
               have H := H1
               clear H1
               obtain ⟨t198, A30, H⟩ := bnd_ H
               by_cases c31 : t198 = true
               ·subst c31
                have H1 : (if 0 ≤ x12_4 then (if x12_4 < (x10_4.length : Int) then (if 0 ≤ x11_3 then (if x11_3 < (x8_2.length : Int) then (spec_l03Rows.l3 kj23 a1 (ji8) x6_1 x7_1 x8_2 x9_2 (x10_4.set (x12_4 : Int).toNat (wrap64 ((rd x10_4 x12_4) + (rd x8_2 x11_3)))) x11_3 (wrap64 (x12_4 + 1)) a0_0 l0_1) else (none)) else (none)) else (none)) else (none)) = some r := by rw [if_pos rfl] at H; exact H
                clear H
                have H := H1
                clear H1
                obtain ⟨c32, H⟩ := itn_ H
                have c32b0 := decide_eq_true c32
                clear c32
                obtain ⟨c33, H⟩ := itn_ H
                have c33b0 := decide_eq_true c33
                clear c33
                obtain ⟨c34, H⟩ := itn_ H
                have c34b0 := decide_eq_true c34
                clear c34
                obtain ⟨c35, H⟩ := itn_ H
                have c35b0 := decide_eq_true c35
                clear c35
                obtain ⟨y201, Ny201, H⟩ : ∃ y201 : List Int, Aside0 (y201 = (x10_4.set (x12_4 : Int).toNat (wrap64 ((rd x10_4 x12_4) + (rd x8_2 x11_3))))) ∧ (spec_l03Rows.l3 kj23 a1 (ji8) x6_1 x7_1 x8_2 x9_2 y201 x11_3 (wrap64 (x12_4 + 1)) a0_0 l0_1) = some r := ⟨_, ⟨rfl⟩, H⟩
                have H' := Aside0.mk H
                clear H
                have hcz37_0 : wc.cell? ⟨gb183, 0, none⟩ = some (.int .i64 a0_0) := (blk_cell BK183.out 0).trans rfl
                have hcz37_1 : wc.cell? ⟨gb183, 1, none⟩ = some (.slice A0_1 l0_1.length c0_1) := (blk_cell BK183.out 1).trans rfl
                have hfz37_0 := blk_frozen BK183.out 0
                have hfz37_1 := blk_frozen BK183.out 1
                try go_wp2_with (first | ((with_reducible refine gate_callee (f := 102) rfl ?_); refine goesL_ (some 55) rfl rfl Try.func102 (by kernel_rfl) rfl #[.agg #[.int .i64 a0_0, .slice A0_1 l0_1.length c0_1], .int .i64 x11_3, .int .i64 x12_4] rfl arg_ ?_; (with_reducible refine (spec_l03Next.calls a0_0 _ _ l0_1 x11_3 x12_4 true _ ?side1 ?side2 A30.out).mono ?_); (case side1 => exact Kd.C_below (Kd.C_below HR0_1.out HB.out) bgo_); (case side2 => exact HC0_1.out); rintro e w38 ⟨rfl, hb⟩; refine ⟨_, rfl, ?_⟩; replace HO_6 := Aside0.mk (Kd.S_below (Kd.S_below HO_6.out bgo_) hb); replace HO_8 := Aside0.mk (Kd.R_below (Kd.R_below HO_8.out bgo_) hb); replace HO_10 := Aside0.mk (Kd.R_below (Kd.R_below HO_10.out bgo_) hb); replace BK183 := Aside0.mk (blk_below (g := gb183) (o := .cells #[.int .i64 a0_0, .slice A0_1 l0_1.length c0_1] 29 (0, 0)) (blk_below BK183.out bgo_) hb); replace HB := Aside0.mk (below_step hbs_ hb); (try clear hb); (try clear hb2); (try clear hk); (try clear hi)))
                have n0_ := Aside0.mk (Kd.S_drew HO_6.out)
                have n1_ := Aside0.mk (Kd.R_drew HO_8.out)
                have n2_ := Aside0.mk (Kd.R_drew HO_10.out)
                have n3_ := Aside0.mk (blk_drew BK183.out)
                have n4_ := Aside0.mk (below_drew1 HB.out)
                clear HO_6
                clear HO_8
                clear HO_10
                clear BK183
                clear HB
                have HO_6 := n0_
                have HO_8 := n1_
                have HO_10 := n2_
                have BK183 := n3_
                have HB := n4_
                clear n0_ n1_ n2_ n3_ n4_
                obtain ⟨Ao40, co40, eo40⟩ := Kd.R_slice HO_10.out
                (first | subst eo40 | (injection eo40 with f1_ f2_ f3_; have f4_ := f1_.symm; have f5_ := f3_.symm; clear f1_ f2_ f3_; subst f4_; subst f5_))
                have p199 : 0 ≤ (x12_4 : Int) := od_
                have q199 : x12_4 < (x10_4.length : Int) := od_
                obtain ⟨ad199, e199, hx199_0⟩ := Kd.at_int (Kd.R_reads' HO_10.out).2.2 x12_4 p199 q199
                cases e199
                replace p199 := eq_true p199
                replace q199 := eq_true q199
                obtain ⟨Ao41, co41, eo41⟩ := Kd.R_slice HO_8.out
                (first | subst eo41 | (injection eo41 with f1_ f2_ f3_; have f4_ := f1_.symm; have f5_ := f3_.symm; clear f1_ f2_ f3_; subst f4_; subst f5_))
                have p200 : 0 ≤ (x11_3 : Int) := od_
                have q200 : x11_3 < (x8_2.length : Int) := od_
                obtain ⟨ad200, e200, hx200_0⟩ := Kd.at_int (Kd.R_reads' HO_8.out).2.2 x11_3 p200 q200
                cases e200
                replace p200 := eq_true p200
                replace q200 := eq_true q200
                have p36 : 0 ≤ (x12_4 : Int) := od_
                have q36 : (x12_4 : Int) < ((x10_4.length : Int) : Int) := od_
                obtain ⟨go36, co36, eo36, gb36, gl36, cl36, HG36⟩ := Kd.R_form HO_10.out (by omega)
                (first | cases eo36 | (injection eo36 with ea_ en_ ec_; (first | subst ea_ | (injection ea_ with ea_; subst ea_)); subst ec_; clear en_))
                have GB36 := Aside0.mk gb36
                have GG36 := Aside0.mk HG36
                clear gb36 gl36 HG36
                (first | simp only [add_plain] at hx199_0 | skip)
                obtain ⟨hx36_0, hf36_0⟩ := Kd.R_celln 0 HO_10.out (x12_4 : Int) p36 q36
                replace p36 := eq_true p36
                replace q36 := eq_true q36
                have HP42 := Kd.R_putn HO_10.out (x12_4 : Int) (wrap64 ((rd x10_4 x12_4) + (rd x8_2 x11_3)))
                rw [← Ny201.out] at HP42
                have HQ42 := Aside0.mk HP42
                clear HP42
                refine start_ (n := 13) (S := fun w' => w'.cell? ⟨go36, (x12_4).toNat, none⟩ = some (.int .i64 (rd x10_4 x12_4)) ∧ w'.cell? (ad200.add (x11_3).toNat) = some (.int .i64 (rd x8_2 x11_3))) (ds := [12]) #[false, false, false, false, false, false, false, false, false, false, false, false, false] (by kernel_rfl) rfl rfl ⟨hx199_0, hx200_0⟩ (fun hHeld => ?_); refine with_tabW spec_l03Rows.tab19 spec_l03Rows.bits19 (fun HT_ HW_ => ?_)
                generalize w38.drew = w39 at HO_6 HO_8 HO_10 BK183 HB GG36 HQ42 hf36_0 hx199_0 hx200_0 hx36_0 hHeld ⊢
                refine pk_ 0 13 56 1 ?_
                refine pk_ 1 13 57 3 ?_
                refine pk_ 2 13 58 7 ?_
                refine pk_ 3 13 59 15 ?_
                refine pk_ 4 13 60 31 ?_
                refine pk_ 6 13 62 95 ?_
                refine pk_ 7 13 63 223 ?_
                refine pk_ 8 13 64 479 ?_
                refine tk_ 5 13 61 511 hHeld ?_
                refine tk_ 9 13 65 1023 hHeld ?_
                refine pk_ 10 13 66 2047 ?_
                refine pk_ 11 13 67 4095 ?_
                refine last_ (i := 12) (N := none) #[true, true, true, true, true, true, true, true, true, true, true, true, true] rfl rfl (one_of HT_.out (by kernel_rfl)) (by decide) (fun K hK => ?_)
                refine skip_ (w1 := ?_) (by rfl) rfl ?_ ?_
                rotate_left
                ·go_simp
                 rfl
                refine hK.out _ _ ?_
                clear hK K
                refine done_ (done_of HT_.out (by kernel_rfl)) ?_
                try go_wp2
                first | (first | go_roundg kj23 | (refine Handed.intro kj23 ?measure ?_; rotate_left; go_step; (try simp only [add_plain]); (repeat apply Exists.intro); refine ⟨?rel, rfl⟩)) | ((try subst hji8); (first | go_roundg kj23 | (refine Handed.intro kj23 ?measure ?_; rotate_left; go_step; (try simp only [add_plain]); (repeat apply Exists.intro); refine ⟨?rel, rfl⟩)))
                case measure => have := HK1.out; have := HK2.out; have := HK3.out; have := HK4.out; have := HJ23.out; omega
                case rel => exact ⟨(y201), (wrap64 (x12_4 + 1)), es_, H', ⟨by have := HK1.out; have := HK2.out; have := HK3.out; have := HK4.out; have := HJ23.out; omega⟩, ⟨by (with_reducible repeat (first | apply Kd.S_alloc | apply Kd.S_drewN | apply Kd.S_drew)); exact Kd.S_mono (Kd.S_far (p := ⟨go36, (x12_4 : Int).toNat, none⟩) (Kd.S_mono HO_6.out (fun k_ hk => (⟨hk, fun e_ => hk.2 (by rw [e_]; rfl)⟩ : _ ∧ k_ ≠ go36))) (fun _ hk => hk.2) (.int .i64 (wrap64 ((rd x10_4 x12_4) + (rd x8_2 x11_3))))) (fun _ hk => ⟨hk.1.1, hk.1.2⟩)⟩, ⟨by (with_reducible repeat (first | apply Kd.R_alloc | apply Kd.R_drewN | apply Kd.R_drew)); exact Kd.R_mono (Kd.R_far (p := ⟨go36, (x12_4 : Int).toNat, none⟩) (Kd.R_mono HO_8.out (fun k_ hk => (⟨hk, fun e_ => hk (by rw [e_]; rfl)⟩ : _ ∧ k_ ≠ go36))) (fun _ hk => hk.2) (.int .i64 (wrap64 ((rd x10_4 x12_4) + (rd x8_2 x11_3))))) (fun _ hk => hk.1)⟩, ⟨by (with_reducible repeat (first | apply Kd.R_alloc | apply Kd.R_drewN | apply Kd.R_drew)); exact HQ42.out⟩, ⟨by (with_reducible repeat (first | refine blk_drewN ?_ _ | refine blk_drew ?_ | refine blk_alloc ?_ _)); refine blk_far ?_ (by have h_ := Kd.R_ne HO_10.out BK183.out (by decide); intro e_; exact h_ (by rw [e_]; rfl)) _; (with_reducible repeat (first | refine blk_drewN ?_ _ | refine blk_drew ?_ | refine blk_alloc ?_ _)); exact BK183.out⟩, ⟨hbs_⟩⟩
               ·replace c31 := Bool.eq_false_iff.mpr c31
                subst c31
                have H1 : (spec_l03Rows.l3 kj23 a1 (ji8) x6_1 x7_1 x8_2 x9_2 x10_4 x11_3 (wrap64 (x12_4 + 1)) a0_0 l0_1) = some r := by rw [if_neg (show ¬ (false = true) by decide)] at H; exact H
                clear H
                have H := H1
                clear H1
                have H' := Aside0.mk H
                clear H
                have hcz43_0 : wc.cell? ⟨gb183, 0, none⟩ = some (.int .i64 a0_0) := (blk_cell BK183.out 0).trans rfl
                have hcz43_1 : wc.cell? ⟨gb183, 1, none⟩ = some (.slice A0_1 l0_1.length c0_1) := (blk_cell BK183.out 1).trans rfl
                have hfz43_0 := blk_frozen BK183.out 0
                have hfz43_1 := blk_frozen BK183.out 1
                go_wp2_with (first | ((with_reducible refine gate_callee (f := 102) rfl ?_); refine goesL_ (some 55) rfl rfl Try.func102 (by kernel_rfl) rfl #[.agg #[.int .i64 a0_0, .slice A0_1 l0_1.length c0_1], .int .i64 x11_3, .int .i64 x12_4] rfl arg_ ?_; (with_reducible refine (spec_l03Next.calls a0_0 _ _ l0_1 x11_3 x12_4 false _ ?side1 ?side2 A30.out).mono ?_); (case side1 => exact Kd.C_below (Kd.C_below HR0_1.out HB.out) bgo_); (case side2 => exact HC0_1.out); rintro e w44 ⟨rfl, hb⟩; refine ⟨_, rfl, ?_⟩; replace HO_6 := Aside0.mk (Kd.S_below (Kd.S_below HO_6.out bgo_) hb); replace HO_8 := Aside0.mk (Kd.R_below (Kd.R_below HO_8.out bgo_) hb); replace HO_10 := Aside0.mk (Kd.R_below (Kd.R_below HO_10.out bgo_) hb); replace BK183 := Aside0.mk (blk_below (g := gb183) (o := .cells #[.int .i64 a0_0, .slice A0_1 l0_1.length c0_1] 29 (0, 0)) (blk_below BK183.out bgo_) hb); replace HB := Aside0.mk (below_step hbs_ hb); (try clear hb); (try clear hb2); (try clear hk); (try clear hi)))
                first | (first | go_roundg kj23 | (refine Handed.intro kj23 ?measure ?_; rotate_left; go_step; (try simp only [add_plain]); (repeat apply Exists.intro); refine ⟨?rel, rfl⟩)) | ((try subst hji8); (first | go_roundg kj23 | (refine Handed.intro kj23 ?measure ?_; rotate_left; go_step; (try simp only [add_plain]); (repeat apply Exists.intro); refine ⟨?rel, rfl⟩)))
                case measure => have := HK1.out; have := HK2.out; have := HK3.out; have := HK4.out; have := HJ23.out; omega
                case rel => exact ⟨(x10_4), (wrap64 (x12_4 + 1)), es_, H', ⟨by have := HK1.out; have := HK2.out; have := HK3.out; have := HK4.out; have := HJ23.out; omega⟩, ⟨Kd.S_below HO_6.out bgo_⟩, ⟨Kd.R_below HO_8.out bgo_⟩, ⟨Kd.R_below HO_10.out bgo_⟩, ⟨blk_below BK183.out bgo_⟩, ⟨hbs_⟩⟩
              ·replace c29 := Bool.eq_false_iff.mpr c29
               subst c29
               have H1 : (spec_l03Rows.l2 kj23 a1 (ji8) x6_1 x7_1 x8_2 x9_2 x10_4 (wrap64 (x11_3 + 1)) a0_0 l0_1) = some r := by rw [if_neg (show ¬ (false = true) by decide)] at H; exact H
               clear H
               have H := H1
               clear H1
               have H' := Aside0.mk H
               clear H
               go_wp2
               first | (first | go_roundg kj23 | (refine Handed.intro kj23 ?measure ?_; rotate_left; go_step; (try simp only [add_plain]); (repeat apply Exists.intro); refine ⟨?rel, rfl⟩)) | ((try subst hji8); (first | go_roundg kj23 | (refine Handed.intro kj23 ?measure ?_; rotate_left; go_step; (try simp only [add_plain]); (repeat apply Exists.intro); refine ⟨?rel, rfl⟩)))
               case measure => have := HK1.out; have := HK2.out; have := HK3.out; have := HK4.out; have := HJ23.out; omega
               case rel => exact ⟨(x10_4), (wrap64 (x11_3 + 1)), es_, H', ⟨by have := HK1.out; have := HK2.out; have := HK3.out; have := HK4.out; have := HJ23.out; omega⟩, ⟨Kd.S_below HO_6.out bgo_⟩, ⟨Kd.R_below HO_8.out bgo_⟩, ⟨Kd.R_below HO_10.out bgo_⟩, ⟨blk_below BK183.out bgo_⟩, ⟨hbs_⟩⟩
         ·rw [if_neg c23] at H
          have c23b0 := decide_eq_false c23
          clear c23
          have H' := Aside0.mk H
          clear H
          go_wp2
          first | (first | go_roundg k3 | (refine Handed.intro k3 ?measure ?_; rotate_left; go_step; (try simp only [add_plain]); (repeat apply Exists.intro); refine ⟨?rel, rfl⟩)) | ((try subst hji8); (first | go_roundg k3 | (refine Handed.intro k3 ?measure ?_; rotate_left; go_step; (try simp only [add_plain]); (repeat apply Exists.intro); refine ⟨?rel, rfl⟩)))
          case measure => have := HK1.out; have := HK2.out; have := HK3.out; omega
          case rel => exact ⟨(x10_3), (wrap64 (x9_2 + 1)), es_, H', ⟨by have := HK1.out; have := HK2.out; have := HK3.out; omega⟩, ⟨by (with_reducible repeat (first | apply Kd.S_alloc | apply Kd.S_drewN | apply Kd.S_drew)); exact Kd.S_mono HO_6.out (fun _ hk => hk.2)⟩, ⟨by (with_reducible repeat (first | apply Kd.R_alloc | apply Kd.R_drewN | apply Kd.R_drew)); exact Kd.R_mono HO_10.out (fun _ hk => trivial)⟩, ⟨blk_below BK183.out bgo_⟩, ⟨hbs_⟩⟩
      ·rw [if_neg c18] at H
       have c18b0 := decide_eq_false c18
       clear c18
       obtain ⟨c45, H⟩ := itn_ H
       have LMc45 := Aside0.mk c45
       clear c45
       obtain ⟨y191, Ny191, H⟩ : ∃ y191 : List (List Int), Aside0 (y191 = (x6_1 ++ [x8_2])) ∧ (spec_l03Rows.l0 k2 a1 (ji8) y191 (wrap64 (x7_1 + 1)) a0_0 l0_1) = some r := ⟨_, ⟨rfl⟩, H⟩
       have H' := Aside0.mk H
       clear H
       obtain ⟨Ao47, co47, eo47⟩ := Kd.R_slice HO_8.out
       subst eo47
       go_wp2_with (first | ((with_reducible refine gate_builtin (b := .append) (xs := #[.tmp 69, .tmp 71]) rfl ?_); at_builtin; refine Kd.S_append (Kd.slice 2 (Kd.int .i64)) (w0 := w) w.heap.size rfl (.tmp 69) (.tmp 71) 22 26 (.slice none 0 0) 24 rfl Try.underlying22 info26 rfl (by decide) (by omega) u6 x6_1 x8_2 [.slice Ao47 x8_2.length co47] (fun _ => True) (fun k_ => some k_ = (.slice Ao47 x8_2.length co47 : Value).ownBlock) rfl rfl ?aP (fun k_ hk_ => ((Kd.R_mono (ok' := fun k_ => ((fun _ => True)) k_ ∧ some k_ ≠ (u6 : Value).ownBlock) (Kd.R_apart' (HO_8.out) (Kd.S_typed HO_6.out) (by decide)) (fun k_ hk => ⟨trivial, hk.2⟩))).1 k_ hk_.symm) ?aF ?aO ?aB ?aS ?aL ?_; (case aP => exact Kd.M_row (Kd.R_mono (Kd.R_tight rfl (Kd.R_mono (ok' := fun k_ => ((fun _ => True)) k_ ∧ some k_ ≠ (u6 : Value).ownBlock) (Kd.R_apart' (HO_8.out) (Kd.S_typed HO_6.out) (by decide)) (fun k_ hk => ⟨trivial, hk.2⟩))) (fun _ h_ => h_))); (case aB => exact hbs_); (case aF => exact (fun _ _ => trivial)); (case aO => exact (by (with_reducible repeat (first | apply Kd.S_alloc | apply Kd.S_drewN | apply Kd.S_drew)); exact Kd.S_mono HO_6.out (fun k_ hk => ⟨trivial, fun e_ => hk e_⟩))); (case aS => exact (below_size hbs_)); (case aL => have := LMc45.out; omega); intro v192 w46 ho hb hg hat; rw [← Ny191.out] at ho; replace BK183 := Aside0.mk (blk_grown (g := gb183) (o := .cells #[.int .i64 a0_0, .slice A0_1 l0_1.length c0_1] 29 (0, 0)) (blk_below BK183.out bgo_) hg (Kd.S_ne HO_6.out BK183.out (by decide))); replace HB := Aside0.mk (hb); have HO193 := Aside0.mk (ho); clear HO_6 HO_8; clear ho hb hg hat))
       first | (first | go_roundg k2 | (refine Handed.intro k2 ?measure ?_; rotate_left; go_step; (try simp only [add_plain]); (repeat apply Exists.intro); refine ⟨?rel, rfl⟩)) | ((try subst hji8); (first | go_roundg k2 | (refine Handed.intro k2 ?measure ?_; rotate_left; go_step; (try simp only [add_plain]); (repeat apply Exists.intro); refine ⟨?rel, rfl⟩)))
       case measure => have := HK1.out; have := HK2.out; omega
       case rel => exact ⟨(y191), (wrap64 (x7_1 + 1)), es_, H', ⟨by have := HK1.out; have := HK2.out; omega⟩, ⟨Kd.S_below HO193.out bgo_⟩, ⟨blk_below BK183.out bgo_⟩, ⟨hbs_⟩⟩
   ·rw [if_neg c7] at H
    have c7b0 := decide_eq_false c7
    clear c7
    obtain rfl := Option.some.inj H
    go_wp2
    go_ret
    exact ⟨_, er_, (Kd.S_below HO_6.out bgo_), hbs_⟩

/-! ### spec_l03Count: function 108 -/
mutual
def spec_l03Count.l0 : Nat → List (List Int) → Int → Int → Int → List (List Int) → Option (Int)
 | 0, _, _, _, _, _ => none
 | k + 1, x5, x6, x7, x203000, x203001 => if x7 < (x5.length : Int) then (spec_l03Count.l1 k x5 x6 x7 0 x203000 x203001) else (some x6)
def spec_l03Count.l1 : Nat → List (List Int) → Int → Int → Int → Int → List (List Int) → Option (Int)
 | 0, _, _, _, _, _, _ => none
 | k + 1, x5, x6, x7, x8, x203000, x203001 => if x8 < (x5.length : Int) then (if 0 ≤ x7 then (if x7 < (x5.length : Int) then (if 0 ≤ x8 then (if x8 < ((rd_L1 x5 x7).length : Int) then (if (rd (rd_L1 x5 x7) x8) > 0 then ((spec_l03Next.f x203000 x203001 x8 x7).bind fun t208 => (if t208 = true then (spec_l03Count.l1 k x5 (wrap64 (x6 + (rd (rd_L1 x5 x7) x8))) x7 (wrap64 (x8 + 1)) x203000 x203001) else (spec_l03Count.l1 k x5 x6 x7 (wrap64 (x8 + 1)) x203000 x203001))) else (spec_l03Count.l1 k x5 x6 x7 (wrap64 (x8 + 1)) x203000 x203001)) else (none)) else (none)) else (none)) else (none)) else (spec_l03Count.l0 k x5 x6 (wrap64 (x7 + 1)) x203000 x203001)
end
def spec_l03Count.f (k : Nat) (a0_0 : Int) (l0_1 : List (List Int)) (a1 : Int) : Option (Int) := (spec_l03Rows.f k a0_0 l0_1 a1).bind fun t203 => (spec_l03Count.l0 k t203 0 0 a0_0 l0_1)
set_option maxHeartbeats 8000000 in
set_option maxRecDepth 100000 in
theorem spec_l03Count.calls (k : Nat) (a0_0 : Int) (A0_1 : Option Addr) (c0_1 : Nat) (l0_1 : List (List Int)) (a1 : Int) (r : Int) (w : World) (hr0_1 : Kd.C (Kd.slice 2 (Kd.int .i64)) w A0_1 l0_1.length l0_1) (hc0_1 : l0_1.length ≤ c0_1) (h : spec_l03Count.f k a0_0 l0_1 a1 = some r) :
  Calls Try.prog 108 #[.agg #[.int .i64 a0_0, .slice A0_1 l0_1.length c0_1], .int .i64 a1] w fun e w' => e = .returned (.int .i64 r) ∧ Below w.heap.size w w' := by
 have hu29 := Try.underlying29
 have HR0_1 := Aside0.mk hr0_1
 have HC0_1 := Aside0.mk hc0_1
 clear hr0_1 hc0_1
 have HB := Aside0.mk (Below.refl w.heap.size w)
 have H : ((spec_l03Rows.f k a0_0 l0_1 a1).bind fun t203 => (spec_l03Count.l0 k t203 0 0 a0_0 l0_1)) = some r := h
 clear h
 obtain ⟨t203, A3, H⟩ := bnd_ H
 have H' := Aside0.mk H
 clear H
 go_enter Try.func108, Try.ntmps108
 go_wp2_with (first | ((with_reducible refine gate_dst (N := 2) rfl ?_); refine box_event ?hg (N := 2) ?hd (cs := #[.int .i64 a0_0, .slice A0_1 l0_1.length c0_1]) (t := 29) ?hr ?_; (case hd => rfl); (case hg => rfl); (case hr => first | (go_simp; done) | (go_simp; rfl)); intro gb202 hg w4 hbox hb; have BK202 := Aside0.mk (hbox); have GW202 := Aside0.mk ((by rw [hg]; exact (below_size hb_) : w.heap.size ≤ gb202)); have GE202 := Aside0.mk ((by rw [hg]; exact (below_size hb_) : w.heap.size ≤ gb202)); replace HB := Aside0.mk (below_step hb_ hb); clear hb hbox hg; have hcz5_0 : w4.cell? ⟨gb202, 0, none⟩ = some (.int .i64 a0_0) := (blk_cell BK202.out 0).trans rfl; have hcz5_1 : w4.cell? ⟨gb202, 1, none⟩ = some (.slice A0_1 l0_1.length c0_1) := (blk_cell BK202.out 1).trans rfl; have hfz5_0 := blk_frozen BK202.out 0; have hfz5_1 := blk_frozen BK202.out 1) | ((with_reducible refine gate_callee (f := 63) rfl ?_); refine goesL_ (some 11) rfl rfl Try.func63 (by kernel_rfl) rfl #[.agg #[.int .i64 a0_0, .slice A0_1 l0_1.length c0_1], .int .i64 a1] rfl arg_ ?_; (with_reducible refine (spec_l03Rows.calls k a0_0 _ _ l0_1 a1 t203 _ ?side1 ?side2 A3.out).mono ?_); (case side1 => exact Kd.C_below (Kd.C_below HR0_1.out HB.out) bgo_); (case side2 => exact HC0_1.out); rintro e w6 ⟨v204, rfl, ho0, hb⟩; refine ⟨_, rfl, ?_⟩; have HO205 := Aside0.mk (Kd.S_lower ho0 (below_size hbs_)); replace BK202 := Aside0.mk (blk_below (g := gb202) (o := .cells #[.int .i64 a0_0, .slice A0_1 l0_1.length c0_1] 29 (0, 0)) (blk_below BK202.out bgo_) hb); replace HB := Aside0.mk (below_step hbs_ hb); (try clear hb); (try clear hb2); (try clear hk); (try clear hi); (try clear ho0)))
 go_loopg [6, 7] k (fun kq v6 v7 w' => ∃ (x6_1 : Int) (x7_1 : Int), v6 = .int .i64 x6_1 ∧ v7 = .int .i64 x7_1 ∧ Aside0 (spec_l03Count.l0 kq t203 x6_1 x7_1 a0_0 l0_1 = some r) ∧ Aside0 (kq ≤ k) ∧ Aside0 (Kd.S (Kd.slice 2 (Kd.int .i64)) 26 w' w.heap.size (fun _ => True) v204 t203) ∧ Aside0 (w'.heap[gb202]? = some (.cells #[.int .i64 a0_0, (.slice A0_1 l0_1.length c0_1)] 29 (0, 0))) ∧ Aside0 (Below w.heap.size w w'))
 case atStart => exact ⟨(0), (0), es_, es_, H', ⟨Nat.le_refl _⟩, ⟨Kd.S_below HO205.out bgo_⟩, ⟨blk_below BK202.out bgo_⟩, ⟨hbs_⟩⟩
 case round =>
  clear H'
  obtain ⟨x6_1, x7_1, rfl, rfl, HA, HK1, HO_5, BK202, HB⟩ := hrel
  cases gk with
  | zero => exact absurd HA.out (by simp [spec_l03Count.l0])
  | succ k1 =>
   have H := HA.out
   clear HA
   simp only [spec_l03Count.l0] at H
   by_cases c7 : x7_1 < (t203.length : Int)
   ·rw [if_pos c7] at H
    have c7b0 := decide_eq_true c7
    clear c7
    have H' := Aside0.mk H
    clear H
    obtain ⟨Ao8, co8, eo8⟩ := Kd.S_slice HO_5.out
    subst eo8
    go_wp2
    go_loopg [6, 8] k1 (fun kq v6 v8 w' => ∃ (x6_2 : Int) (x8_2 : Int), v6 = .int .i64 x6_2 ∧ v8 = .int .i64 x8_2 ∧ Aside0 (spec_l03Count.l1 kq t203 x6_2 x7_1 x8_2 a0_0 l0_1 = some r) ∧ Aside0 (kq ≤ k1) ∧ Aside0 (Kd.S (Kd.slice 2 (Kd.int .i64)) 26 w' w.heap.size (fun _ => True) (.slice Ao8 t203.length co8) t203) ∧ Aside0 (w'.heap[gb202]? = some (.cells #[.int .i64 a0_0, (.slice A0_1 l0_1.length c0_1)] 29 (0, 0))) ∧ Aside0 (Below w.heap.size w w'))
    case atStart => exact ⟨(x6_1), (0), es_, es_, H', ⟨Nat.le_refl _⟩, ⟨Kd.S_below HO_5.out bgo_⟩, ⟨blk_below BK202.out bgo_⟩, ⟨hbs_⟩⟩
    case round =>
     clear H'
     obtain ⟨x6_2, x8_2, rfl, rfl, HA, HK2, HO_5, BK202, HB⟩ := hrel
     cases gk with
     | zero => exact absurd HA.out (by simp [spec_l03Count.l1])
     | succ k2 =>
      have H := HA.out
      clear HA
      simp only [spec_l03Count.l1] at H
      by_cases c9 : x8_2 < (t203.length : Int)
      ·rw [if_pos c9] at H
       have c9b0 := decide_eq_true c9
       clear c9
       obtain ⟨c10, H⟩ := itn_ H
       have c10b0 := decide_eq_true c10
       clear c10
       obtain ⟨c11, H⟩ := itn_ H
       have c11b0 := decide_eq_true c11
       clear c11
       obtain ⟨c12, H⟩ := itn_ H
       have c12b0 := decide_eq_true c12
       clear c12
       obtain ⟨c13, H⟩ := itn_ H
       have c13b0 := decide_eq_true c13
       clear c13
       by_cases c14 : (rd (rd_L1 t203 x7_1) x8_2) > 0
       ·rw [if_pos c14] at H
        have c14b0 := decide_eq_true c14
        clear c14
        obtain ⟨t208, A15, H⟩ := bnd_ H
        by_cases c16 : t208 = true
        ·subst c16
         have H1 : (spec_l03Count.l1 k2 t203 (wrap64 (x6_2 + (rd (rd_L1 t203 x7_1) x8_2))) x7_1 (wrap64 (x8_2 + 1)) a0_0 l0_1) = some r := by rw [if_pos rfl] at H; exact H
         clear H
         have H := H1
         clear H1
         have H' := Aside0.mk H
         clear H
         have p206 : 0 ≤ (x7_1 : Int) := od_
         have q206 : x7_1 < (t203.length : Int) := od_
         obtain ⟨ad206, A206_0, c206_0, e206, hx206_0, hl206_0, hi206_0⟩ := at_L1 (Kd.S_reads' HO_5.out).2.2 x7_1 p206 q206
         cases e206
         obtain ⟨ce206, hce206, hMe206, hcc206⟩ := Kd.S_get HO_5.out [] x7_1 p206 (by first | exact q206 | exact od_ | (have e_ := (Kd.S_reads' HO_5.out).1; omega))
         obtain ⟨ve206_0, rfl, ge206_0⟩ := hMe206
         have hv206_0 := hcc206 0 _ rfl
         rw [Nat.add_zero, show ((Kd.slice 2 (Kd.int .i64))).sz = 1 from rfl, Nat.mul_one] at hv206_0
         replace hv206_0 := Option.some.inj (hv206_0.symm.trans hx206_0)
         rw [hv206_0] at ge206_0
         have HL206_0 := Aside0.mk (show Kd.R (Kd.int .i64) 2 _ _ _ _ (rd_L1 t203 x7_1) from ge206_0)
         clear hv206_0 ge206_0
         clear hcc206 hce206
         have HR206_0 := Aside0.mk hi206_0
         have HC206_0 := Aside0.mk hl206_0
         clear hi206_0 hl206_0
         replace p206 := eq_true p206
         replace q206 := eq_true q206
         have p207 : 0 ≤ (x8_2 : Int) := od_
         have q207 : x8_2 < ((rd_L1 t203 x7_1).length : Int) := od_
         obtain ⟨ad207, e207, hx207_0⟩ := Kd.at_int (by repeat (first | (with_reducible exact HR206_0.out) | (with_reducible refine Kd.C_alloc ?_ _) | (with_reducible refine Kd.C_drewN ?_ _) | (with_reducible refine Kd.C_drew ?_) | exact HR206_0.out)) x8_2 p207 q207
         cases e207
         replace p207 := eq_true p207
         replace q207 := eq_true q207
         have hcz17_0 : wr.cell? ⟨gb202, 0, none⟩ = some (.int .i64 a0_0) := (blk_cell BK202.out 0).trans rfl
         have hcz17_1 : wr.cell? ⟨gb202, 1, none⟩ = some (.slice A0_1 l0_1.length c0_1) := (blk_cell BK202.out 1).trans rfl
         have hfz17_0 := blk_frozen BK202.out 0
         have hfz17_1 := blk_frozen BK202.out 1
         go_wp2_with (first | (go_at_call 102; (with_reducible refine (spec_l03Next.calls a0_0 _ _ l0_1 x8_2 x7_1 true _ ?side1 ?side2 A15.out).mono ?_); (case side1 => exact Kd.C_below (Kd.C_below HR0_1.out HB.out) bgo_); (case side2 => exact HC0_1.out); rintro e w18 ⟨rfl, hb⟩; replace HO_5 := Aside0.mk (Kd.S_below (Kd.S_below HO_5.out bgo_) hb); replace HL206_0 := Aside0.mk (Kd.R_below (by (with_reducible repeat (first | apply Kd.R_alloc | apply Kd.R_drewN | apply Kd.R_drew)); exact HL206_0.out) hb); replace BK202 := Aside0.mk (blk_below (g := gb202) (o := .cells #[.int .i64 a0_0, .slice A0_1 l0_1.length c0_1] 29 (0, 0)) (blk_below BK202.out bgo_) hb); replace HR206_0 := Aside0.mk (Kd.C_below (by repeat (first | (with_reducible exact HR206_0.out) | (with_reducible refine Kd.C_alloc ?_ _) | (with_reducible refine Kd.C_drewN ?_ _) | (with_reducible refine Kd.C_drew ?_) | exact HR206_0.out)) hb); replace HB := Aside0.mk (below_step hbs_ hb); (try clear hb); (try clear hb2); (try clear hk); (try clear hi); have p209 : 0 ≤ (x7_1 : Int) := od_; have q209 : x7_1 < (t203.length : Int) := od_; obtain ⟨ad209, A209_0, c209_0, e209, hx209_0, hl209_0, hi209_0⟩ := at_L1 (Kd.S_reads' HO_5.out).2.2 x7_1 p209 q209; obtain rfl : ad206 = ad209 := (by injection e209); obtain ⟨ce209, hce209, hMe209, hcc209⟩ := Kd.S_get HO_5.out [] x7_1 p209 (by first | exact q209 | exact od_ | (have e_ := (Kd.S_reads' HO_5.out).1; omega)); obtain ⟨ve209_0, rfl, ge209_0⟩ := hMe209; have hv209_0 := hcc209 0 _ rfl; rw [Nat.add_zero, show ((Kd.slice 2 (Kd.int .i64))).sz = 1 from rfl, Nat.mul_one] at hv209_0; replace hv209_0 := Option.some.inj (hv209_0.symm.trans hx209_0); rw [hv209_0] at ge209_0; have HL209_0 := Aside0.mk (show Kd.R (Kd.int .i64) 2 _ _ _ _ (rd_L1 t203 x7_1) from ge209_0); clear hv209_0 ge209_0; clear hcc209 hce209; have HR209_0 := Aside0.mk hi209_0; have HC209_0 := Aside0.mk hl209_0; clear hi209_0 hl209_0; replace p209 := eq_true p209; replace q209 := eq_true q209; have p210 : 0 ≤ (x8_2 : Int) := od_; have q210 : x8_2 < ((rd_L1 t203 x7_1).length : Int) := od_; obtain ⟨ad210, e210, hx210_0⟩ := Kd.at_int (by repeat (first | (with_reducible exact HR209_0.out) | (with_reducible refine Kd.C_alloc ?_ _) | (with_reducible refine Kd.C_drewN ?_ _) | (with_reducible refine Kd.C_drew ?_) | exact HR209_0.out)) x8_2 p210 q210; cases e210; replace p210 := eq_true p210; replace q210 := eq_true q210))
         first | go_roundg k2 | (refine Handed.intro k2 ?measure ?_; rotate_left; go_step; (try simp only [add_plain]); (repeat apply Exists.intro); refine ⟨?rel, rfl⟩)
         case measure => have := HK1.out; have := HK2.out; omega
         case rel => exact ⟨(wrap64 (x6_2 + (rd (rd_L1 t203 x7_1) x8_2))), (wrap64 (x8_2 + 1)), es_, es_, H', ⟨by have := HK1.out; have := HK2.out; omega⟩, ⟨Kd.S_below HO_5.out bgo_⟩, ⟨blk_below BK202.out bgo_⟩, ⟨hbs_⟩⟩
        ·replace c16 := Bool.eq_false_iff.mpr c16
         subst c16
         have H1 : (spec_l03Count.l1 k2 t203 x6_2 x7_1 (wrap64 (x8_2 + 1)) a0_0 l0_1) = some r := by rw [if_neg (show ¬ (false = true) by decide)] at H; exact H
         clear H
         have H := H1
         clear H1
         have H' := Aside0.mk H
         clear H
         have p206 : 0 ≤ (x7_1 : Int) := od_
         have q206 : x7_1 < (t203.length : Int) := od_
         obtain ⟨ad206, A206_0, c206_0, e206, hx206_0, hl206_0, hi206_0⟩ := at_L1 (Kd.S_reads' HO_5.out).2.2 x7_1 p206 q206
         cases e206
         obtain ⟨ce206, hce206, hMe206, hcc206⟩ := Kd.S_get HO_5.out [] x7_1 p206 (by first | exact q206 | exact od_ | (have e_ := (Kd.S_reads' HO_5.out).1; omega))
         obtain ⟨ve206_0, rfl, ge206_0⟩ := hMe206
         have hv206_0 := hcc206 0 _ rfl
         rw [Nat.add_zero, show ((Kd.slice 2 (Kd.int .i64))).sz = 1 from rfl, Nat.mul_one] at hv206_0
         replace hv206_0 := Option.some.inj (hv206_0.symm.trans hx206_0)
         rw [hv206_0] at ge206_0
         have HL206_0 := Aside0.mk (show Kd.R (Kd.int .i64) 2 _ _ _ _ (rd_L1 t203 x7_1) from ge206_0)
         clear hv206_0 ge206_0
         clear hcc206 hce206
         have HR206_0 := Aside0.mk hi206_0
         have HC206_0 := Aside0.mk hl206_0
         clear hi206_0 hl206_0
         replace p206 := eq_true p206
         replace q206 := eq_true q206
         have p207 : 0 ≤ (x8_2 : Int) := od_
         have q207 : x8_2 < ((rd_L1 t203 x7_1).length : Int) := od_
         obtain ⟨ad207, e207, hx207_0⟩ := Kd.at_int (by repeat (first | (with_reducible exact HR206_0.out) | (with_reducible refine Kd.C_alloc ?_ _) | (with_reducible refine Kd.C_drewN ?_ _) | (with_reducible refine Kd.C_drew ?_) | exact HR206_0.out)) x8_2 p207 q207
         cases e207
         replace p207 := eq_true p207
         replace q207 := eq_true q207
         have hcz19_0 : wr.cell? ⟨gb202, 0, none⟩ = some (.int .i64 a0_0) := (blk_cell BK202.out 0).trans rfl
         have hcz19_1 : wr.cell? ⟨gb202, 1, none⟩ = some (.slice A0_1 l0_1.length c0_1) := (blk_cell BK202.out 1).trans rfl
         have hfz19_0 := blk_frozen BK202.out 0
         have hfz19_1 := blk_frozen BK202.out 1
         go_wp2_with (first | (go_at_call 102; (with_reducible refine (spec_l03Next.calls a0_0 _ _ l0_1 x8_2 x7_1 false _ ?side1 ?side2 A15.out).mono ?_); (case side1 => exact Kd.C_below (Kd.C_below HR0_1.out HB.out) bgo_); (case side2 => exact HC0_1.out); rintro e w20 ⟨rfl, hb⟩; replace HO_5 := Aside0.mk (Kd.S_below (Kd.S_below HO_5.out bgo_) hb); replace HL206_0 := Aside0.mk (Kd.R_below (by (with_reducible repeat (first | apply Kd.R_alloc | apply Kd.R_drewN | apply Kd.R_drew)); exact HL206_0.out) hb); replace BK202 := Aside0.mk (blk_below (g := gb202) (o := .cells #[.int .i64 a0_0, .slice A0_1 l0_1.length c0_1] 29 (0, 0)) (blk_below BK202.out bgo_) hb); replace HR206_0 := Aside0.mk (Kd.C_below (by repeat (first | (with_reducible exact HR206_0.out) | (with_reducible refine Kd.C_alloc ?_ _) | (with_reducible refine Kd.C_drewN ?_ _) | (with_reducible refine Kd.C_drew ?_) | exact HR206_0.out)) hb); replace HB := Aside0.mk (below_step hbs_ hb); (try clear hb); (try clear hb2); (try clear hk); (try clear hi)))
         first | go_roundg k2 | (refine Handed.intro k2 ?measure ?_; rotate_left; go_step; (try simp only [add_plain]); (repeat apply Exists.intro); refine ⟨?rel, rfl⟩)
         case measure => have := HK1.out; have := HK2.out; omega
         case rel => exact ⟨(x6_2), (wrap64 (x8_2 + 1)), es_, es_, H', ⟨by have := HK1.out; have := HK2.out; omega⟩, ⟨Kd.S_below HO_5.out bgo_⟩, ⟨blk_below BK202.out bgo_⟩, ⟨hbs_⟩⟩
       ·rw [if_neg c14] at H
        have c14b0 := decide_eq_false c14
        clear c14
        have H' := Aside0.mk H
        clear H
        have p206 : 0 ≤ (x7_1 : Int) := od_
        have q206 : x7_1 < (t203.length : Int) := od_
        obtain ⟨ad206, A206_0, c206_0, e206, hx206_0, hl206_0, hi206_0⟩ := at_L1 (Kd.S_reads' HO_5.out).2.2 x7_1 p206 q206
        cases e206
        obtain ⟨ce206, hce206, hMe206, hcc206⟩ := Kd.S_get HO_5.out [] x7_1 p206 (by first | exact q206 | exact od_ | (have e_ := (Kd.S_reads' HO_5.out).1; omega))
        obtain ⟨ve206_0, rfl, ge206_0⟩ := hMe206
        have hv206_0 := hcc206 0 _ rfl
        rw [Nat.add_zero, show ((Kd.slice 2 (Kd.int .i64))).sz = 1 from rfl, Nat.mul_one] at hv206_0
        replace hv206_0 := Option.some.inj (hv206_0.symm.trans hx206_0)
        rw [hv206_0] at ge206_0
        have HL206_0 := Aside0.mk (show Kd.R (Kd.int .i64) 2 _ _ _ _ (rd_L1 t203 x7_1) from ge206_0)
        clear hv206_0 ge206_0
        clear hcc206 hce206
        have HR206_0 := Aside0.mk hi206_0
        have HC206_0 := Aside0.mk hl206_0
        clear hi206_0 hl206_0
        replace p206 := eq_true p206
        replace q206 := eq_true q206
        have p207 : 0 ≤ (x8_2 : Int) := od_
        have q207 : x8_2 < ((rd_L1 t203 x7_1).length : Int) := od_
        obtain ⟨ad207, e207, hx207_0⟩ := Kd.at_int (by repeat (first | (with_reducible exact HR206_0.out) | (with_reducible refine Kd.C_alloc ?_ _) | (with_reducible refine Kd.C_drewN ?_ _) | (with_reducible refine Kd.C_drew ?_) | exact HR206_0.out)) x8_2 p207 q207
        cases e207
        replace p207 := eq_true p207
        replace q207 := eq_true q207
        go_wp2
        first | go_roundg k2 | (refine Handed.intro k2 ?measure ?_; rotate_left; go_step; (try simp only [add_plain]); (repeat apply Exists.intro); refine ⟨?rel, rfl⟩)
        case measure => have := HK1.out; have := HK2.out; omega
        case rel => exact ⟨(x6_2), (wrap64 (x8_2 + 1)), es_, es_, H', ⟨by have := HK1.out; have := HK2.out; omega⟩, ⟨Kd.S_below HO_5.out bgo_⟩, ⟨blk_below BK202.out bgo_⟩, ⟨hbs_⟩⟩
      ·rw [if_neg c9] at H
       have c9b0 := decide_eq_false c9
       clear c9
       have H' := Aside0.mk H
       clear H
       go_wp2
       first | go_roundg k2 | (refine Handed.intro k2 ?measure ?_; rotate_left; go_step; (try simp only [add_plain]); (repeat apply Exists.intro); refine ⟨?rel, rfl⟩)
       case measure => have := HK1.out; have := HK2.out; omega
       case rel => exact ⟨(x6_2), (wrap64 (x7_1 + 1)), es_, es_, H', ⟨by have := HK1.out; have := HK2.out; omega⟩, ⟨Kd.S_below HO_5.out bgo_⟩, ⟨blk_below BK202.out bgo_⟩, ⟨hbs_⟩⟩
   ·rw [if_neg c7] at H
    have c7b0 := decide_eq_false c7
    clear c7
    obtain rfl := Option.some.inj H
    obtain ⟨Ao21, co21, eo21⟩ := Kd.S_slice HO_5.out
    subst eo21
    go_wp2
    go_ret
    exact ⟨er_, hbs_⟩

end Go.Proofs.Ytipigagbgpoecaa.G
