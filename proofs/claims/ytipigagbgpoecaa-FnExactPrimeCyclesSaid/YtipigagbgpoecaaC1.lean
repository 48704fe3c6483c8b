/- The printed functions that this law reaches, and their contracts: part 1. -/
-- printed by this repo's wip/printer out of the kit's print with its own changes
import Derived.Test.YtipigagbgpoecaaC0
namespace Go.Proofs.Ytipigagbgpoecaa.G
open Go.RowKit Go.Proofs.YtipigagbgpoecaaW.PrintWords Go.Proofs.YtipigagbgpoecaaW.PrintLast Go.Proofs.YtipigagbgpoecaaW.PrintMore
attribute [local go_sem] max2_int min2_int max_two min_two max_three min_three max_four min_four   -- for this text's walks alone
set_option linter.unusedVariables false
set_option linter.unusedSimpArgs false

/-! ### spec_l03Rows: function 63 -/
mutual
def spec_l03Rows.l0 : Nat → Int → Int → List (List Int) → Int → Int → List (List Int) → Option ((List (List Int)))
 | 0, _, _, _, _, _, _ => none
 | k + 1, x1, x5, x6, x7, x184000, x184001 => if x7 < x5 then (if 0 ≤ x5 then (if (x5 : Int).toNat ≤ 35184372088832 then ((some (List.replicate (x5 : Int).toNat 0 : List Int)).bind fun y187 => (if 0 ≤ x7 then (if x7 < (y187.length : Int) then (spec_l03Rows.l1 k x1 x5 x6 x7 (y187.set (x7 : Int).toNat 1) 1 x184000 x184001) else (none)) else (none))) else (none)) else (none)) else (some x6)
def spec_l03Rows.l1 : Nat → Int → Int → List (List Int) → Int → List Int → Int → Int → List (List Int) → Option ((List (List Int)))
 | 0, _, _, _, _, _, _, _, _ => none
 | k + 1, x1, x5, x6, x7, x8, x9, x184000, x184001 => if x9 < x1 then (if 0 ≤ x5 then (if (x5 : Int).toNat ≤ 35184372088832 then (spec_l03Rows.l2 k x1 x5 x6 x7 x8 x9 (List.replicate (x5 : Int).toNat 0) 0 x184000 x184001) else (none)) else (none)) else (if x6.length < 5864062014805 then (spec_l03Rows.l0 k x1 x5 (x6 ++ [x8]) (wrap64 (x7 + 1)) x184000 x184001) else (none))
def spec_l03Rows.l2 : Nat → Int → Int → List (List Int) → Int → List Int → Int → List Int → Int → Int → List (List Int) → Option ((List (List Int)))
 | 0, _, _, _, _, _, _, _, _, _, _ => none
 | k + 1, x1, x5, x6, x7, x8, x9, x10, x11, x184000, x184001 => if x11 < x5 then (spec_l03Rows.l3 k x1 x5 x6 x7 x8 x9 x10 x11 0 x184000 x184001) else (spec_l03Rows.l1 k x1 x5 x6 x7 x10 (wrap64 (x9 + 1)) x184000 x184001)
def spec_l03Rows.l3 : Nat → Int → Int → List (List Int) → Int → List Int → Int → List Int → Int → Int → Int → List (List Int) → Option ((List (List Int)))
 | 0, _, _, _, _, _, _, _, _, _, _, _ => none
 | k + 1, x1, x5, x6, x7, x8, x9, x10, x11, x12, x184000, x184001 => if x12 < x5 then (if 0 ≤ x11 then (if x11 < (x8.length : Int) then (spec_l03Rows.j4 k x1 x5 x6 x7 x8 x9 x10 x11 x12 (decide ((rd x8 x11) > 0)) x184000 x184001) else (none)) else (none)) else (spec_l03Rows.j4 k x1 x5 x6 x7 x8 x9 x10 x11 x12 false x184000 x184001)
def spec_l03Rows.j4 : Nat → Int → Int → List (List Int) → Int → List Int → Int → List Int → Int → Int → Bool → Int → List (List Int) → Option ((List (List Int)))
 | 0, _, _, _, _, _, _, _, _, _, _, _, _ => none
 | k + 1, x1, x5, x6, x7, x8, x9, x10, x11, x12, x49, x184000, x184001 => if x49 = true then ((spec_l03Next.f x184000 x184001 x11 x12).bind fun t198 => (if t198 = true then (if 0 ≤ x12 then (if x12 < (x10.length : Int) then (if 0 ≤ x11 then (if x11 < (x8.length : Int) then (spec_l03Rows.l3 k x1 x5 x6 x7 x8 x9 (x10.set (x12 : Int).toNat (wrap64 ((rd x10 x12) + (rd x8 x11)))) x11 (wrap64 (x12 + 1)) x184000 x184001) else (none)) else (none)) else (none)) else (none)) else (spec_l03Rows.l3 k x1 x5 x6 x7 x8 x9 x10 x11 (wrap64 (x12 + 1)) x184000 x184001))) else (spec_l03Rows.l2 k x1 x5 x6 x7 x8 x9 x10 (wrap64 (x11 + 1)) x184000 x184001)
end
def spec_l03Rows.f (k : Nat) (a0_0 : Int) (l0_1 : List (List Int)) (a1 : Int) : Option ((List (List Int))) := spec_l03Rows.l0 k a1 (wrap64 (2 * (l0_1.length : Int))) (([] : List (List Int))) 0 a0_0 l0_1
def spec_l03Rows.T19 : Bool × List (List Nat × List Nat) := (true, [([], []), ([], []), ([], []), ([], []), ([2, 3], [2, 3]), ([4], [4]), ([], []), ([], []), ([6, 7], [6, 7]), ([8], [8]), ([5, 9], [5, 9]), ([0, 1, 0, 1, 2, 3, 4, 5, 6, 7, 8, 9, 10], [0, 1]), ([11, 10, 0, 1, 2, 3, 4, 5, 6, 7, 8, 9, 10], [10, 11])])
def spec_l03Rows.B19 : List Nat := [0, 0, 0, 0, 12, 28, 0, 0, 192, 448, 1020, 2047, 4095]
theorem spec_l03Rows.tab19 : rtab .any (opsOf Try.f63 19) = spec_l03Rows.T19 := by kernel_rfl
theorem spec_l03Rows.bits19 : waitsOk spec_l03Rows.T19.2 spec_l03Rows.B19 = true := by kernel_rfl
set_option maxHeartbeats 8000000 in
set_option maxRecDepth 100000 in
theorem spec_l03Rows.calls (k : Nat) (a0_0 : Int) (A0_1 : Option Addr) (c0_1 : Nat) (l0_1 : List (List Int)) (a1 : Int) (r : List (List Int)) (w : World) (hr0_1 : Kd.C (Kd.slice 2 (Kd.int .i64)) w A0_1 l0_1.length l0_1) (hc0_1 : l0_1.length ≤ c0_1) (h : spec_l03Rows.f k a0_0 l0_1 a1 = some r) :
  Calls Try.prog 63 #[.agg #[.int .i64 a0_0, .slice A0_1 l0_1.length c0_1], .int .i64 a1] w fun e w' => ∃ v0_ : Value, e = .returned (v0_) ∧ Kd.S (Kd.slice 2 (Kd.int .i64)) 26 w' w.heap.size (fun _ => True) v0_ r ∧ Below w.heap.size w w' := by
 have hu29 := Try.underlying29
 have HR0_1 := Aside0.mk hr0_1
 have HC0_1 := Aside0.mk hc0_1
 clear hr0_1 hc0_1
 have HB := Aside0.mk (Below.refl w.heap.size w)
 have H : (spec_l03Rows.l0 k a1 (wrap64 (2 * (l0_1.length : Int))) (([] : List (List Int))) 0 a0_0 l0_1) = some r := h
 clear h
 obtain ⟨y184, Ny184, H⟩ : ∃ y184 : List (List Int), Aside0 (y184 = (([] : List (List Int)))) ∧ (spec_l03Rows.l0 k a1 (wrap64 (2 * (l0_1.length : Int))) y184 0 a0_0 l0_1) = some r := ⟨_, ⟨rfl⟩, H⟩
 have H' := Aside0.mk H
 clear H
 go_enter Try.func63, Try.ntmps63
 go_wp2_with (first | ((with_reducible refine gate_dst (N := 2) rfl ?_); refine box_event ?hg (N := 2) ?hd (cs := #[.int .i64 a0_0, .slice A0_1 l0_1.length c0_1]) (t := 29) ?hr ?_; (case hd => rfl); (case hg => rfl); (case hr => first | (go_simp; done) | (go_simp; rfl)); intro gb183 hg w3 hbox hb; have BK183 := Aside0.mk (hbox); have GW183 := Aside0.mk ((by rw [hg]; exact (below_size hb_) : w.heap.size ≤ gb183)); have GE183 := Aside0.mk ((by rw [hg]; exact (below_size hb_) : w.heap.size ≤ gb183)); replace HB := Aside0.mk (below_step hb_ hb); clear hb hbox hg; have hcz4_0 : w3.cell? ⟨gb183, 0, none⟩ = some (.int .i64 a0_0) := (blk_cell BK183.out 0).trans rfl; have hcz4_1 : w3.cell? ⟨gb183, 1, none⟩ = some (.slice A0_1 l0_1.length c0_1) := (blk_cell BK183.out 1).trans rfl; have hfz4_0 := blk_frozen BK183.out 0; have hfz4_1 := blk_frozen BK183.out 1) | ((with_reducible refine gate_dst (N := 17) rfl ?_); refine Kd.S_lit (Kd.slice 2 (Kd.int .i64)) _ 26 ?hg (N := 17) ?hd (xs := ([] : List (List Int))) (inner := []) (ok := fun _ => True) (okp := fun _ => True) ?hr ?hp (fun _ hk => hk) trivial (Below.refl _ _) (Nat.le_refl _) (by simp) ?_; (case hd => rfl); (case hg => rfl); (case hr => first | (go_simp; done) | (go_simp; rfl)); (case hp => exact (Reps.none _ _)); intro v185 w5 ho6 hb hg_ hnew_; clear hg_ hnew_; (first | rw [← Ny184.out] at ho6 | (simp only [Int.reduceToNat] at ho6; rw [← Ny184.out] at ho6)); have HO186 := Aside0.mk (Kd.S_lower ho6 (below_size hbs_)); replace BK183 := Aside0.mk (blk_below (g := gb183) (o := .cells #[.int .i64 a0_0, .slice A0_1 l0_1.length c0_1] 29 (0, 0)) (blk_below BK183.out bgo_) hb); replace HB := Aside0.mk (below_step hbs_ hb); clear hb ho6))
 go_loopg [6, 7] k (fun kq v6 v7 w' => ∃ (x6_1 : List (List Int)) (x7_1 : Int), v7 = .int .i64 x7_1 ∧ Aside0 (spec_l03Rows.l0 kq a1 (wrap64 (2 * (l0_1.length : Int))) x6_1 x7_1 a0_0 l0_1 = some r) ∧ Aside0 (kq ≤ k) ∧ Aside0 (Kd.S (Kd.slice 2 (Kd.int .i64)) 26 w' w.heap.size (fun _ => True) v6 x6_1) ∧ Aside0 (w'.heap[gb183]? = some (.cells #[.int .i64 a0_0, (.slice A0_1 l0_1.length c0_1)] 29 (0, 0))) ∧ Aside0 (Below w.heap.size w w'))
 case atStart => exact ⟨(y184), (0), es_, H', ⟨Nat.le_refl _⟩, ⟨Kd.S_below HO186.out bgo_⟩, ⟨blk_below BK183.out bgo_⟩, ⟨hbs_⟩⟩
 case round =>
  clear H'
  obtain ⟨x6_1, x7_1, rfl, HA, HK1, HO_6, BK183, HB⟩ := hrel
  cases gk with
  | zero => exact absurd HA.out (by simp [spec_l03Rows.l0])
  | succ k1 =>
   have H := HA.out
   clear HA
   simp only [spec_l03Rows.l0] at H
   by_cases c7 : x7_1 < (wrap64 (2 * (l0_1.length : Int)))
   ·rw [if_pos c7] at H
    have c7b0 := decide_eq_true c7
    clear c7
    obtain ⟨ji8, hji8⟩ : ∃ j_ : Int, (wrap64 (2 * (l0_1.length : Int))) = j_ := ⟨_, rfl⟩
    (try rw [hji8])
    replace H : (if 0 ≤ (ji8) then (if ((ji8) : Int).toNat ≤ 35184372088832 then ((some (List.replicate ((ji8) : Int).toNat 0 : List Int)).bind fun y187 => (if 0 ≤ x7_1 then (if x7_1 < (y187.length : Int) then (spec_l03Rows.l1 k1 a1 (ji8) x6_1 x7_1 (y187.set (x7_1 : Int).toNat 1) 1 a0_0 l0_1) else (none)) else (none))) else (none)) else (none)) = some r := by first | (rw [hji8] at H; exact H) | (simp only [hji8] at H ⊢; exact H)
    (try rw [hji8] at c7b0)
    have hji8w : (IntKind.i64.wrap (2 * (l0_1.length : Int))) = ji8 := (i64_w _).trans hji8
    obtain ⟨c9, H⟩ := itn_ H
    have c9b0 := eq_true c9
    have c9b1 := decide_eq_true c9
    clear c9
    obtain ⟨c10, H⟩ := itn_ H
    have c10b0 := eq_true c10
    have c10b1 := decide_eq_true c10
    clear c10
    obtain ⟨y187, Ny187, H⟩ : ∃ y187 : List Int, Aside0 (y187 = (List.replicate ((ji8) : Int).toNat 0)) ∧ (if 0 ≤ x7_1 then (if x7_1 < (y187.length : Int) then (spec_l03Rows.l1 k1 a1 (ji8) x6_1 x7_1 (y187.set (x7_1 : Int).toNat 1) 1 a0_0 l0_1) else (none)) else (none)) = some r := ⟨_, ⟨rfl⟩, H⟩
    obtain ⟨c11, H⟩ := itn_ H
    have c11b0 := decide_eq_true c11
    clear c11
    obtain ⟨c12, H⟩ := itn_ H
    have c12b0 := decide_eq_true c12
    clear c12
    obtain ⟨y190, Ny190, H⟩ : ∃ y190 : List Int, Aside0 (y190 = (y187.set (x7_1 : Int).toNat 1)) ∧ (spec_l03Rows.l1 k1 a1 (ji8) x6_1 x7_1 y190 1 a0_0 l0_1) = some r := ⟨_, ⟨rfl⟩, H⟩
    have H' := Aside0.mk H
    clear H
    go_wp2_with (first | ((with_reducible refine gate_dst (N := 24) rfl ?_); refine Kd.R_make (Kd.int .i64) _ 2 rfl (N := 24) rfl 26 _ _ rfl (ji8) rfl rfl Try.underlying26 (.int .i64 0) 8 info2 rfl (by decide) (by omega) 0 (ok := fun _ => True) (okp := fun _ => True) rfl (fun _ hk => hk) trivial (od_) (Nat.le_trans (Nat.mul_le_mul_right _ (od_ : (ji8).toNat ≤ 35184372088832)) (by omega)) (Below.refl _ _) (Nat.le_refl _) ?_; intro v188 w14 ho15 hb hg_ hnew_; clear hg_ hnew_; (first | rw [← Ny187.out] at ho15 | (simp only [Int.reduceToNat] at ho15; rw [← Ny187.out] at ho15)); replace HO_6 := Aside0.mk (Kd.S_elder' (Kd.S_below HO_6.out bgo_) (Kd.R_base ho15) hb); have HO189 := Aside0.mk (Kd.R_lower ho15 (below_size hbs_)); replace BK183 := Aside0.mk (blk_below (g := gb183) (o := .cells #[.int .i64 a0_0, .slice A0_1 l0_1.length c0_1] 29 (0, 0)) (blk_below BK183.out bgo_) hb); replace HB := Aside0.mk (below_step hbs_ hb); clear hb ho15; have p13 : 0 ≤ (x7_1 : Int) := od_; have q13 : (x7_1 : Int) < ((y187.length : Int) : Int) := od_; obtain ⟨go13, co13, eo13, gb13, gl13, cl13, HG13⟩ := Kd.R_form HO189.out (by omega); (first | cases eo13 | (injection eo13 with ea_ en_ ec_; (first | subst ea_ | (injection ea_ with ea_; subst ea_)); subst ec_; clear en_)); have GB13 := Aside0.mk gb13; have GG13 := Aside0.mk HG13; clear gb13 gl13 HG13; obtain ⟨hx13_0, hf13_0⟩ := Kd.R_celln 0 HO189.out (x7_1 : Int) p13 q13; replace p13 := eq_true p13; replace q13 := eq_true q13; obtain ⟨hy16_, hz16_⟩ := Kd.R_celln 0 HO189.out (x7_1 : Int) (od_) (od_); have HP16 := Kd.R_putg HO189.out (x7_1 : Int) 1) | ((with_reducible refine gate_store (t := 2) (p := 27) rfl ?_); refine store_event (t := 2) (p := 27) (v := ?vo_w17) (w1 := (w14.setCell ⟨go13, (x7_1 : Int).toNat, none⟩ (.int .i64 1))) ?hg ?ho ?hn ?hr ?_; (case ho => rfl); (case hg => rfl); (case hn => rfl); (case hr => first | (go_simp; done) | (go_simp; rfl)); intro w17 hw; have hg : w14.grownBy w17 (some go13) := (by rw [hw]; exact HP16.2); have hp_ : Kd.R (Kd.int .i64) 2 w17 w.heap.size (fun _ => True) (.slice (some ⟨go13, 0, none⟩) y187.length co13) y190 := (by rw [hw, Ny190.out]; exact HP16.1); clear HP16; replace HO_6 := Aside0.mk (Kd.S_after (v := (.slice (some ⟨go13, 0, none⟩) y187.length co13)) (v1 := (.slice (some ⟨go13, 0, none⟩) y187.length co13)) (ok := (fun _ => True)) (Kd.S_below HO_6.out bgo_) hg (.inl rfl)); replace BK183 := Aside0.mk (blk_grown (g := gb183) (o := .cells #[.int .i64 a0_0, .slice A0_1 l0_1.length c0_1] 29 (0, 0)) (blk_below BK183.out bgo_) hg (Kd.R_ne HO189.out BK183.out (by decide))); replace HO189 := Aside0.mk (hp_); replace HB := Aside0.mk ((by rw [hw]; exact below_set (HB.out) GB13.out : Below w.heap.size w w17)); clear hg hw hp_))
    go_loopg [8, 9] k1 (fun kq v8 v9 w' => ∃ (x8_2 : List Int) (x9_2 : Int), v9 = .int .i64 x9_2 ∧ Aside0 (spec_l03Rows.l1 kq a1 (ji8) x6_1 x7_1 x8_2 x9_2 a0_0 l0_1 = some r) ∧ Aside0 (kq ≤ k1) ∧ Aside0 (Kd.S (Kd.slice 2 (Kd.int .i64)) 26 w' w.heap.size (fun k_ => some k_ ≠ (v8 : Value).ownBlock) u6 x6_1) ∧ Aside0 (Kd.R (Kd.int .i64) 2 w' w.heap.size (fun _ => True) v8 x8_2) ∧ Aside0 (w'.heap[gb183]? = some (.cells #[.int .i64 a0_0, (.slice A0_1 l0_1.length c0_1)] 29 (0, 0))) ∧ Aside0 (Below w.heap.size w w'))
    case atStart => exact ⟨(y190), (1), es_, H', ⟨Nat.le_refl _⟩, ⟨by (with_reducible repeat (first | apply Kd.S_alloc | apply Kd.S_drewN | apply Kd.S_drew)); exact Kd.S_mono HO_6.out (fun _ hk => hk.2)⟩, ⟨Kd.R_below HO189.out bgo_⟩, ⟨blk_below BK183.out bgo_⟩, ⟨hbs_⟩⟩
    case round =>
     clear H'
     obtain ⟨x8_2, x9_2, rfl, HA, HK2, HO_6, HO_8, BK183, HB⟩ := hrel
     cases gk with
     | zero => exact absurd HA.out (by simp [spec_l03Rows.l1])
     | succ k2 =>
      have H := HA.out
      clear HA
      simp only [spec_l03Rows.l1] at H
      by_cases c18 : x9_2 < a1
      ·rw [if_pos c18] at H
       have c18b0 := decide_eq_true c18
       clear c18
       obtain ⟨c19, H⟩ := itn_ H
       have c19b0 := eq_true c19
       have c19b1 := decide_eq_true c19
       clear c19
       obtain ⟨c20, H⟩ := itn_ H
       have c20b0 := eq_true c20
       have c20b1 := decide_eq_true c20
       clear c20
       obtain ⟨y194, Ny194, H⟩ : ∃ y194 : List Int, Aside0 (y194 = (List.replicate ((ji8) : Int).toNat 0)) ∧ (spec_l03Rows.l2 k2 a1 (ji8) x6_1 x7_1 x8_2 x9_2 y194 0 a0_0 l0_1) = some r := ⟨_, ⟨rfl⟩, H⟩
       have H' := Aside0.mk H
       clear H
       go_wp2_with (first | ((with_reducible refine gate_dst (N := 34) rfl ?_); refine Kd.R_make (Kd.int .i64) _ 2 rfl (N := 34) rfl 26 _ _ rfl (ji8) rfl rfl Try.underlying26 (.int .i64 0) 8 info2 rfl (by decide) (by omega) 0 (ok := fun _ => True) (okp := fun _ => True) rfl (fun _ hk => hk) trivial (od_) (Nat.le_trans (Nat.mul_le_mul_right _ (od_ : (ji8).toNat ≤ 35184372088832)) (by omega)) (Below.refl _ _) (Nat.le_refl _) ?_; intro v195 w21 ho22 hb hg_ hnew_; clear hg_ hnew_; (first | rw [← Ny194.out] at ho22 | (simp only [Int.reduceToNat] at ho22; rw [← Ny194.out] at ho22)); replace HO_6 := Aside0.mk (Kd.S_elder' (Kd.S_below HO_6.out bgo_) (Kd.R_base ho22) hb); have HO196 := Aside0.mk (Kd.R_lower (Kd.R_new' ho22 (Kd.R_lt (Kd.R_below HO_8.out bgo_))) (below_size hbs_)); replace HO_8 := Aside0.mk (Kd.R_elder' (Kd.R_below HO_8.out bgo_) (Kd.R_base ho22) hb); replace BK183 := Aside0.mk (blk_below (g := gb183) (o := .cells #[.int .i64 a0_0, .slice A0_1 l0_1.length c0_1] 29 (0, 0)) (blk_below BK183.out bgo_) hb); replace HB := Aside0.mk (below_step hbs_ hb); clear hb ho22))
       go_loopg [11] k2 (fun kq v11 w' => ∃ (x10_3 : List Int) (x11_3 : Int), v11 = .int .i64 x11_3 ∧ Aside0 (spec_l03Rows.l2 kq a1 (ji8) x6_1 x7_1 x8_2 x9_2 x10_3 x11_3 a0_0 l0_1 = some r) ∧ Aside0 (kq ≤ k2) ∧ Aside0 (Kd.S (Kd.slice 2 (Kd.int .i64)) 26 w' w.heap.size (fun k_ => some k_ ≠ (u8 : Value).ownBlock ∧ some k_ ≠ (v195 : Value).ownBlock) u6 x6_1) ∧ Aside0 (Kd.R (Kd.int .i64) 2 w' w.heap.size (fun k_ => some k_ ≠ (v195 : Value).ownBlock) u8 x8_2) ∧ Aside0 (Kd.R (Kd.int .i64) 2 w' w.heap.size (fun k_ => some k_ ≠ (u8 : Value).ownBlock) v195 x10_3) ∧ Aside0 (w'.heap[gb183]? = some (.cells #[.int .i64 a0_0, (.slice A0_1 l0_1.length c0_1)] 29 (0, 0))) ∧ Aside0 (Below w.heap.size w w'))
       case atStart => exact ⟨(y194), (0), es_, H', ⟨Nat.le_refl _⟩, ⟨Kd.S_below HO_6.out bgo_⟩, ⟨by (with_reducible repeat (first | apply Kd.R_alloc | apply Kd.R_drewN | apply Kd.R_drew)); exact Kd.R_mono HO_8.out (fun _ hk => hk.2)⟩, ⟨by (with_reducible repeat (first | apply Kd.R_alloc | apply Kd.R_drewN | apply Kd.R_drew)); exact Kd.R_mono HO196.out (fun _ hk => hk.2)⟩, ⟨blk_below BK183.out bgo_⟩, ⟨hbs_⟩⟩
       case round =>
        clear H'
        obtain ⟨x10_3, x11_3, rfl, HA, HK3, HO_6, HO_8, HO_10, BK183, HB⟩ := hrel
        cases gk with
        | zero => exact absurd HA.out (by simp [spec_l03Rows.l2])
        | succ k3 =>
         have H := HA.out
         clear HA
         simp only [spec_l03Rows.l2] at H
         by_cases c23 : x11_3 < (ji8)
         ·rw [if_pos c23] at H
          have c23b0 := decide_eq_true c23
          clear c23
          have H' := Aside0.mk H
          clear H
          go_wp2
          go_loopg [12] k3 (fun kq v12 w' => ∃ (x10_4 : List Int) (x12_4 : Int), v12 = .int .i64 x12_4 ∧ Aside0 (spec_l03Rows.l3 kq a1 (ji8) x6_1 x7_1 x8_2 x9_2 x10_4 x11_3 x12_4 a0_0 l0_1 = some r) ∧ Aside0 (kq ≤ k3) ∧ Aside0 (Kd.S (Kd.slice 2 (Kd.int .i64)) 26 w' w.heap.size (fun k_ => some k_ ≠ (u8 : Value).ownBlock ∧ some k_ ≠ (v195 : Value).ownBlock) u6 x6_1) ∧ Aside0 (Kd.R (Kd.int .i64) 2 w' w.heap.size (fun k_ => some k_ ≠ (v195 : Value).ownBlock) u8 x8_2) ∧ Aside0 (Kd.R (Kd.int .i64) 2 w' w.heap.size (fun k_ => some k_ ≠ (u8 : Value).ownBlock) v195 x10_4) ∧ Aside0 (w'.heap[gb183]? = some (.cells #[.int .i64 a0_0, (.slice A0_1 l0_1.length c0_1)] 29 (0, 0))) ∧ Aside0 (Below w.heap.size w w'))
          case atStart => exact ⟨(x10_3), (0), es_, H', ⟨Nat.le_refl _⟩, ⟨Kd.S_below HO_6.out bgo_⟩, ⟨Kd.R_below HO_8.out bgo_⟩, ⟨Kd.R_below HO_10.out bgo_⟩, ⟨blk_below BK183.out bgo_⟩, ⟨hbs_⟩⟩
          case round =>
           clear H'
           obtain ⟨x10_4, x12_4, rfl, HA, HK4, HO_6, HO_8, HO_10, BK183, HB⟩ := hrel
           cases gk with
           | zero => exact absurd HA.out (by simp [spec_l03Rows.l3])
           | succ k4 =>
            have H := HA.out
            clear HA
            simp only [spec_l03Rows.l3] at H
            have HC24 := Aside0.mk H
            clear H
            go_upto_region 16 with (fail)
            go_cut [49] (fun v49 wc => ∃ (kq : Nat) (x49_23 : Bool), v49 = .bool x49_23 ∧ Aside0 (spec_l03Rows.j4 kq a1 (ji8) x6_1 x7_1 x8_2 x9_2 x10_4 x11_3 x12_4 x49_23 a0_0 l0_1 = some r) ∧ Aside0 (kq ≤ k4) ∧ Aside0 (Kd.S (Kd.slice 2 (Kd.int .i64)) 26 wc w.heap.size (fun k_ => some k_ ≠ (u8 : Value).ownBlock ∧ some k_ ≠ (v195 : Value).ownBlock) u6 x6_1) ∧ Aside0 (Kd.R (Kd.int .i64) 2 wc w.heap.size (fun k_ => some k_ ≠ (v195 : Value).ownBlock) u8 x8_2) ∧ Aside0 (Kd.R (Kd.int .i64) 2 wc w.heap.size (fun k_ => some k_ ≠ (u8 : Value).ownBlock) v195 x10_4) ∧ Aside0 (wc.heap[gb183]? = some (.cells #[.int .i64 a0_0, (.slice A0_1 l0_1.length c0_1)] 29 (0, 0))) ∧ Aside0 (Below w.heap.size w wc))
            case first =>
             have H := HC24.out
             clear HC24
             by_cases c25 : x12_4 < (ji8)
             ·rw [if_pos c25] at H
              have c25b0 := decide_eq_true c25
              clear c25
              (first | rw [c25b0] | (simp only [i64_w, i32_w]; rw [c25b0]) | skip)
              obtain ⟨c26, H⟩ := itn_ H
              have c26b0 := decide_eq_true c26
              clear c26
              obtain ⟨c27, H⟩ := itn_ H
              have c27b0 := decide_eq_true c27
              clear c27
              have H' := Aside0.mk H
              clear H
              obtain ⟨Ao28, co28, eo28⟩ := Kd.R_slice HO_8.out
              subst eo28
              have p197 : 0 ≤ (x11_3 : Int) := od_
              have q197 : x11_3 < (x8_2.length : Int) := od_
              obtain ⟨ad197, e197, hx197_0⟩ := Kd.at_int (Kd.R_reads' HO_8.out).2.2 x11_3 p197 q197
              cases e197
              replace p197 := eq_true p197
              replace q197 := eq_true q197
              go_wp2
              go_meet
              case rel => exact ⟨_, (decide ((rd x8_2 x11_3) > 0)), es_, H', ⟨by have := HK1.out; have := HK2.out; have := HK3.out; have := HK4.out; first | omega | exact Nat.le_refl _⟩, ⟨Kd.S_below HO_6.out bgo_⟩, ⟨Kd.R_below HO_8.out bgo_⟩, ⟨Kd.R_below HO_10.out bgo_⟩, ⟨blk_below BK183.out bgo_⟩, ⟨hbs_⟩⟩
             ·rw [if_neg c25] at H
              have c25b0 := decide_eq_false c25
              clear c25
              (first | rw [c25b0] | (simp only [i64_w, i32_w]; rw [c25b0]) | skip)
              have H' := Aside0.mk H
              clear H
              go_wp2
              go_meet
              case rel => exact ⟨_, (false), es_, H', ⟨by have := HK1.out; have := HK2.out; have := HK3.out; have := HK4.out; first | omega | exact Nat.le_refl _⟩, ⟨Kd.S_below HO_6.out bgo_⟩, ⟨Kd.R_below HO_8.out bgo_⟩, ⟨Kd.R_below HO_10.out bgo_⟩, ⟨blk_below BK183.out bgo_⟩, ⟨hbs_⟩⟩
            case rest =>
             clear HC24
             obtain ⟨kq, x49_23, rfl, HA, HJ23, HO_6, HO_8, HO_10, BK183, HB⟩ := hcut
             cases kq with
             | zero => exact absurd HA.out (by simp [spec_l03Rows.j4])
             | succ kj23 =>
              have H := HA.out
              clear HA
              simp only [spec_l03Rows.j4] at H
              by_cases c29 : x49_23 = true
              ·subst c29
               have H1 : ((spec_l03Next.f a0_0 l0_1 x11_3 x12_4).bind fun t198 => (if t198 = true then (if 0 ≤ x12_4 then (if x12_4 < (x10_4.length : Int) then (if 0 ≤ x11_3 then (if x11_3 < (x8_2.length : Int) then (spec_l03Rows.l3 kj23 a1 (ji8) x6_1 x7_1 x8_2 x9_2 (x10_4.set (x12_4 : Int).toNat (wrap64 ((rd x10_4 x12_4) + (rd x8_2 x11_3)))) x11_3 (wrap64 (x12_4 + 1)) a0_0 l0_1) else (none)) else (none)) else (none)) else (none)) else (spec_l03Rows.l3 kj23 a1 (ji8) x6_1 x7_1 x8_2 x9_2 x10_4 x11_3 (wrap64 (x12_4 + 1)) a0_0 l0_1))) = some r := by rw [if_pos rfl] at H; exact H
               clear H
               have H := H1
               clear H1
               obtain ⟨t198, A30, H⟩ := bnd_ H
               by_cases c31 : t198 = true
               ·subst c31
                have H1 : (if 0 ≤ x12_4 then (if x12_4 < (x10_4.length : Int) then (if 0 ≤ x11_3 then (if x11_3 < (x8_2.length : Int) then (spec_l03Rows.l3 kj23 a1 (ji8) x6_1 x7_1 x8_2 x9_2 (x10_4.set (x12_4 : Int).toNat (wrap64 ((rd x10_4 x12_4) + (rd x8_2 x11_3)))) x11_3 (wrap64 (x12_4 + 1)) a0_0 l0_1) else (none)) else (none)) else (none)) else (none)) = some r := by rw [if_pos rfl] at H; exact H
                clear H
                have H := H1
                clear H1
                obtain ⟨c32, H⟩ := itn_ H
                have c32b0 := decide_eq_true c32
                clear c32
                obtain ⟨c33, H⟩ := itn_ H
                have c33b0 := decide_eq_true c33
                clear c33
                obtain ⟨c34, H⟩ := itn_ H
                have c34b0 := decide_eq_true c34
                clear c34
                obtain ⟨c35, H⟩ := itn_ H
                have c35b0 := decide_eq_true c35
                clear c35
                obtain ⟨y201, Ny201, H⟩ : ∃ y201 : List Int, Aside0 (y201 = (x10_4.set (x12_4 : Int).toNat (wrap64 ((rd x10_4 x12_4) + (rd x8_2 x11_3))))) ∧ (spec_l03Rows.l3 kj23 a1 (ji8) x6_1 x7_1 x8_2 x9_2 y201 x11_3 (wrap64 (x12_4 + 1)) a0_0 l0_1) = some r := ⟨_, ⟨rfl⟩, H⟩
                have H' := Aside0.mk H
                clear H
                have hcz37_0 : wc.cell? ⟨gb183, 0, none⟩ = some (.int .i64 a0_0) := (blk_cell BK183.out 0).trans rfl
                have hcz37_1 : wc.cell? ⟨gb183, 1, none⟩ = some (.slice A0_1 l0_1.length c0_1) := (blk_cell BK183.out 1).trans rfl
                have hfz37_0 := blk_frozen BK183.out 0
                have hfz37_1 := blk_frozen BK183.out 1
                try go_wp2_with (first | ((with_reducible refine gate_callee (f := 102) rfl ?_); refine goesL_ (some 55) rfl rfl Try.func102 (by kernel_rfl) rfl #[.agg #[.int .i64 a0_0, .slice A0_1 l0_1.length c0_1], .int .i64 x11_3, .int .i64 x12_4] rfl arg_ ?_; (with_reducible refine (spec_l03Next.calls a0_0 _ _ l0_1 x11_3 x12_4 true _ ?side1 ?side2 A30.out).mono ?_); (case side1 => exact Kd.C_below (Kd.C_below HR0_1.out HB.out) bgo_); (case side2 => exact HC0_1.out); rintro e w38 ⟨rfl, hb⟩; refine ⟨_, rfl, ?_⟩; replace HO_6 := Aside0.mk (Kd.S_below (Kd.S_below HO_6.out bgo_) hb); replace HO_8 := Aside0.mk (Kd.R_below (Kd.R_below HO_8.out bgo_) hb); replace HO_10 := Aside0.mk (Kd.R_below (Kd.R_below HO_10.out bgo_) hb); replace BK183 := Aside0.mk (blk_below (g := gb183) (o := .cells #[.int .i64 a0_0, .slice A0_1 l0_1.length c0_1] 29 (0, 0)) (blk_below BK183.out bgo_) hb); replace HB := Aside0.mk (below_step hbs_ hb); (try clear hb); (try clear hb2); (try clear hk); (try clear hi)))
                have n0_ := Aside0.mk (Kd.S_drew HO_6.out)
                have n1_ := Aside0.mk (Kd.R_drew HO_8.out)
                have n2_ := Aside0.mk (Kd.R_drew HO_10.out)
                have n3_ := Aside0.mk (blk_drew BK183.out)
                have n4_ := Aside0.mk (below_drew1 HB.out)
                clear HO_6
                clear HO_8
                clear HO_10
                clear BK183
                clear HB
                have HO_6 := n0_
                have HO_8 := n1_
                have HO_10 := n2_
                have BK183 := n3_
                have HB := n4_
                clear n0_ n1_ n2_ n3_ n4_
                obtain ⟨Ao40, co40, eo40⟩ := Kd.R_slice HO_10.out
                (first | subst eo40 | (injection eo40 with f1_ f2_ f3_; have f4_ := f1_.symm; have f5_ := f3_.symm; clear f1_ f2_ f3_; subst f4_; subst f5_))
                have p199 : 0 ≤ (x12_4 : Int) := od_
                have q199 : x12_4 < (x10_4.length : Int) := od_
                obtain ⟨ad199, e199, hx199_0⟩ := Kd.at_int (Kd.R_reads' HO_10.out).2.2 x12_4 p199 q199
                cases e199
                replace p199 := eq_true p199
                replace q199 := eq_true q199
                obtain ⟨Ao41, co41, eo41⟩ := Kd.R_slice HO_8.out
                (first | subst eo41 | (injection eo41 with f1_ f2_ f3_; have f4_ := f1_.symm; have f5_ := f3_.symm; clear f1_ f2_ f3_; subst f4_; subst f5_))
                have p200 : 0 ≤ (x11_3 : Int) := od_
                have q200 : x11_3 < (x8_2.length : Int) := od_
                obtain ⟨ad200, e200, hx200_0⟩ := Kd.at_int (Kd.R_reads' HO_8.out).2.2 x11_3 p200 q200
                cases e200
                replace p200 := eq_true p200
                replace q200 := eq_true q200
                have p36 : 0 ≤ (x12_4 : Int) := od_
                have q36 : (x12_4 : Int) < ((x10_4.length : Int) : Int) := od_
                obtain ⟨go36, co36, eo36, gb36, gl36, cl36, HG36⟩ := Kd.R_form HO_10.out (by omega)
                (first | cases eo36 | (injection eo36 with ea_ en_ ec_; (first | subst ea_ | (injection ea_ with ea_; subst ea_)); subst ec_; clear en_))
                have GB36 := Aside0.mk gb36
                have GG36 := Aside0.mk HG36
                clear gb36 gl36 HG36
                (first | simp only [add_plain] at hx199_0 | skip)
                obtain ⟨hx36_0, hf36_0⟩ := Kd.R_celln 0 HO_10.out (x12_4 : Int) p36 q36
                replace p36 := eq_true p36
                replace q36 := eq_true q36
                have HP42 := Kd.R_putn HO_10.out (x12_4 : Int) (wrap64 ((rd x10_4 x12_4) + (rd x8_2 x11_3)))
                rw [← Ny201.out] at HP42
                have HQ42 := Aside0.mk HP42
                clear HP42
                refine start_ (n := 13) (S := fun w' => w'.cell? ⟨go36, (x12_4).toNat, none⟩ = some (.int .i64 (rd x10_4 x12_4)) ∧ w'.cell? (ad200.add (x11_3).toNat) = some (.int .i64 (rd x8_2 x11_3))) (ds := [12]) #[false, false, false, false, false, false, false, false, false, false, false, false, false] (by kernel_rfl) rfl rfl ⟨hx199_0, hx200_0⟩ (fun hHeld => ?_); refine with_tabW spec_l03Rows.tab19 spec_l03Rows.bits19 (fun HT_ HW_ => ?_)
                generalize w38.drew = w39 at HO_6 HO_8 HO_10 BK183 HB GG36 HQ42 hf36_0 hx199_0 hx200_0 hx36_0 hHeld ⊢
                refine pk_ 0 13 56 1 ?_
                refine pk_ 1 13 57 3 ?_
                refine pk_ 2 13 58 7 ?_
                refine pk_ 3 13 59 15 ?_
                refine pk_ 4 13 60 31 ?_
                refine pk_ 6 13 62 95 ?_
                refine pk_ 7 13 63 223 ?_
                refine pk_ 8 13 64 479 ?_
                refine tk_ 5 13 61 511 hHeld ?_
                refine tk_ 9 13 65 1023 hHeld ?_
                refine pk_ 10 13 66 2047 ?_
                refine pk_ 11 13 67 4095 ?_
                refine last_ (i := 12) (N := none) #[true, true, true, true, true, true, true, true, true, true, true, true, true] rfl rfl (one_of HT_.out (by kernel_rfl)) (by decide) (fun K hK => ?_)
                refine skip_ (w1 := ?_) (by rfl) rfl ?_ ?_
                rotate_left
                ·go_simp
                 rfl
                refine hK.out _ _ ?_
                clear hK K
                refine done_ (done_of HT_.out (by kernel_rfl)) ?_
                try go_wp2
                first | (first | go_roundg kj23 | (refine Handed.intro kj23 ?measure ?_; rotate_left; go_step; (try simp only [add_plain]); (repeat apply Exists.intro); refine ⟨?rel, rfl⟩)) | ((try subst hji8); (first | go_roundg kj23 | (refine Handed.intro kj23 ?measure ?_; rotate_left; go_step; (try simp only [add_plain]); (repeat apply Exists.intro); refine ⟨?rel, rfl⟩)))
                case measure => have := HK1.out; have := HK2.out; have := HK3.out; have := HK4.out; have := HJ23.out; omega
                case rel => exact ⟨(y201), (wrap64 (x12_4 + 1)), es_, H', ⟨by have := HK1.out; have := HK2.out; have := HK3.out; have := HK4.out; have := HJ23.out; omega⟩, ⟨by (with_reducible repeat (first | apply Kd.S_alloc | apply Kd.S_drewN | apply Kd.S_drew)); exact Kd.S_mono (Kd.S_far (p := ⟨go36, (x12_4 : Int).toNat, none⟩) (Kd.S_mono HO_6.out (fun k_ hk => (⟨hk, fun e_ => hk.2 (by rw [e_]; rfl)⟩ : _ ∧ k_ ≠ go36))) (fun _ hk => hk.2) (.int .i64 (wrap64 ((rd x10_4 x12_4) + (rd x8_2 x11_3))))) (fun _ hk => ⟨hk.1.1, hk.1.2⟩)⟩, ⟨by (with_reducible repeat (first | apply Kd.R_alloc | apply Kd.R_drewN | apply Kd.R_drew)); exact Kd.R_mono (Kd.R_far (p := ⟨go36, (x12_4 : Int).toNat, none⟩) (Kd.R_mono HO_8.out (fun k_ hk => (⟨hk, fun e_ => hk (by rw [e_]; rfl)⟩ : _ ∧ k_ ≠ go36))) (fun _ hk => hk.2) (.int .i64 (wrap64 ((rd x10_4 x12_4) + (rd x8_2 x11_3))))) (fun _ hk => hk.1)⟩, ⟨by (with_reducible repeat (first | apply Kd.R_alloc | apply Kd.R_drewN | apply Kd.R_drew)); exact HQ42.out⟩, ⟨by (with_reducible repeat (first | refine blk_drewN ?_ _ | refine blk_drew ?_ | refine blk_alloc ?_ _)); refine blk_far ?_ (by have h_ := Kd.R_ne HO_10.out BK183.out (by decide); intro e_; exact h_ (by rw [e_]; rfl)) _; (with_reducible repeat (first | refine blk_drewN ?_ _ | refine blk_drew ?_ | refine blk_alloc ?_ _)); exact BK183.out⟩, ⟨hbs_⟩⟩
               ·replace c31 := Bool.eq_false_iff.mpr c31
                subst c31
                have H1 : (spec_l03Rows.l3 kj23 a1 (ji8) x6_1 x7_1 x8_2 x9_2 x10_4 x11_3 (wrap64 (x12_4 + 1)) a0_0 l0_1) = some r := by rw [if_neg (show ¬ (false = true) by decide)] at H; exact H
                clear H
                have H := H1
                clear H1
                have H' := Aside0.mk H
                clear H
                have hcz43_0 : wc.cell? ⟨gb183, 0, none⟩ = some (.int .i64 a0_0) := (blk_cell BK183.out 0).trans rfl
                have hcz43_1 : wc.cell? ⟨gb183, 1, none⟩ = some (.slice A0_1 l0_1.length c0_1) := (blk_cell BK183.out 1).trans rfl
                have hfz43_0 := blk_frozen BK183.out 0
                have hfz43_1 := blk_frozen BK183.out 1
                go_wp2_with (first | ((with_reducible refine gate_callee (f := 102) rfl ?_); refine goesL_ (some 55) rfl rfl Try.func102 (by kernel_rfl) rfl #[.agg #[.int .i64 a0_0, .slice A0_1 l0_1.length c0_1], .int .i64 x11_3, .int .i64 x12_4] rfl arg_ ?_; (with_reducible refine (spec_l03Next.calls a0_0 _ _ l0_1 x11_3 x12_4 false _ ?side1 ?side2 A30.out).mono ?_); (case side1 => exact Kd.C_below (Kd.C_below HR0_1.out HB.out) bgo_); (case side2 => exact HC0_1.out); rintro e w44 ⟨rfl, hb⟩; refine ⟨_, rfl, ?_⟩; replace HO_6 := Aside0.mk (Kd.S_below (Kd.S_below HO_6.out bgo_) hb); replace HO_8 := Aside0.mk (Kd.R_below (Kd.R_below HO_8.out bgo_) hb); replace HO_10 := Aside0.mk (Kd.R_below (Kd.R_below HO_10.out bgo_) hb); replace BK183 := Aside0.mk (blk_below (g := gb183) (o := .cells #[.int .i64 a0_0, .slice A0_1 l0_1.length c0_1] 29 (0, 0)) (blk_below BK183.out bgo_) hb); replace HB := Aside0.mk (below_step hbs_ hb); (try clear hb); (try clear hb2); (try clear hk); (try clear hi)))
                first | (first | go_roundg kj23 | (refine Handed.intro kj23 ?measure ?_; rotate_left; go_step; (try simp only [add_plain]); (repeat apply Exists.intro); refine ⟨?rel, rfl⟩)) | ((try subst hji8); (first | go_roundg kj23 | (refine Handed.intro kj23 ?measure ?_; rotate_left; go_step; (try simp only [add_plain]); (repeat apply Exists.intro); refine ⟨?rel, rfl⟩)))
                case measure => have := HK1.out; have := HK2.out; have := HK3.out; have := HK4.out; have := HJ23.out; omega
                case rel => exact ⟨(x10_4), (wrap64 (x12_4 + 1)), es_, H', ⟨by have := HK1.out; have := HK2.out; have := HK3.out; have := HK4.out; have := HJ23.out; omega⟩, ⟨Kd.S_below HO_6.out bgo_⟩, ⟨Kd.R_below HO_8.out bgo_⟩, ⟨Kd.R_below HO_10.out bgo_⟩, ⟨blk_below BK183.out bgo_⟩, ⟨hbs_⟩⟩
              ·replace c29 := Bool.eq_false_iff.mpr c29
               subst c29
               have H1 : (spec_l03Rows.l2 kj23 a1 (ji8) x6_1 x7_1 x8_2 x9_2 x10_4 (wrap64 (x11_3 + 1)) a0_0 l0_1) = some r := by rw [if_neg (show ¬ (false = true) by decide)] at H; exact H
               clear H
               have H := H1
               clear H1
               have H' := Aside0.mk H
               clear H
               go_wp2
               first | (first | go_roundg kj23 | (refine Handed.intro kj23 ?measure ?_; rotate_left; go_step; (try simp only [add_plain]); (repeat apply Exists.intro); refine ⟨?rel, rfl⟩)) | ((try subst hji8); (first | go_roundg kj23 | (refine Handed.intro kj23 ?measure ?_; rotate_left; go_step; (try simp only [add_plain]); (repeat apply Exists.intro); refine ⟨?rel, rfl⟩)))
               case measure => have := HK1.out; have := HK2.out; have := HK3.out; have := HK4.out; have := HJ23.out; omega
               case rel => exact ⟨(x10_4), (wrap64 (x11_3 + 1)), es_, H', ⟨by have := HK1.out; have := HK2.out; have := HK3.out; have := HK4.out; have := HJ23.out; omega⟩, ⟨Kd.S_below HO_6.out bgo_⟩, ⟨Kd.R_below HO_8.out bgo_⟩, ⟨Kd.R_below HO_10.out bgo_⟩, ⟨blk_below BK183.out bgo_⟩, ⟨hbs_⟩⟩
         ·rw [if_neg c23] at H
          have c23b0 := decide_eq_false c23
          clear c23
          have H' := Aside0.mk H
          clear H
          go_wp2
          first | (first | go_roundg k3 | (refine Handed.intro k3 ?measure ?_; rotate_left; go_step; (try simp only [add_plain]); (repeat apply Exists.intro); refine ⟨?rel, rfl⟩)) | ((try subst hji8); (first | go_roundg k3 | (refine Handed.intro k3 ?measure ?_; rotate_left; go_step; (try simp only [add_plain]); (repeat apply Exists.intro); refine ⟨?rel, rfl⟩)))
          case measure => have := HK1.out; have := HK2.out; have := HK3.out; omega
          case rel => exact ⟨(x10_3), (wrap64 (x9_2 + 1)), es_, H', ⟨by have := HK1.out; have := HK2.out; have := HK3.out; omega⟩, ⟨by (with_reducible repeat (first | apply Kd.S_alloc | apply Kd.S_drewN | apply Kd.S_drew)); exact Kd.S_mono HO_6.out (fun _ hk => hk.2)⟩, ⟨by (with_reducible repeat (first | apply Kd.R_alloc | apply Kd.R_drewN | apply Kd.R_drew)); exact Kd.R_mono HO_10.out (fun _ hk => trivial)⟩, ⟨blk_below BK183.out bgo_⟩, ⟨hbs_⟩⟩
      ·rw [if_neg c18] at H
       have c18b0 := decide_eq_false c18
       clear c18
       obtain ⟨c45, H⟩ := itn_ H
       have LMc45 := Aside0.mk c45
       clear c45
       obtain ⟨y191, Ny191, H⟩ : ∃ y191 : List (List Int), Aside0 (y191 = (x6_1 ++ [x8_2])) ∧ (spec_l03Rows.l0 k2 a1 (ji8) y191 (wrap64 (x7_1 + 1)) a0_0 l0_1) = some r := ⟨_, ⟨rfl⟩, H⟩
       have H' := Aside0.mk H
       clear H
       obtain ⟨Ao47, co47, eo47⟩ := Kd.R_slice HO_8.out
       subst eo47
       go_wp2_with (first | ((with_reducible refine gate_builtin (b := .append) (xs := #[.tmp 69, .tmp 71]) rfl ?_); at_builtin; refine Kd.S_append (Kd.slice 2 (Kd.int .i64)) (w0 := w) w.heap.size rfl (.tmp 69) (.tmp 71) 22 26 (.slice none 0 0) 24 rfl Try.underlying22 info26 rfl (by decide) (by omega) u6 x6_1 x8_2 [.slice Ao47 x8_2.length co47] (fun _ => True) (fun k_ => some k_ = (.slice Ao47 x8_2.length co47 : Value).ownBlock) rfl rfl ?aP (fun k_ hk_ => ((Kd.R_mono (ok' := fun k_ => ((fun _ => True)) k_ ∧ some k_ ≠ (u6 : Value).ownBlock) (Kd.R_apart' (HO_8.out) (Kd.S_typed HO_6.out) (by decide)) (fun k_ hk => ⟨trivial, hk.2⟩))).1 k_ hk_.symm) ?aF ?aO ?aB ?aS ?aL ?_; (case aP => exact Kd.M_row (Kd.R_mono (Kd.R_tight rfl (Kd.R_mono (ok' := fun k_ => ((fun _ => True)) k_ ∧ some k_ ≠ (u6 : Value).ownBlock) (Kd.R_apart' (HO_8.out) (Kd.S_typed HO_6.out) (by decide)) (fun k_ hk => ⟨trivial, hk.2⟩))) (fun _ h_ => h_))); (case aB => exact hbs_); (case aF => exact (fun _ _ => trivial)); (case aO => exact (by (with_reducible repeat (first | apply Kd.S_alloc | apply Kd.S_drewN | apply Kd.S_drew)); exact Kd.S_mono HO_6.out (fun k_ hk => ⟨trivial, fun e_ => hk e_⟩))); (case aS => exact (below_size hbs_)); (case aL => have := LMc45.out; omega); intro v192 w46 ho hb hg hat; rw [← Ny191.out] at ho; replace BK183 := Aside0.mk (blk_grown (g := gb183) (o := .cells #[.int .i64 a0_0, .slice A0_1 l0_1.length c0_1] 29 (0, 0)) (blk_below BK183.out bgo_) hg (Kd.S_ne HO_6.out BK183.out (by decide))); replace HB := Aside0.mk (hb); have HO193 := Aside0.mk (ho); clear HO_6 HO_8; clear ho hb hg hat))
       first | (first | go_roundg k2 | (refine Handed.intro k2 ?measure ?_; rotate_left; go_step; (try simp only [add_plain]); (repeat apply Exists.intro); refine ⟨?rel, rfl⟩)) | ((try subst hji8); (first | go_roundg k2 | (refine Handed.intro k2 ?measure ?_; rotate_left; go_step; (try simp only [add_plain]); (repeat apply Exists.intro); refine ⟨?rel, rfl⟩)))
       case measure => have := HK1.out; have := HK2.out; omega
       case rel => exact ⟨(y191), (wrap64 (x7_1 + 1)), es_, H', ⟨by have := HK1.out; have := HK2.out; omega⟩, ⟨Kd.S_below HO193.out bgo_⟩, ⟨blk_below BK183.out bgo_⟩, ⟨hbs_⟩⟩
   ·rw [if_neg c7] at H
    have c7b0 := decide_eq_false c7
    clear c7
    obtain rfl := Option.some.inj H
    go_wp2
    go_ret
    exact ⟨_, er_, (Kd.S_below HO_6.out bgo_), hbs_⟩

/-! ### spec_l03Count: function 108 -/
mutual
def spec_l03Count.l0 : Nat → List (List Int) → Int → Int → Int → List (List Int) → Option (Int)
 | 0, _, _, _, _, _ => none
 | k + 1, x5, x6, x7, x203000, x203001 => if x7 < (x5.length : Int) then (spec_l03Count.l1 k x5 x6 x7 0 x203000 x203001) else (some x6)
def spec_l03Count.l1 : Nat → List (List Int) → Int → Int → Int → Int → List (List Int) → Option (Int)
 | 0, _, _, _, _, _, _ => none
 | k + 1, x5, x6, x7, x8, x203000, x203001 => if x8 < (x5.length : Int) then (if 0 ≤ x7 then (if x7 < (x5.length : Int) then (if 0 ≤ x8 then (if x8 < ((rd_L1 x5 x7).length : Int) then (if (rd (rd_L1 x5 x7) x8) > 0 then ((spec_l03Next.f x203000 x203001 x8 x7).bind fun t208 => (if t208 = true then (spec_l03Count.l1 k x5 (wrap64 (x6 + (rd (rd_L1 x5 x7) x8))) x7 (wrap64 (x8 + 1)) x203000 x203001) else (spec_l03Count.l1 k x5 x6 x7 (wrap64 (x8 + 1)) x203000 x203001))) else (spec_l03Count.l1 k x5 x6 x7 (wrap64 (x8 + 1)) x203000 x203001)) else (none)) else (none)) else (none)) else (none)) else (spec_l03Count.l0 k x5 x6 (wrap64 (x7 + 1)) x203000 x203001)
end
def spec_l03Count.f (k : Nat) (a0_0 : Int) (l0_1 : List (List Int)) (a1 : Int) : Option (Int) := (spec_l03Rows.f k a0_0 l0_1 a1).bind fun t203 => (spec_l03Count.l0 k t203 0 0 a0_0 l0_1)
set_option maxHeartbeats 8000000 in
set_option maxRecDepth 100000 in
theorem spec_l03Count.calls (k : Nat) (a0_0 : Int) (A0_1 : Option Addr) (c0_1 : Nat) (l0_1 : List (List Int)) (a1 : Int) (r : Int) (w : World) (hr0_1 : Kd.C (Kd.slice 2 (Kd.int .i64)) w A0_1 l0_1.length l0_1) (hc0_1 : l0_1.length ≤ c0_1) (h : spec_l03Count.f k a0_0 l0_1 a1 = some r) :
  Calls Try.prog 108 #[.agg #[.int .i64 a0_0, .slice A0_1 l0_1.length c0_1], .int .i64 a1] w fun e w' => e = .returned (.int .i64 r) ∧ Below w.heap.size w w' := by
 have hu29 := Try.underlying29
 have HR0_1 := Aside0.mk hr0_1
 have HC0_1 := Aside0.mk hc0_1
 clear hr0_1 hc0_1
 have HB := Aside0.mk (Below.refl w.heap.size w)
 have H : ((spec_l03Rows.f k a0_0 l0_1 a1).bind fun t203 => (spec_l03Count.l0 k t203 0 0 a0_0 l0_1)) = some r := h
 clear h
 obtain ⟨t203, A3, H⟩ := bnd_ H
 have H' := Aside0.mk H
 clear H
 go_enter Try.func108, Try.ntmps108
 go_wp2_with (first | ((with_reducible refine gate_dst (N := 2) rfl ?_); refine box_event ?hg (N := 2) ?hd (cs := #[.int .i64 a0_0, .slice A0_1 l0_1.length c0_1]) (t := 29) ?hr ?_; (case hd => rfl); (case hg => rfl); (case hr => first | (go_simp; done) | (go_simp; rfl)); intro gb202 hg w4 hbox hb; have BK202 := Aside0.mk (hbox); have GW202 := Aside0.mk ((by rw [hg]; exact (below_size hb_) : w.heap.size ≤ gb202)); have GE202 := Aside0.mk ((by rw [hg]; exact (below_size hb_) : w.heap.size ≤ gb202)); replace HB := Aside0.mk (below_step hb_ hb); clear hb hbox hg; have hcz5_0 : w4.cell? ⟨gb202, 0, none⟩ = some (.int .i64 a0_0) := (blk_cell BK202.out 0).trans rfl; have hcz5_1 : w4.cell? ⟨gb202, 1, none⟩ = some (.slice A0_1 l0_1.length c0_1) := (blk_cell BK202.out 1).trans rfl; have hfz5_0 := blk_frozen BK202.out 0; have hfz5_1 := blk_frozen BK202.out 1) | ((with_reducible refine gate_callee (f := 63) rfl ?_); refine goesL_ (some 11) rfl rfl Try.func63 (by kernel_rfl) rfl #[.agg #[.int .i64 a0_0, .slice A0_1 l0_1.length c0_1], .int .i64 a1] rfl arg_ ?_; (with_reducible refine (spec_l03Rows.calls k a0_0 _ _ l0_1 a1 t203 _ ?side1 ?side2 A3.out).mono ?_); (case side1 => exact Kd.C_below (Kd.C_below HR0_1.out HB.out) bgo_); (case side2 => exact HC0_1.out); rintro e w6 ⟨v204, rfl, ho0, hb⟩; refine ⟨_, rfl, ?_⟩; have HO205 := Aside0.mk (Kd.S_lower ho0 (below_size hbs_)); replace BK202 := Aside0.mk (blk_below (g := gb202) (o := .cells #[.int .i64 a0_0, .slice A0_1 l0_1.length c0_1] 29 (0, 0)) (blk_below BK202.out bgo_) hb); replace HB := Aside0.mk (below_step hbs_ hb); (try clear hb); (try clear hb2); (try clear hk); (try clear hi); (try clear ho0)))
 go_loopg [6, 7] k (fun kq v6 v7 w' => ∃ (x6_1 : Int) (x7_1 : Int), v6 = .int .i64 x6_1 ∧ v7 = .int .i64 x7_1 ∧ Aside0 (spec_l03Count.l0 kq t203 x6_1 x7_1 a0_0 l0_1 = some r) ∧ Aside0 (kq ≤ k) ∧ Aside0 (Kd.S (Kd.slice 2 (Kd.int .i64)) 26 w' w.heap.size (fun _ => True) v204 t203) ∧ Aside0 (w'.heap[gb202]? = some (.cells #[.int .i64 a0_0, (.slice A0_1 l0_1.length c0_1)] 29 (0, 0))) ∧ Aside0 (Below w.heap.size w w'))
 case atStart => exact ⟨(0), (0), es_, es_, H', ⟨Nat.le_refl _⟩, ⟨Kd.S_below HO205.out bgo_⟩, ⟨blk_below BK202.out bgo_⟩, ⟨hbs_⟩⟩
 case round =>
  clear H'
  obtain ⟨x6_1, x7_1, rfl, rfl, HA, HK1, HO_5, BK202, HB⟩ := hrel
  cases gk with
  | zero => exact absurd HA.out (by simp [spec_l03Count.l0])
  | succ k1 =>
   have H := HA.out
   clear HA
   simp only [spec_l03Count.l0] at H
   by_cases c7 : x7_1 < (t203.length : Int)
   ·rw [if_pos c7] at H
    have c7b0 := decide_eq_true c7
    clear c7
    have H' := Aside0.mk H
    clear H
    obtain ⟨Ao8, co8, eo8⟩ := Kd.S_slice HO_5.out
    subst eo8
    go_wp2
    go_loopg [6, 8] k1 (fun kq v6 v8 w' => ∃ (x6_2 : Int) (x8_2 : Int), v6 = .int .i64 x6_2 ∧ v8 = .int .i64 x8_2 ∧ Aside0 (spec_l03Count.l1 kq t203 x6_2 x7_1 x8_2 a0_0 l0_1 = some r) ∧ Aside0 (kq ≤ k1) ∧ Aside0 (Kd.S (Kd.slice 2 (Kd.int .i64)) 26 w' w.heap.size (fun _ => True) (.slice Ao8 t203.length co8) t203) ∧ Aside0 (w'.heap[gb202]? = some (.cells #[.int .i64 a0_0, (.slice A0_1 l0_1.length c0_1)] 29 (0, 0))) ∧ Aside0 (Below w.heap.size w w'))
    case atStart => exact ⟨(x6_1), (0), es_, es_, H', ⟨Nat.le_refl _⟩, ⟨Kd.S_below HO_5.out bgo_⟩, ⟨blk_below BK202.out bgo_⟩, ⟨hbs_⟩⟩
    case round =>
     clear H'
     obtain ⟨x6_2, x8_2, rfl, rfl, HA, HK2, HO_5, BK202, HB⟩ := hrel
     cases gk with
     | zero => exact absurd HA.out (by simp [spec_l03Count.l1])
     | succ k2 =>
      have H := HA.out
      clear HA
      simp only [spec_l03Count.l1] at H
      by_cases c9 : x8_2 < (t203.length : Int)
      ·rw [if_pos c9] at H
       have c9b0 := decide_eq_true c9
       clear c9
       obtain ⟨c10, H⟩ := itn_ H
       have c10b0 := decide_eq_true c10
       clear c10
       obtain ⟨c11, H⟩ := itn_ H
       have c11b0 := decide_eq_true c11
       clear c11
       obtain ⟨c12, H⟩ := itn_ H
       have c12b0 := decide_eq_true c12
       clear c12
       obtain ⟨c13, H⟩ := itn_ H
       have c13b0 := decide_eq_true c13
       clear c13
       by_cases c14 : (rd (rd_L1 t203 x7_1) x8_2) > 0
       ·rw [if_pos c14] at H
        have c14b0 := decide_eq_true c14
        clear c14
        obtain ⟨t208, A15, H⟩ := bnd_ H
        by_cases c16 : t208 = true
        ·subst c16
         have H1 : (spec_l03Count.l1 k2 t203 (wrap64 (x6_2 + (rd (rd_L1 t203 x7_1) x8_2))) x7_1 (wrap64 (x8_2 + 1)) a0_0 l0_1) = some r := by rw [if_pos rfl] at H; exact H
         clear H
         have H := H1
         clear H1
         have H' := Aside0.mk H
         clear H
         have p206 : 0 ≤ (x7_1 : Int) := od_
         have q206 : x7_1 < (t203.length : Int) := od_
         obtain ⟨ad206, A206_0, c206_0, e206, hx206_0, hl206_0, hi206_0⟩ := at_L1 (Kd.S_reads' HO_5.out).2.2 x7_1 p206 q206
         cases e206
         obtain ⟨ce206, hce206, hMe206, hcc206⟩ := Kd.S_get HO_5.out [] x7_1 p206 (by first | exact q206 | exact od_ | (have e_ := (Kd.S_reads' HO_5.out).1; omega))
         obtain ⟨ve206_0, rfl, ge206_0⟩ := hMe206
         have hv206_0 := hcc206 0 _ rfl
         rw [Nat.add_zero, show ((Kd.slice 2 (Kd.int .i64))).sz = 1 from rfl, Nat.mul_one] at hv206_0
         replace hv206_0 := Option.some.inj (hv206_0.symm.trans hx206_0)
         rw [hv206_0] at ge206_0
         have HL206_0 := Aside0.mk (show Kd.R (Kd.int .i64) 2 _ _ _ _ (rd_L1 t203 x7_1) from ge206_0)
         clear hv206_0 ge206_0
         clear hcc206 hce206
         have HR206_0 := Aside0.mk hi206_0
         have HC206_0 := Aside0.mk hl206_0
         clear hi206_0 hl206_0
         replace p206 := eq_true p206
         replace q206 := eq_true q206
         have p207 : 0 ≤ (x8_2 : Int) := od_
         have q207 : x8_2 < ((rd_L1 t203 x7_1).length : Int) := od_
         obtain ⟨ad207, e207, hx207_0⟩ := Kd.at_int (by repeat (first | (with_reducible exact HR206_0.out) | (with_reducible refine Kd.C_alloc ?_ _) | (with_reducible refine Kd.C_drewN ?_ _) | (with_reducible refine Kd.C_drew ?_) | exact HR206_0.out)) x8_2 p207 q207
         cases e207
         replace p207 := eq_true p207
         replace q207 := eq_true q207
         have hcz17_0 : wr.cell? ⟨gb202, 0, none⟩ = some (.int .i64 a0_0) := (blk_cell BK202.out 0).trans rfl
         have hcz17_1 : wr.cell? ⟨gb202, 1, none⟩ = some (.slice A0_1 l0_1.length c0_1) := (blk_cell BK202.out 1).trans rfl
         have hfz17_0 := blk_frozen BK202.out 0
         have hfz17_1 := blk_frozen BK202.out 1
         go_wp2_with (first | (go_at_call 102; (with_reducible refine (spec_l03Next.calls a0_0 _ _ l0_1 x8_2 x7_1 true _ ?side1 ?side2 A15.out).mono ?_); (case side1 => exact Kd.C_below (Kd.C_below HR0_1.out HB.out) bgo_); (case side2 => exact HC0_1.out); rintro e w18 ⟨rfl, hb⟩; replace HO_5 := Aside0.mk (Kd.S_below (Kd.S_below HO_5.out bgo_) hb); replace HL206_0 := Aside0.mk (Kd.R_below (by (with_reducible repeat (first | apply Kd.R_alloc | apply Kd.R_drewN | apply Kd.R_drew)); exact HL206_0.out) hb); replace BK202 := Aside0.mk (blk_below (g := gb202) (o := .cells #[.int .i64 a0_0, .slice A0_1 l0_1.length c0_1] 29 (0, 0)) (blk_below BK202.out bgo_) hb); replace HR206_0 := Aside0.mk (Kd.C_below (by repeat (first | (with_reducible exact HR206_0.out) | (with_reducible refine Kd.C_alloc ?_ _) | (with_reducible refine Kd.C_drewN ?_ _) | (with_reducible refine Kd.C_drew ?_) | exact HR206_0.out)) hb); replace HB := Aside0.mk (below_step hbs_ hb); (try clear hb); (try clear hb2); (try clear hk); (try clear hi); have p209 : 0 ≤ (x7_1 : Int) := od_; have q209 : x7_1 < (t203.length : Int) := od_; obtain ⟨ad209, A209_0, c209_0, e209, hx209_0, hl209_0, hi209_0⟩ := at_L1 (Kd.S_reads' HO_5.out).2.2 x7_1 p209 q209; obtain rfl : ad206 = ad209 := (by injection e209); obtain ⟨ce209, hce209, hMe209, hcc209⟩ := Kd.S_get HO_5.out [] x7_1 p209 (by first | exact q209 | exact od_ | (have e_ := (Kd.S_reads' HO_5.out).1; omega)); obtain ⟨ve209_0, rfl, ge209_0⟩ := hMe209; have hv209_0 := hcc209 0 _ rfl; rw [Nat.add_zero, show ((Kd.slice 2 (Kd.int .i64))).sz = 1 from rfl, Nat.mul_one] at hv209_0; replace hv209_0 := Option.some.inj (hv209_0.symm.trans hx209_0); rw [hv209_0] at ge209_0; have HL209_0 := Aside0.mk (show Kd.R (Kd.int .i64) 2 _ _ _ _ (rd_L1 t203 x7_1) from ge209_0); clear hv209_0 ge209_0; clear hcc209 hce209; have HR209_0 := Aside0.mk hi209_0; have HC209_0 := Aside0.mk hl209_0; clear hi209_0 hl209_0; replace p209 := eq_true p209; replace q209 := eq_true q209; have p210 : 0 ≤ (x8_2 : Int) := od_; have q210 : x8_2 < ((rd_L1 t203 x7_1).length : Int) := od_; obtain ⟨ad210, e210, hx210_0⟩ := Kd.at_int (by repeat (first | (with_reducible exact HR209_0.out) | (with_reducible refine Kd.C_alloc ?_ _) | (with_reducible refine Kd.C_drewN ?_ _) | (with_reducible refine Kd.C_drew ?_) | exact HR209_0.out)) x8_2 p210 q210; cases e210; replace p210 := eq_true p210; replace q210 := eq_true q210))
         first | go_roundg k2 | (refine Handed.intro k2 ?measure ?_; rotate_left; go_step; (try simp only [add_plain]); (repeat apply Exists.intro); refine ⟨?rel, rfl⟩)
         case measure => have := HK1.out; have := HK2.out; omega
         case rel => exact ⟨(wrap64 (x6_2 + (rd (rd_L1 t203 x7_1) x8_2))), (wrap64 (x8_2 + 1)), es_, es_, H', ⟨by have := HK1.out; have := HK2.out; omega⟩, ⟨Kd.S_below HO_5.out bgo_⟩, ⟨blk_below BK202.out bgo_⟩, ⟨hbs_⟩⟩
        ·replace c16 := Bool.eq_false_iff.mpr c16
         subst c16
         have H1 : (spec_l03Count.l1 k2 t203 x6_2 x7_1 (wrap64 (x8_2 + 1)) a0_0 l0_1) = some r := by rw [if_neg (show ¬ (false = true) by decide)] at H; exact H
         clear H
         have H := H1
         clear H1
         have H' := Aside0.mk H
         clear H
         have p206 : 0 ≤ (x7_1 : Int) := od_
         have q206 : x7_1 < (t203.length : Int) := od_
         obtain ⟨ad206, A206_0, c206_0, e206, hx206_0, hl206_0, hi206_0⟩ := at_L1 (Kd.S_reads' HO_5.out).2.2 x7_1 p206 q206
         cases e206
         obtain ⟨ce206, hce206, hMe206, hcc206⟩ := Kd.S_get HO_5.out [] x7_1 p206 (by first | exact q206 | exact od_ | (have e_ := (Kd.S_reads' HO_5.out).1; omega))
         obtain ⟨ve206_0, rfl, ge206_0⟩ := hMe206
         have hv206_0 := hcc206 0 _ rfl
         rw [Nat.add_zero, show ((Kd.slice 2 (Kd.int .i64))).sz = 1 from rfl, Nat.mul_one] at hv206_0
         replace hv206_0 := Option.some.inj (hv206_0.symm.trans hx206_0)
         rw [hv206_0] at ge206_0
         have HL206_0 := Aside0.mk (show Kd.R (Kd.int .i64) 2 _ _ _ _ (rd_L1 t203 x7_1) from ge206_0)
         clear hv206_0 ge206_0
         clear hcc206 hce206
         have HR206_0 := Aside0.mk hi206_0
         have HC206_0 := Aside0.mk hl206_0
         clear hi206_0 hl206_0
         replace p206 := eq_true p206
         replace q206 := eq_true q206
         have p207 : 0 ≤ (x8_2 : Int) := od_
         have q207 : x8_2 < ((rd_L1 t203 x7_1).length : Int) := od_
         obtain ⟨ad207, e207, hx207_0⟩ := Kd.at_int (by repeat (first | (with_reducible exact HR206_0.out) | (with_reducible refine Kd.C_alloc ?_ _) | (with_reducible refine Kd.C_drewN ?_ _) | (with_reducible refine Kd.C_drew ?_) | exact HR206_0.out)) x8_2 p207 q207
         cases e207
         replace p207 := eq_true p207
         replace q207 := eq_true q207
         have hcz19_0 : wr.cell? ⟨gb202, 0, none⟩ = some (.int .i64 a0_0) := (blk_cell BK202.out 0).trans rfl
         have hcz19_1 : wr.cell? ⟨gb202, 1, none⟩ = some (.slice A0_1 l0_1.length c0_1) := (blk_cell BK202.out 1).trans rfl
         have hfz19_0 := blk_frozen BK202.out 0
         have hfz19_1 := blk_frozen BK202.out 1
         go_wp2_with (first | (go_at_call 102; (with_reducible refine (spec_l03Next.calls a0_0 _ _ l0_1 x8_2 x7_1 false _ ?side1 ?side2 A15.out).mono ?_); (case side1 => exact Kd.C_below (Kd.C_below HR0_1.out HB.out) bgo_); (case side2 => exact HC0_1.out); rintro e w20 ⟨rfl, hb⟩; replace HO_5 := Aside0.mk (Kd.S_below (Kd.S_below HO_5.out bgo_) hb); replace HL206_0 := Aside0.mk (Kd.R_below (by (with_reducible repeat (first | apply Kd.R_alloc | apply Kd.R_drewN | apply Kd.R_drew)); exact HL206_0.out) hb); replace BK202 := Aside0.mk (blk_below (g := gb202) (o := .cells #[.int .i64 a0_0, .slice A0_1 l0_1.length c0_1] 29 (0, 0)) (blk_below BK202.out bgo_) hb); replace HR206_0 := Aside0.mk (Kd.C_below (by repeat (first | (with_reducible exact HR206_0.out) | (with_reducible refine Kd.C_alloc ?_ _) | (with_reducible refine Kd.C_drewN ?_ _) | (with_reducible refine Kd.C_drew ?_) | exact HR206_0.out)) hb); replace HB := Aside0.mk (below_step hbs_ hb); (try clear hb); (try clear hb2); (try clear hk); (try clear hi)))
         first | go_roundg k2 | (refine Handed.intro k2 ?measure ?_; rotate_left; go_step; (try simp only [add_plain]); (repeat apply Exists.intro); refine ⟨?rel, rfl⟩)
         case measure => have := HK1.out; have := HK2.out; omega
         case rel => exact ⟨(x6_2), (wrap64 (x8_2 + 1)), es_, es_, H', ⟨by have := HK1.out; have := HK2.out; omega⟩, ⟨Kd.S_below HO_5.out bgo_⟩, ⟨blk_below BK202.out bgo_⟩, ⟨hbs_⟩⟩
       ·rw [if_neg c14] at H
        have c14b0 := decide_eq_false c14
        clear c14
        have H' := Aside0.mk H
        clear H
        have p206 : 0 ≤ (x7_1 : Int) := od_
        have q206 : x7_1 < (t203.length : Int) := od_
        obtain ⟨ad206, A206_0, c206_0, e206, hx206_0, hl206_0, hi206_0⟩ := at_L1 (Kd.S_reads' HO_5.out).2.2 x7_1 p206 q206
        cases e206
        obtain ⟨ce206, hce206, hMe206, hcc206⟩ := Kd.S_get HO_5.out [] x7_1 p206 (by first | exact q206 | exact od_ | (have e_ := (Kd.S_reads' HO_5.out).1; omega))
        obtain ⟨ve206_0, rfl, ge206_0⟩ := hMe206
        have hv206_0 := hcc206 0 _ rfl
        rw [Nat.add_zero, show ((Kd.slice 2 (Kd.int .i64))).sz = 1 from rfl, Nat.mul_one] at hv206_0
        replace hv206_0 := Option.some.inj (hv206_0.symm.trans hx206_0)
        rw [hv206_0] at ge206_0
        have HL206_0 := Aside0.mk (show Kd.R (Kd.int .i64) 2 _ _ _ _ (rd_L1 t203 x7_1) from ge206_0)
        clear hv206_0 ge206_0
        clear hcc206 hce206
        have HR206_0 := Aside0.mk hi206_0
        have HC206_0 := Aside0.mk hl206_0
        clear hi206_0 hl206_0
        replace p206 := eq_true p206
        replace q206 := eq_true q206
        have p207 : 0 ≤ (x8_2 : Int) := od_
        have q207 : x8_2 < ((rd_L1 t203 x7_1).length : Int) := od_
        obtain ⟨ad207, e207, hx207_0⟩ := Kd.at_int (by repeat (first | (with_reducible exact HR206_0.out) | (with_reducible refine Kd.C_alloc ?_ _) | (with_reducible refine Kd.C_drewN ?_ _) | (with_reducible refine Kd.C_drew ?_) | exact HR206_0.out)) x8_2 p207 q207
        cases e207
        replace p207 := eq_true p207
        replace q207 := eq_true q207
        go_wp2
        first | go_roundg k2 | (refine Handed.intro k2 ?measure ?_; rotate_left; go_step; (try simp only [add_plain]); (repeat apply Exists.intro); refine ⟨?rel, rfl⟩)
        case measure => have := HK1.out; have := HK2.out; omega
        case rel => exact ⟨(x6_2), (wrap64 (x8_2 + 1)), es_, es_, H', ⟨by have := HK1.out; have := HK2.out; omega⟩, ⟨Kd.S_below HO_5.out bgo_⟩, ⟨blk_below BK202.out bgo_⟩, ⟨hbs_⟩⟩
      ·rw [if_neg c9] at H
       have c9b0 := decide_eq_false c9
       clear c9
       have H' := Aside0.mk H
       clear H
       go_wp2
       first | go_roundg k2 | (refine Handed.intro k2 ?measure ?_; rotate_left; go_step; (try simp only [add_plain]); (repeat apply Exists.intro); refine ⟨?rel, rfl⟩)
       case measure => have := HK1.out; have := HK2.out; omega
       case rel => exact ⟨(x6_2), (wrap64 (x7_1 + 1)), es_, es_, H', ⟨by have := HK1.out; have := HK2.out; omega⟩, ⟨Kd.S_below HO_5.out bgo_⟩, ⟨blk_below BK202.out bgo_⟩, ⟨hbs_⟩⟩
   ·rw [if_neg c7] at H
    have c7b0 := decide_eq_false c7
    clear c7
    obtain rfl := Option.some.inj H
    obtain ⟨Ao21, co21, eo21⟩ := Kd.S_slice HO_5.out
    subst eo21
    go_wp2
    go_ret
    exact ⟨er_, hbs_⟩

/-! ### spec_l03All: function 73 -/
mutual
def spec_l03All.l0 : Nat → Int → Int → List (List Int) → Int → Int → List (List Int) → Option ((List (List Int)) × Bool)
 | 0, _, _, _, _, _, _ => none
 | k + 1, x1, x6, x7, x8, x212000, x212001 => if x8 < x6 then (spec_l03All.l1 k x1 x6 x7 x8 (([] : List (List Bool))) 0 x212000 x212001) else (some (x7, true))
def spec_l03All.l1 : Nat → Int → Int → List (List Int) → Int → List (List Bool) → Int → Int → List (List Int) → Option ((List (List Int)) × Bool)
 | 0, _, _, _, _, _, _, _, _ => none
 | k + 1, x1, x6, x7, x8, x9, x10, x212000, x212001 => if x10 < x1 then (spec_l03All.l2 k x1 x6 x7 x8 x9 x10 (([] : List Bool)) 0 x212000 x212001) else ((some (([] : List (List Int)) : List (List Int))).bind fun y235 => (if 0 ≤ (wrap64 (x1 - 1)) then (if (wrap64 (x1 - 1)) < (x9.length : Int) then (if 0 ≤ x8 then (if x8 < ((rd_L5 x9 (wrap64 (x1 - 1))).length : Int) then (if rdOf false (rd_L5 x9 (wrap64 (x1 - 1))) x8 = true then (if y235.length < 5864062014805 then (spec_l03All.j5 k x1 x6 x7 x8 x9 (y235 ++ [(([x8] : List Int))]) x212000 x212001) else (none)) else (spec_l03All.j5 k x1 x6 x7 x8 x9 y235 x212000 x212001)) else (none)) else (none)) else (none)) else (none)))
def spec_l03All.l2 : Nat → Int → Int → List (List Int) → Int → List (List Bool) → Int → List Bool → Int → Int → List (List Int) → Option ((List (List Int)) × Bool)
 | 0, _, _, _, _, _, _, _, _, _, _ => none
 | k + 1, x1, x6, x7, x8, x9, x10, x11, x12, x212000, x212001 => if x12 < x6 then (if x10 = 0 then ((spec_l03Next.f x212000 x212001 x12 x8).bind fun t225 => (spec_l03All.j3 k x1 x6 x7 x8 x9 x10 x11 x12 t225 x212000 x212001)) else (spec_l03All.j3 k x1 x6 x7 x8 x9 x10 x11 x12 false x212000 x212001)) else (if x9.length < 5864062014805 then (spec_l03All.l1 k x1 x6 x7 x8 (x9 ++ [x11]) (wrap64 (x10 + 1)) x212000 x212001) else (none))
def spec_l03All.j3 : Nat → Int → Int → List (List Int) → Int → List (List Bool) → Int → List Bool → Int → Bool → Int → List (List Int) → Option ((List (List Int)) × Bool)
 | 0, _, _, _, _, _, _, _, _, _, _, _ => none
 | k + 1, x1, x6, x7, x8, x9, x10, x11, x12, x13, x212000, x212001 => spec_l03All.l3 k x1 x6 x7 x8 x9 x10 x11 x12 x13 0 x212000 x212001
def spec_l03All.l3 : Nat → Int → Int → List (List Int) → Int → List (List Bool) → Int → List Bool → Int → Bool → Int → Int → List (List Int) → Option ((List (List Int)) × Bool)
 | 0, _, _, _, _, _, _, _, _, _, _, _, _ => none
 | k + 1, x1, x6, x7, x8, x9, x10, x11, x12, x13, x14, x212000, x212001 => if x14 < x6 then (if x10 > 0 then (if x13 = true then (spec_l03All.l3 k x1 x6 x7 x8 x9 x10 x11 x12 true (wrap64 (x14 + 1)) x212000 x212001) else ((spec_l03Next.f x212000 x212001 x12 x14).bind fun t226 => (if t226 = true then (if 0 ≤ (wrap64 (x10 - 1)) then (if (wrap64 (x10 - 1)) < (x9.length : Int) then (if 0 ≤ x14 then (if x14 < ((rd_L5 x9 (wrap64 (x10 - 1))).length : Int) then (spec_l03All.l3 k x1 x6 x7 x8 x9 x10 x11 x12 (rdOf false (rd_L5 x9 (wrap64 (x10 - 1))) x14) (wrap64 (x14 + 1)) x212000 x212001) else (none)) else (none)) else (none)) else (none)) else (spec_l03All.l3 k x1 x6 x7 x8 x9 x10 x11 x12 false (wrap64 (x14 + 1)) x212000 x212001)))) else (if x11.length < 140737488355328 then (spec_l03All.l2 k x1 x6 x7 x8 x9 x10 (x11 ++ [x13]) (wrap64 (x12 + 1)) x212000 x212001) else (none))) else (if x11.length < 140737488355328 then (spec_l03All.l2 k x1 x6 x7 x8 x9 x10 (x11 ++ [x13]) (wrap64 (x12 + 1)) x212000 x212001) else (none))
def spec_l03All.j5 : Nat → Int → Int → List (List Int) → Int → List (List Bool) → List (List Int) → Int → List (List Int) → Option ((List (List Int)) × Bool)
 | 0, _, _, _, _, _, _, _, _ => none
 | k + 1, x1, x6, x7, x8, x9, x15, x212000, x212001 => spec_l03All.l4 k x1 x6 x7 x8 x9 x15 (wrap64 (x1 - 2)) x212000 x212001
def spec_l03All.l4 : Nat → Int → Int → List (List Int) → Int → List (List Bool) → List (List Int) → Int → Int → List (List Int) → Option ((List (List Int)) × Bool)
 | 0, _, _, _, _, _, _, _, _, _ => none
 | k + 1, x1, x6, x7, x8, x9, x15, x16, x212000, x212001 => if x16 ≥ 0 then ((spec_l03Longer.f k x212000 x212001 x15).bind fun t249 => (spec_l03All.l5 k x1 x6 x7 x8 x9 x16 t249 (([] : List (List Int))) 0 x212000 x212001)) else (if x7.length + x15.length < 5864062014805 then (spec_l03All.l0 k x1 x6 (x7 ++ x15) (wrap64 (x8 + 1)) x212000 x212001) else (none))
def spec_l03All.l5 : Nat → Int → Int → List (List Int) → Int → List (List Bool) → Int → List (List Int) → List (List Int) → Int → Int → List (List Int) → Option ((List (List Int)) × Bool)
 | 0, _, _, _, _, _, _, _, _, _, _, _ => none
 | k + 1, x1, x6, x7, x8, x9, x16, x17, x18, x19, x212000, x212001 => if x19 < (x17.length : Int) then (if 0 ≤ x16 then (if x16 < (x9.length : Int) then (if 0 ≤ x19 then (if 0 ≤ (wrap64 (((rd_L1 x17 x19).length : Int) - 1)) then (if (wrap64 (((rd_L1 x17 x19).length : Int) - 1)) < ((rd_L1 x17 x19).length : Int) then (if 0 ≤ (rd (rd_L1 x17 x19) (wrap64 (((rd_L1 x17 x19).length : Int) - 1))) then (if (rd (rd_L1 x17 x19) (wrap64 (((rd_L1 x17 x19).length : Int) - 1))) < ((rd_L5 x9 x16).length : Int) then (if rdOf false (rd_L5 x9 x16) (rd (rd_L1 x17 x19) (wrap64 (((rd_L1 x17 x19).length : Int) - 1))) = true then (if x18.length < 5864062014805 then (spec_l03All.l5 k x1 x6 x7 x8 x9 x16 x17 (x18 ++ [rd_L1 x17 x19]) (wrap64 (x19 + 1)) x212000 x212001) else (none)) else (spec_l03All.l5 k x1 x6 x7 x8 x9 x16 x17 x18 (wrap64 (x19 + 1)) x212000 x212001)) else (none)) else (none)) else (none)) else (none)) else (none)) else (none)) else (none)) else (spec_l03All.l4 k x1 x6 x7 x8 x9 x18 (wrap64 (x16 - 1)) x212000 x212001)
end
def spec_l03All.f (k : Nat) (a0_0 : Int) (l0_1 : List (List Int)) (a1 : Int) : Option ((List (List Int)) × Bool) := (spec_l03Count.f k a0_0 l0_1 a1).bind fun t212 => (if t212 > 400 then (some (([] : List (List Int)), false)) else (spec_l03All.l0 k a1 (wrap64 (2 * (l0_1.length : Int))) (([] : List (List Int))) 0 a0_0 l0_1))
set_option maxHeartbeats 8000000 in
set_option maxRecDepth 100000 in
theorem spec_l03All.calls (k : Nat) (a0_0 : Int) (A0_1 : Option Addr) (c0_1 : Nat) (l0_1 : List (List Int)) (a1 : Int) (r1 : List (List Int)) (r2 : Bool) (w : World) (hr0_1 : Kd.C (Kd.slice 2 (Kd.int .i64)) w A0_1 l0_1.length l0_1) (hc0_1 : l0_1.length ≤ c0_1) (h : spec_l03All.f k a0_0 l0_1 a1 = some (r1, r2)) :
  Calls Try.prog 73 #[.agg #[.int .i64 a0_0, .slice A0_1 l0_1.length c0_1], .int .i64 a1] w fun e w' => ∃ v0_ : Value, e = .returned (.tuple #[v0_, .bool r2]) ∧ Kd.N (Kd.slice 2 (Kd.int .i64)) 26 w' w.heap.size (fun k_ => (w.heap.size ≤ k_)) v0_ r1 ∧ Below w.heap.size w w' := by
 have hu29 := Try.underlying29
 have HR0_1 := Aside0.mk hr0_1
 have HC0_1 := Aside0.mk hc0_1
 clear hr0_1 hc0_1
 have HB := Aside0.mk (Below.refl w.heap.size w)
 have H : ((spec_l03Count.f k a0_0 l0_1 a1).bind fun t212 => (if t212 > 400 then (some (([] : List (List Int)), false)) else (spec_l03All.l0 k a1 (wrap64 (2 * (l0_1.length : Int))) (([] : List (List Int))) 0 a0_0 l0_1))) = some (r1, r2) := h
 clear h
 obtain ⟨t212, A3, H⟩ := bnd_ H
 by_cases c4 : t212 > 400
 ·rw [if_pos c4] at H
  have c4b0 := decide_eq_true c4
  clear c4
  simp only [Option.some.injEq, Prod.mk.injEq] at H
  obtain ⟨rfl, rfl⟩ := H
  go_enter Try.func73, Try.ntmps73
  go_wp2_with (first | ((with_reducible refine gate_dst (N := 2) rfl ?_); refine box_event ?hg (N := 2) ?hd (cs := #[.int .i64 a0_0, .slice A0_1 l0_1.length c0_1]) (t := 29) ?hr ?_; (case hd => rfl); (case hg => rfl); (case hr => first | (go_simp; done) | (go_simp; rfl)); intro gb211 hg w5 hbox hb; have BK211 := Aside0.mk (hbox); have GW211 := Aside0.mk ((by rw [hg]; exact (below_size hb_) : w.heap.size ≤ gb211)); have GE211 := Aside0.mk ((by rw [hg]; exact (below_size hb_) : w.heap.size ≤ gb211)); replace HB := Aside0.mk (below_step hb_ hb); clear hb hbox hg; have hcz6_0 : w5.cell? ⟨gb211, 0, none⟩ = some (.int .i64 a0_0) := (blk_cell BK211.out 0).trans rfl; have hcz6_1 : w5.cell? ⟨gb211, 1, none⟩ = some (.slice A0_1 l0_1.length c0_1) := (blk_cell BK211.out 1).trans rfl; have hfz6_0 := blk_frozen BK211.out 0; have hfz6_1 := blk_frozen BK211.out 1) | (go_at_call 108; (with_reducible refine (spec_l03Count.calls k a0_0 _ _ l0_1 a1 t212 _ ?side1 ?side2 A3.out).mono ?_); (case side1 => exact Kd.C_below (Kd.C_below HR0_1.out HB.out) bgo_); (case side2 => exact HC0_1.out); rintro e w7 ⟨rfl, hb⟩; replace BK211 := Aside0.mk (blk_below (g := gb211) (o := .cells #[.int .i64 a0_0, .slice A0_1 l0_1.length c0_1] 29 (0, 0)) (blk_below BK211.out bgo_) hb); replace HB := Aside0.mk (below_step hbs_ hb); (try clear hb); (try clear hb2); (try clear hk); (try clear hi)))
  go_ret2
  exact ⟨_, er_, by first | exact Kd.S_nil _ _ _ _ _ | exact Kd.N_nil _ _ _ _ _ | exact Kd.V_nil _ _ _ _ _ | exact Kd.Q_nil _ _ _ _ _ | exact Kd.R_nil _ _ _ _ _, hbs_⟩
 ·rw [if_neg c4] at H
  have c4b0 := decide_eq_false c4
  clear c4
  obtain ⟨y213, Ny213, H⟩ : ∃ y213 : List (List Int), Aside0 (y213 = (([] : List (List Int)))) ∧ (spec_l03All.l0 k a1 (wrap64 (2 * (l0_1.length : Int))) y213 0 a0_0 l0_1) = some (r1, r2) := ⟨_, ⟨rfl⟩, H⟩
  have H' := Aside0.mk H
  clear H
  go_enter Try.func73, Try.ntmps73
  go_wp2_with (first | ((with_reducible refine gate_dst (N := 2) rfl ?_); refine box_event ?hg (N := 2) ?hd (cs := #[.int .i64 a0_0, .slice A0_1 l0_1.length c0_1]) (t := 29) ?hr ?_; (case hd => rfl); (case hg => rfl); (case hr => first | (go_simp; done) | (go_simp; rfl)); intro gb211 hg w8 hbox hb; have BK211 := Aside0.mk (hbox); have GW211 := Aside0.mk ((by rw [hg]; exact (below_size hb_) : w.heap.size ≤ gb211)); have GE211 := Aside0.mk ((by rw [hg]; exact (below_size hb_) : w.heap.size ≤ gb211)); replace HB := Aside0.mk (below_step hb_ hb); clear hb hbox hg; have hcz9_0 : w8.cell? ⟨gb211, 0, none⟩ = some (.int .i64 a0_0) := (blk_cell BK211.out 0).trans rfl; have hcz9_1 : w8.cell? ⟨gb211, 1, none⟩ = some (.slice A0_1 l0_1.length c0_1) := (blk_cell BK211.out 1).trans rfl; have hfz9_0 := blk_frozen BK211.out 0; have hfz9_1 := blk_frozen BK211.out 1) | (go_at_call 108; (with_reducible refine (spec_l03Count.calls k a0_0 _ _ l0_1 a1 t212 _ ?side1 ?side2 A3.out).mono ?_); (case side1 => exact Kd.C_below (Kd.C_below HR0_1.out HB.out) bgo_); (case side2 => exact HC0_1.out); rintro e w10 ⟨rfl, hb⟩; replace BK211 := Aside0.mk (blk_below (g := gb211) (o := .cells #[.int .i64 a0_0, .slice A0_1 l0_1.length c0_1] 29 (0, 0)) (blk_below BK211.out bgo_) hb); replace HB := Aside0.mk (below_step hbs_ hb); (try clear hb); (try clear hb2); (try clear hk); (try clear hi); have hcz11_0 : w10.cell? ⟨gb211, 0, none⟩ = some (.int .i64 a0_0) := (blk_cell BK211.out 0).trans rfl; have hcz11_1 : w10.cell? ⟨gb211, 1, none⟩ = some (.slice A0_1 l0_1.length c0_1) := (blk_cell BK211.out 1).trans rfl; have hfz11_0 := blk_frozen BK211.out 0; have hfz11_1 := blk_frozen BK211.out 1) | ((with_reducible refine gate_dst (N := 28) rfl ?_); refine Kd.N_lit (Kd.slice 2 (Kd.int .i64)) _ 26 ?hg (N' := 28) ?hd (xs := ([] : List (List Int))) (inner := []) (ok := (fun k_ => (w.heap.size ≤ k_) ∧ k_ ≠ gb211)) (okp := (fun k_ => (w.heap.size ≤ k_) ∧ k_ ≠ gb211)) ?hr ?hp (fun _ hk => hk) ((show ∀ k_, w10.heap.size ≤ k_ → (fun k_ => (w.heap.size ≤ k_) ∧ k_ ≠ gb211) k_ from fun k_ hk => ⟨(Nat.le_trans (below_size hbs_) hk), Kd.freshB (g := gb211) (o := .cells #[.int .i64 a0_0, .slice A0_1 l0_1.length c0_1] 29 (0, 0)) (blk_below BK211.out bgo_) k_ hk⟩) _ (Nat.le_refl _)) (Below.refl _ _) (Nat.le_refl _) (by simp) ?_; (case hd => rfl); (case hg => rfl); (case hr => first | (go_simp; done) | (go_simp; rfl)); (case hp => exact (Reps.none _ _)); intro v214 w12 ho13 hb hg_ hnew_; clear hg_ hnew_; (first | rw [← Ny213.out] at ho13 | (simp only [Int.reduceToNat] at ho13; rw [← Ny213.out] at ho13)); have HO215 := Aside0.mk (Kd.N_lower ho13 (below_size hbs_)); replace BK211 := Aside0.mk (blk_below (g := gb211) (o := .cells #[.int .i64 a0_0, .slice A0_1 l0_1.length c0_1] 29 (0, 0)) (blk_below BK211.out bgo_) hb); replace HB := Aside0.mk (below_step hbs_ hb); clear hb ho13))
  go_loopg [7, 8] k (fun kq v7 v8 w' => ∃ (x7_1 : List (List Int)) (x8_1 : Int), v8 = .int .i64 x8_1 ∧ Aside0 (spec_l03All.l0 kq a1 (wrap64 (2 * (l0_1.length : Int))) x7_1 x8_1 a0_0 l0_1 = some (r1, r2)) ∧ Aside0 (kq ≤ k) ∧ Aside0 (Kd.N (Kd.slice 2 (Kd.int .i64)) 26 w' w.heap.size (fun k_ => (w.heap.size ≤ k_) ∧ k_ ≠ gb211) v7 x7_1) ∧ Aside0 (w'.heap[gb211]? = some (.cells #[.int .i64 a0_0, (.slice A0_1 l0_1.length c0_1)] 29 (0, 0))) ∧ Aside0 (Below w.heap.size w w'))
  case atStart => exact ⟨(y213), (0), es_, H', ⟨Nat.le_refl _⟩, ⟨Kd.N_below HO215.out bgo_⟩, ⟨blk_below BK211.out bgo_⟩, ⟨hbs_⟩⟩
  case round =>
   clear H'
   obtain ⟨x7_1, x8_1, rfl, HA, HK1, HO_7, BK211, HB⟩ := hrel
   cases gk with
   | zero => exact absurd HA.out (by simp [spec_l03All.l0])
   | succ k1 =>
    have H := HA.out
    clear HA
    simp only [spec_l03All.l0] at H
    by_cases c14 : x8_1 < (wrap64 (2 * (l0_1.length : Int)))
    ·rw [if_pos c14] at H
     have c14b0 := decide_eq_true c14
     clear c14
     obtain ⟨y216, Ny216, H⟩ : ∃ y216 : List (List Bool), Aside0 (y216 = (([] : List (List Bool)))) ∧ (spec_l03All.l1 k1 a1 (wrap64 (2 * (l0_1.length : Int))) x7_1 x8_1 y216 0 a0_0 l0_1) = some (r1, r2) := ⟨_, ⟨rfl⟩, H⟩
     have H' := Aside0.mk H
     clear H
     go_wp2_with (first | ((with_reducible refine gate_dst (N := 34) rfl ?_); refine Kd.N_lit (Kd.slice 4 Kd.bool) _ 86 ?hg (N' := 34) ?hd (xs := ([] : List (List Bool))) (inner := []) (ok := (fun k_ => (w.heap.size ≤ k_) ∧ some k_ ≠ (u7 : Value).ownBlock ∧ k_ ≠ gb211)) (okp := (fun k_ => (w.heap.size ≤ k_) ∧ some k_ ≠ (u7 : Value).ownBlock ∧ k_ ≠ gb211)) ?hr ?hp (fun _ hk => hk) ((show ∀ k_, wr.heap.size ≤ k_ → (fun k_ => (w.heap.size ≤ k_) ∧ some k_ ≠ (u7 : Value).ownBlock ∧ k_ ≠ gb211) k_ from fun k_ hk => ⟨(Nat.le_trans (below_size hbs_) hk), Kd.fresh' (Kd.N_lt (Kd.N_below HO_7.out bgo_)) k_ hk, Kd.freshB (g := gb211) (o := .cells #[.int .i64 a0_0, .slice A0_1 l0_1.length c0_1] 29 (0, 0)) (blk_below BK211.out bgo_) k_ hk⟩) _ (Nat.le_refl _)) (Below.refl _ _) (Nat.le_refl _) (by simp) ?_; (case hd => rfl); (case hg => rfl); (case hr => first | (go_simp; done) | (go_simp; rfl)); (case hp => exact (Reps.none _ _)); intro v217 w15 ho16 hb hg_ hnew_; clear hg_ hnew_; (first | rw [← Ny216.out] at ho16 | (simp only [Int.reduceToNat] at ho16; rw [← Ny216.out] at ho16)); replace HO_7 := Aside0.mk (Kd.N_elder' (Kd.N_below HO_7.out bgo_) (Kd.N_base ho16) hb); have HO218 := Aside0.mk (Kd.N_lower ho16 (below_size hbs_)); replace BK211 := Aside0.mk (blk_below (g := gb211) (o := .cells #[.int .i64 a0_0, .slice A0_1 l0_1.length c0_1] 29 (0, 0)) (blk_below BK211.out bgo_) hb); replace HB := Aside0.mk (below_step hbs_ hb); clear hb ho16))
     go_loopg [9, 10] k1 (fun kq v9 v10 w' => ∃ (x9_2 : List (List Bool)) (x10_2 : Int), v10 = .int .i64 x10_2 ∧ Aside0 (spec_l03All.l1 kq a1 (wrap64 (2 * (l0_1.length : Int))) x7_1 x8_1 x9_2 x10_2 a0_0 l0_1 = some (r1, r2)) ∧ Aside0 (kq ≤ k1) ∧ Aside0 (Kd.N (Kd.slice 2 (Kd.int .i64)) 26 w' w.heap.size (fun k_ => (w.heap.size ≤ k_) ∧ some k_ ≠ (v9 : Value).ownBlock ∧ k_ ≠ gb211) u7 x7_1) ∧ Aside0 (Kd.N (Kd.slice 4 Kd.bool) 86 w' w.heap.size (fun k_ => (w.heap.size ≤ k_) ∧ some k_ ≠ (u7 : Value).ownBlock ∧ k_ ≠ gb211) v9 x9_2) ∧ Aside0 (w'.heap[gb211]? = some (.cells #[.int .i64 a0_0, (.slice A0_1 l0_1.length c0_1)] 29 (0, 0))) ∧ Aside0 (Below w.heap.size w w'))
     case atStart => exact ⟨(y216), (0), es_, H', ⟨Nat.le_refl _⟩, ⟨by (with_reducible repeat (first | apply Kd.N_alloc | apply Kd.N_drewN | apply Kd.N_drew)); exact Kd.N_mono HO_7.out (fun _ hk => ⟨hk.1.1, ⟨hk.2, hk.1.2⟩⟩)⟩, ⟨Kd.N_below HO218.out bgo_⟩, ⟨blk_below BK211.out bgo_⟩, ⟨hbs_⟩⟩
     case round =>
      clear H'
      obtain ⟨x9_2, x10_2, rfl, HA, HK2, HO_7, HO_9, BK211, HB⟩ := hrel
      cases gk with
      | zero => exact absurd HA.out (by simp [spec_l03All.l1])
      | succ k2 =>
       have H := HA.out
       clear HA
       simp only [spec_l03All.l1] at H
       by_cases c17 : x10_2 < a1
       ·rw [if_pos c17] at H
        have c17b0 := decide_eq_true c17
        clear c17
        obtain ⟨y219, Ny219, H⟩ : ∃ y219 : List Bool, Aside0 (y219 = (([] : List Bool))) ∧ (spec_l03All.l2 k2 a1 (wrap64 (2 * (l0_1.length : Int))) x7_1 x8_1 x9_2 x10_2 y219 0 a0_0 l0_1) = some (r1, r2) := ⟨_, ⟨rfl⟩, H⟩
        have H' := Aside0.mk H
        clear H
        go_wp2_with (first | ((with_reducible refine gate_dst (N := 40) rfl ?_); refine Kd.R_lit Kd.bool _ 4 ?hg (N := 40) ?hd (xs := ([] : List Bool)) (inner := []) (ok := fun _ => True) (okp := fun _ => True) ?hr ?hp (fun _ hk => hk) trivial (Below.refl _ _) (Nat.le_refl _) (by simp) ?_; (case hd => rfl); (case hg => rfl); (case hr => first | (go_simp; done) | (go_simp; rfl)); (case hp => exact (Reps.none _ _)); intro v220 w18 ho19 hb hg_ hnew_; clear hg_ hnew_; (first | rw [← Ny219.out] at ho19 | (simp only [Int.reduceToNat] at ho19; rw [← Ny219.out] at ho19)); replace HO_7 := Aside0.mk (Kd.N_elder' (Kd.N_below HO_7.out bgo_) (Kd.R_base ho19) hb); replace HO_9 := Aside0.mk (Kd.N_elder' (Kd.N_below HO_9.out bgo_) (Kd.R_base ho19) hb); have HO221 := Aside0.mk (Kd.R_lower (Kd.R_newM (M := fun k_ => (w.heap.size ≤ k_)) ho19 (below_size hbs_) (fun k_ h_ => h_)) (below_size hbs_)); replace BK211 := Aside0.mk (blk_below (g := gb211) (o := .cells #[.int .i64 a0_0, .slice A0_1 l0_1.length c0_1] 29 (0, 0)) (blk_below BK211.out bgo_) hb); replace HB := Aside0.mk (below_step hbs_ hb); clear hb ho19))
        go_loopg [11, 12] k2 (fun kq v11 v12 w' => ∃ (x11_3 : List Bool) (x12_3 : Int), v12 = .int .i64 x12_3 ∧ Aside0 (spec_l03All.l2 kq a1 (wrap64 (2 * (l0_1.length : Int))) x7_1 x8_1 x9_2 x10_2 x11_3 x12_3 a0_0 l0_1 = some (r1, r2)) ∧ Aside0 (kq ≤ k2) ∧ Aside0 (Kd.N (Kd.slice 2 (Kd.int .i64)) 26 w' w.heap.size (fun k_ => (w.heap.size ≤ k_) ∧ some k_ ≠ (u9 : Value).ownBlock ∧ some k_ ≠ (v11 : Value).ownBlock ∧ k_ ≠ gb211) u7 x7_1) ∧ Aside0 (Kd.N (Kd.slice 4 Kd.bool) 86 w' w.heap.size (fun k_ => (w.heap.size ≤ k_) ∧ some k_ ≠ (u7 : Value).ownBlock ∧ some k_ ≠ (v11 : Value).ownBlock ∧ k_ ≠ gb211) u9 x9_2) ∧ Aside0 (Kd.R Kd.bool 4 w' w.heap.size (fun k_ => (w.heap.size ≤ k_)) v11 x11_3) ∧ Aside0 (w'.heap[gb211]? = some (.cells #[.int .i64 a0_0, (.slice A0_1 l0_1.length c0_1)] 29 (0, 0))) ∧ Aside0 (Below w.heap.size w w'))
        case atStart => exact ⟨(y219), (0), es_, H', ⟨Nat.le_refl _⟩, ⟨by (with_reducible repeat (first | apply Kd.N_alloc | apply Kd.N_drewN | apply Kd.N_drew)); exact Kd.N_mono HO_7.out (fun _ hk => ⟨hk.1.1, ⟨hk.1.2.1, ⟨hk.2, hk.1.2.2⟩⟩⟩)⟩, ⟨by (with_reducible repeat (first | apply Kd.N_alloc | apply Kd.N_drewN | apply Kd.N_drew)); exact Kd.N_mono HO_9.out (fun _ hk => ⟨hk.1.1, ⟨hk.1.2.1, ⟨hk.2, hk.1.2.2⟩⟩⟩)⟩, ⟨by (with_reducible repeat (first | apply Kd.R_alloc | apply Kd.R_drewN | apply Kd.R_drew)); exact Kd.R_mono HO221.out (fun _ hk => hk.1)⟩, ⟨blk_below BK211.out bgo_⟩, ⟨hbs_⟩⟩
        case round =>
         clear H'
         obtain ⟨x11_3, x12_3, rfl, HA, HK3, HO_7, HO_9, HO_11, BK211, HB⟩ := hrel
         cases gk with
         | zero => exact absurd HA.out (by simp [spec_l03All.l2])
         | succ k3 =>
          have H := HA.out
          clear HA
          simp only [spec_l03All.l2] at H
          by_cases c20 : x12_3 < (wrap64 (2 * (l0_1.length : Int)))
          ·rw [if_pos c20] at H
           have c20b0 := decide_eq_true c20
           clear c20
           have HC21 := Aside0.mk H
           clear H
           go_upto_region 15 with (fail)
           go_cut [13] (fun v13 wc => ∃ (kq : Nat) (x13_20 : Bool), v13 = .bool x13_20 ∧ Aside0 (spec_l03All.j3 kq a1 (wrap64 (2 * (l0_1.length : Int))) x7_1 x8_1 x9_2 x10_2 x11_3 x12_3 x13_20 a0_0 l0_1 = some (r1, r2)) ∧ Aside0 (kq ≤ k3) ∧ Aside0 (Kd.N (Kd.slice 2 (Kd.int .i64)) 26 wc w.heap.size (fun k_ => (w.heap.size ≤ k_) ∧ some k_ ≠ (u9 : Value).ownBlock ∧ some k_ ≠ (u11 : Value).ownBlock ∧ k_ ≠ gb211) u7 x7_1) ∧ Aside0 (Kd.N (Kd.slice 4 Kd.bool) 86 wc w.heap.size (fun k_ => (w.heap.size ≤ k_) ∧ some k_ ≠ (u7 : Value).ownBlock ∧ some k_ ≠ (u11 : Value).ownBlock ∧ k_ ≠ gb211) u9 x9_2) ∧ Aside0 (Kd.R Kd.bool 4 wc w.heap.size (fun k_ => (w.heap.size ≤ k_)) u11 x11_3) ∧ Aside0 (wc.heap[gb211]? = some (.cells #[.int .i64 a0_0, (.slice A0_1 l0_1.length c0_1)] 29 (0, 0))) ∧ Aside0 (Below w.heap.size w wc))
           case first =>
            have H := HC21.out
            clear HC21
            by_cases c22 : x10_2 = 0
            ·rw [if_pos c22] at H
             have c22b0 : (x10_2 == 0) = true := beq_iff_eq.mpr c22
             have c22b1 : (x10_2 != 0) = false := bne_eq_false_iff_eq.mpr c22
             clear c22
             (first | rw [c22b0] | (simp only [i64_w, i32_w]; rw [c22b0]) | skip)
             obtain ⟨t225, A23, H⟩ := bnd_ H
             have H' := Aside0.mk H
             clear H
             have hcz24_0 : wr.cell? ⟨gb211, 0, none⟩ = some (.int .i64 a0_0) := (blk_cell BK211.out 0).trans rfl
             have hcz24_1 : wr.cell? ⟨gb211, 1, none⟩ = some (.slice A0_1 l0_1.length c0_1) := (blk_cell BK211.out 1).trans rfl
             have hfz24_0 := blk_frozen BK211.out 0
             have hfz24_1 := blk_frozen BK211.out 1
             go_wp2_with (first | (go_at_call 102; (with_reducible refine (spec_l03Next.calls a0_0 _ _ l0_1 x12_3 x8_1 t225 _ ?side1 ?side2 A23.out).mono ?_); (case side1 => exact Kd.C_below (Kd.C_below HR0_1.out HB.out) bgo_); (case side2 => exact HC0_1.out); rintro e w25 ⟨rfl, hb⟩; replace HO_7 := Aside0.mk (Kd.N_below (Kd.N_below HO_7.out bgo_) hb); replace HO_9 := Aside0.mk (Kd.N_below (Kd.N_below HO_9.out bgo_) hb); replace HO_11 := Aside0.mk (Kd.R_below (Kd.R_below HO_11.out bgo_) hb); replace BK211 := Aside0.mk (blk_below (g := gb211) (o := .cells #[.int .i64 a0_0, .slice A0_1 l0_1.length c0_1] 29 (0, 0)) (blk_below BK211.out bgo_) hb); replace HB := Aside0.mk (below_step hbs_ hb); (try clear hb); (try clear hb2); (try clear hk); (try clear hi)))
             go_meet
             case rel => exact ⟨_, (t225), es_, H', ⟨by have := HK1.out; have := HK2.out; have := HK3.out; first | omega | exact Nat.le_refl _⟩, ⟨Kd.N_below HO_7.out bgo_⟩, ⟨Kd.N_below HO_9.out bgo_⟩, ⟨Kd.R_below HO_11.out bgo_⟩, ⟨blk_below BK211.out bgo_⟩, ⟨hbs_⟩⟩
            ·rw [if_neg c22] at H
             have c22b0 : (x10_2 == 0) = false := beq_eq_false_iff_ne.mpr c22
             have c22b1 : (x10_2 != 0) = true := bne_iff_ne.mpr c22
             (first | rw [c22b0] | (simp only [i64_w, i32_w]; rw [c22b0]) | skip)
             have H' := Aside0.mk H
             clear H
             go_wp2
             go_meet
             case rel => exact ⟨_, (false), es_, H', ⟨by have := HK1.out; have := HK2.out; have := HK3.out; first | omega | exact Nat.le_refl _⟩, ⟨Kd.N_below HO_7.out bgo_⟩, ⟨Kd.N_below HO_9.out bgo_⟩, ⟨Kd.R_below HO_11.out bgo_⟩, ⟨blk_below BK211.out bgo_⟩, ⟨hbs_⟩⟩
           case rest =>
            clear HC21
            obtain ⟨kq, x13_20, rfl, HA, HJ20, HO_7, HO_9, HO_11, BK211, HB⟩ := hcut
            cases kq with
            | zero => exact absurd HA.out (by simp [spec_l03All.j3])
            | succ kj20 =>
             have H := HA.out
             clear HA
             simp only [spec_l03All.j3] at H
             have H' := Aside0.mk H
             clear H
             go_wp2
             go_loopg [13, 14] kj20 (fun kq v13 v14 w' => ∃ (x13_5 : Bool) (x14_5 : Int), v13 = .bool x13_5 ∧ v14 = .int .i64 x14_5 ∧ Aside0 (spec_l03All.l3 kq a1 (wrap64 (2 * (l0_1.length : Int))) x7_1 x8_1 x9_2 x10_2 x11_3 x12_3 x13_5 x14_5 a0_0 l0_1 = some (r1, r2)) ∧ Aside0 (kq ≤ kj20) ∧ Aside0 (Kd.N (Kd.slice 2 (Kd.int .i64)) 26 w' w.heap.size (fun k_ => (w.heap.size ≤ k_) ∧ some k_ ≠ (u9 : Value).ownBlock ∧ some k_ ≠ (u11 : Value).ownBlock ∧ k_ ≠ gb211) u7 x7_1) ∧ Aside0 (Kd.N (Kd.slice 4 Kd.bool) 86 w' w.heap.size (fun k_ => (w.heap.size ≤ k_) ∧ some k_ ≠ (u7 : Value).ownBlock ∧ some k_ ≠ (u11 : Value).ownBlock ∧ k_ ≠ gb211) u9 x9_2) ∧ Aside0 (Kd.R Kd.bool 4 w' w.heap.size (fun k_ => (w.heap.size ≤ k_)) u11 x11_3) ∧ Aside0 (w'.heap[gb211]? = some (.cells #[.int .i64 a0_0, (.slice A0_1 l0_1.length c0_1)] 29 (0, 0))) ∧ Aside0 (Below w.heap.size w w'))
             case atStart => exact ⟨(x13_20), (0), es_, es_, H', ⟨Nat.le_refl _⟩, ⟨Kd.N_below HO_7.out bgo_⟩, ⟨Kd.N_below HO_9.out bgo_⟩, ⟨Kd.R_below HO_11.out bgo_⟩, ⟨blk_below BK211.out bgo_⟩, ⟨hbs_⟩⟩
             case round =>
              clear H'
              obtain ⟨x13_5, x14_5, rfl, rfl, HA, HK5, HO_7, HO_9, HO_11, BK211, HB⟩ := hrel
              cases gk with
              | zero => exact absurd HA.out (by simp [spec_l03All.l3])
              | succ k5 =>
               have H := HA.out
               clear HA
               simp only [spec_l03All.l3] at H
               by_cases c26 : x14_5 < (wrap64 (2 * (l0_1.length : Int)))
               ·rw [if_pos c26] at H
                have c26b0 := decide_eq_true c26
                clear c26
                by_cases c27 : x10_2 > 0
                ·rw [if_pos c27] at H
                 have c27b0 := decide_eq_true c27
                 clear c27
                 by_cases c28 : x13_5 = true
                 ·subst c28
                  have H1 : (spec_l03All.l3 k5 a1 (wrap64 (2 * (l0_1.length : Int))) x7_1 x8_1 x9_2 x10_2 x11_3 x12_3 true (wrap64 (x14_5 + 1)) a0_0 l0_1) = some (r1, r2) := by rw [if_pos rfl] at H; exact H
                  clear H
                  have H := H1
                  clear H1
                  have H' := Aside0.mk H
                  clear H
                  go_wp2
                  first | go_roundg k5 | (refine Handed.intro k5 ?measure ?_; rotate_left; go_step; (try simp only [add_plain]); (repeat apply Exists.intro); refine ⟨?rel, rfl⟩)
                  case measure => have := HK1.out; have := HK2.out; have := HK3.out; have := HJ20.out; have := HK5.out; omega
                  case rel => exact ⟨(true), (wrap64 (x14_5 + 1)), es_, es_, H', ⟨by have := HK1.out; have := HK2.out; have := HK3.out; have := HJ20.out; have := HK5.out; omega⟩, ⟨Kd.N_below HO_7.out bgo_⟩, ⟨Kd.N_below HO_9.out bgo_⟩, ⟨Kd.R_below HO_11.out bgo_⟩, ⟨blk_below BK211.out bgo_⟩, ⟨hbs_⟩⟩
                 ·replace c28 := Bool.eq_false_iff.mpr c28
                  subst c28
                  have H1 : ((spec_l03Next.f a0_0 l0_1 x12_3 x14_5).bind fun t226 => (if t226 = true then (if 0 ≤ (wrap64 (x10_2 - 1)) then (if (wrap64 (x10_2 - 1)) < (x9_2.length : Int) then (if 0 ≤ x14_5 then (if x14_5 < ((rd_L5 x9_2 (wrap64 (x10_2 - 1))).length : Int) then (spec_l03All.l3 k5 a1 (wrap64 (2 * (l0_1.length : Int))) x7_1 x8_1 x9_2 x10_2 x11_3 x12_3 (rdOf false (rd_L5 x9_2 (wrap64 (x10_2 - 1))) x14_5) (wrap64 (x14_5 + 1)) a0_0 l0_1) else (none)) else (none)) else (none)) else (none)) else (spec_l03All.l3 k5 a1 (wrap64 (2 * (l0_1.length : Int))) x7_1 x8_1 x9_2 x10_2 x11_3 x12_3 false (wrap64 (x14_5 + 1)) a0_0 l0_1))) = some (r1, r2) := by rw [if_neg (show ¬ (false = true) by decide)] at H; exact H
                  clear H
                  have H := H1
                  clear H1
                  obtain ⟨t226, A29, H⟩ := bnd_ H
                  by_cases c30 : t226 = true
                  ·subst c30
                   have H1 : (if 0 ≤ (wrap64 (x10_2 - 1)) then (if (wrap64 (x10_2 - 1)) < (x9_2.length : Int) then (if 0 ≤ x14_5 then (if x14_5 < ((rd_L5 x9_2 (wrap64 (x10_2 - 1))).length : Int) then (spec_l03All.l3 k5 a1 (wrap64 (2 * (l0_1.length : Int))) x7_1 x8_1 x9_2 x10_2 x11_3 x12_3 (rdOf false (rd_L5 x9_2 (wrap64 (x10_2 - 1))) x14_5) (wrap64 (x14_5 + 1)) a0_0 l0_1) else (none)) else (none)) else (none)) else (none)) = some (r1, r2) := by rw [if_pos rfl] at H; exact H
                   clear H
                   have H := H1
                   clear H1
                   obtain ⟨ji31, hji31⟩ : ∃ j_ : Int, (wrap64 (x10_2 - 1)) = j_ := ⟨_, rfl⟩
                   (try rw [hji31])
                   replace H : (if 0 ≤ (ji31) then (if (ji31) < (x9_2.length : Int) then (if 0 ≤ x14_5 then (if x14_5 < ((rd_L5 x9_2 (ji31)).length : Int) then (spec_l03All.l3 k5 a1 (wrap64 (2 * (l0_1.length : Int))) x7_1 x8_1 x9_2 x10_2 x11_3 x12_3 (rdOf false (rd_L5 x9_2 (ji31)) x14_5) (wrap64 (x14_5 + 1)) a0_0 l0_1) else (none)) else (none)) else (none)) else (none)) = some (r1, r2) := by first | (rw [hji31] at H; exact H) | (simp only [hji31] at H ⊢; exact H)
                   (try rw [hji31] at A29)
                   have hji31w : (IntKind.i64.wrap (x10_2 - 1)) = ji31 := (i64_w _).trans hji31
                   obtain ⟨c32, H⟩ := itn_ H
                   have c32b0 := decide_eq_true c32
                   clear c32
                   obtain ⟨c33, H⟩ := itn_ H
                   have c33b0 := decide_eq_true c33
                   clear c33
                   obtain ⟨c34, H⟩ := itn_ H
                   have c34b0 := decide_eq_true c34
                   clear c34
                   obtain ⟨c35, H⟩ := itn_ H
                   have c35b0 := decide_eq_true c35
                   clear c35
                   have H' := Aside0.mk H
                   clear H
                   have hcz36_0 : wr.cell? ⟨gb211, 0, none⟩ = some (.int .i64 a0_0) := (blk_cell BK211.out 0).trans rfl
                   have hcz36_1 : wr.cell? ⟨gb211, 1, none⟩ = some (.slice A0_1 l0_1.length c0_1) := (blk_cell BK211.out 1).trans rfl
                   have hfz36_0 := blk_frozen BK211.out 0
                   have hfz36_1 := blk_frozen BK211.out 1
                   go_wp2_with (first | (go_at_call 102; (with_reducible refine (spec_l03Next.calls a0_0 _ _ l0_1 x12_3 x14_5 true _ ?side1 ?side2 A29.out).mono ?_); (case side1 => exact Kd.C_below (Kd.C_below HR0_1.out HB.out) bgo_); (case side2 => exact HC0_1.out); rintro e w37 ⟨rfl, hb⟩; replace HO_7 := Aside0.mk (Kd.N_below (Kd.N_below HO_7.out bgo_) hb); replace HO_9 := Aside0.mk (Kd.N_below (Kd.N_below HO_9.out bgo_) hb); replace HO_11 := Aside0.mk (Kd.R_below (Kd.R_below HO_11.out bgo_) hb); replace BK211 := Aside0.mk (blk_below (g := gb211) (o := .cells #[.int .i64 a0_0, .slice A0_1 l0_1.length c0_1] 29 (0, 0)) (blk_below BK211.out bgo_) hb); replace HB := Aside0.mk (below_step hbs_ hb); (try clear hb); (try clear hb2); (try clear hk); (try clear hi); obtain ⟨Ao38, co38, eo38⟩ := Kd.N_slice HO_9.out; subst eo38; have p227 : 0 ≤ ((ji31) : Int) := od_; have q227 : (ji31) < (x9_2.length : Int) := od_; obtain ⟨ad227, A227_0, c227_0, e227, hx227_0, hl227_0, hi227_0⟩ := at_L5 (Kd.N_reads' HO_9.out).2.2 (ji31) p227 q227; cases e227; obtain ⟨ce227, hce227, hMe227, hcc227⟩ := Kd.N_get HO_9.out [] (ji31) p227 (by first | exact q227 | exact od_ | (have e_ := (Kd.N_reads' HO_9.out).1; omega)); obtain ⟨ua227_0, uc227_0, rfl, ul227_0, ge227_0⟩ := Kd.FK_slice_open hMe227; have hv227_0 := hcc227 0 _ rfl; rw [Nat.add_zero, show ((Kd.slice 4 Kd.bool)).sz = 1 from rfl, Nat.mul_one] at hv227_0; replace hv227_0 := Option.some.inj (hv227_0.symm.trans hx227_0); injection hv227_0 with hva_ hvn_ hvc_; rw [hva_] at ge227_0; rw [hvc_] at ul227_0; have HL227_0 := Aside0.mk (show Kd.V Kd.bool 4 _ w.heap.size _ _ (rd_L5 x9_2 (ji31)) from Kd.V_mk ul227_0 ge227_0); clear hva_ hvn_ hvc_ ge227_0 ul227_0; clear hcc227 hce227; have HR227_0 := Aside0.mk hi227_0; have HC227_0 := Aside0.mk hl227_0; clear hi227_0 hl227_0; replace p227 := eq_true p227; replace q227 := eq_true q227; have p228 : 0 ≤ (x14_5 : Int) := od_; have q228 : x14_5 < ((rd_L5 x9_2 (ji31)).length : Int) := od_; obtain ⟨ad228, e228, hx228_0⟩ := Kd.at_bool (by repeat (first | (with_reducible exact HR227_0.out) | (with_reducible refine Kd.C_alloc ?_ _) | (with_reducible refine Kd.C_drewN ?_ _) | (with_reducible refine Kd.C_drew ?_) | exact HR227_0.out)) x14_5 p228 q228; cases e228; replace p228 := eq_true p228; replace q228 := eq_true q228))
                   first | (first | go_roundg k5 | (refine Handed.intro k5 ?measure ?_; rotate_left; go_step; (try simp only [add_plain]); (repeat apply Exists.intro); refine ⟨?rel, rfl⟩)) | ((try subst hji31); (first | go_roundg k5 | (refine Handed.intro k5 ?measure ?_; rotate_left; go_step; (try simp only [add_plain]); (repeat apply Exists.intro); refine ⟨?rel, rfl⟩)))
                   case measure => have := HK1.out; have := HK2.out; have := HK3.out; have := HJ20.out; have := HK5.out; omega
                   case rel => exact ⟨(rdOf false (rd_L5 x9_2 (ji31)) x14_5), (wrap64 (x14_5 + 1)), (by first | rfl | (simp; done) | (simp only [← hji31] <;> (first | rfl | simp)) | (simp [*]; done)), es_, H', ⟨by have := HK1.out; have := HK2.out; have := HK3.out; have := HJ20.out; have := HK5.out; omega⟩, ⟨Kd.N_below HO_7.out bgo_⟩, ⟨Kd.N_below HO_9.out bgo_⟩, ⟨Kd.R_below HO_11.out bgo_⟩, ⟨blk_below BK211.out bgo_⟩, ⟨hbs_⟩⟩
                  ·replace c30 := Bool.eq_false_iff.mpr c30
                   subst c30
                   have H1 : (spec_l03All.l3 k5 a1 (wrap64 (2 * (l0_1.length : Int))) x7_1 x8_1 x9_2 x10_2 x11_3 x12_3 false (wrap64 (x14_5 + 1)) a0_0 l0_1) = some (r1, r2) := by rw [if_neg (show ¬ (false = true) by decide)] at H; exact H
                   clear H
                   have H := H1
                   clear H1
                   have H' := Aside0.mk H
                   clear H
                   have hcz39_0 : wr.cell? ⟨gb211, 0, none⟩ = some (.int .i64 a0_0) := (blk_cell BK211.out 0).trans rfl
                   have hcz39_1 : wr.cell? ⟨gb211, 1, none⟩ = some (.slice A0_1 l0_1.length c0_1) := (blk_cell BK211.out 1).trans rfl
                   have hfz39_0 := blk_frozen BK211.out 0
                   have hfz39_1 := blk_frozen BK211.out 1
                   go_wp2_with (first | (go_at_call 102; (with_reducible refine (spec_l03Next.calls a0_0 _ _ l0_1 x12_3 x14_5 false _ ?side1 ?side2 A29.out).mono ?_); (case side1 => exact Kd.C_below (Kd.C_below HR0_1.out HB.out) bgo_); (case side2 => exact HC0_1.out); rintro e w40 ⟨rfl, hb⟩; replace HO_7 := Aside0.mk (Kd.N_below (Kd.N_below HO_7.out bgo_) hb); replace HO_9 := Aside0.mk (Kd.N_below (Kd.N_below HO_9.out bgo_) hb); replace HO_11 := Aside0.mk (Kd.R_below (Kd.R_below HO_11.out bgo_) hb); replace BK211 := Aside0.mk (blk_below (g := gb211) (o := .cells #[.int .i64 a0_0, .slice A0_1 l0_1.length c0_1] 29 (0, 0)) (blk_below BK211.out bgo_) hb); replace HB := Aside0.mk (below_step hbs_ hb); (try clear hb); (try clear hb2); (try clear hk); (try clear hi)))
                   first | go_roundg k5 | (refine Handed.intro k5 ?measure ?_; rotate_left; go_step; (try simp only [add_plain]); (repeat apply Exists.intro); refine ⟨?rel, rfl⟩)
                   case measure => have := HK1.out; have := HK2.out; have := HK3.out; have := HJ20.out; have := HK5.out; omega
                   case rel => exact ⟨(false), (wrap64 (x14_5 + 1)), es_, es_, H', ⟨by have := HK1.out; have := HK2.out; have := HK3.out; have := HJ20.out; have := HK5.out; omega⟩, ⟨Kd.N_below HO_7.out bgo_⟩, ⟨Kd.N_below HO_9.out bgo_⟩, ⟨Kd.R_below HO_11.out bgo_⟩, ⟨blk_below BK211.out bgo_⟩, ⟨hbs_⟩⟩
                ·rw [if_neg c27] at H
                 have c27b0 := decide_eq_false c27
                 clear c27
                 obtain ⟨c41, H⟩ := itn_ H
                 have LMc41 := Aside0.mk c41
                 clear c41
                 obtain ⟨y229, Ny229, H⟩ : ∃ y229 : List Bool, Aside0 (y229 = (x11_3 ++ [x13_5])) ∧ (spec_l03All.l2 k5 a1 (wrap64 (2 * (l0_1.length : Int))) x7_1 x8_1 x9_2 x10_2 y229 (wrap64 (x12_3 + 1)) a0_0 l0_1) = some (r1, r2) := ⟨_, ⟨rfl⟩, H⟩
                 have H' := Aside0.mk H
                 clear H
                 go_wp2_with (first | ((with_reducible refine gate_builtin (b := .append) (xs := #[.tmp 80, .tmp 82]) rfl ?_); at_builtin; refine Kd.R_append Kd.bool (w0 := w) w.heap.size rfl (.tmp 80) (.tmp 82) 86 4 (.bool false) 1 rfl Try.underlying86 info4 rfl (by decide) (by omega) u11 x11_3 x13_5 [.bool x13_5] (fun k_ => (w.heap.size ≤ k_)) (fun _ => False) rfl rfl ?aP (fun _ hk => hk.elim) ?aF ?aO ?aB ?aS ?aL ?_; (case aP => exact rfl); (case aB => exact hbs_); (case aF => exact (fun k_ hk => (Nat.le_trans (below_size hbs_) hk))); (case aO => exact (Kd.R_below HO_11.out bgo_)); (case aS => exact (below_size hbs_)); (case aL => have := LMc41.out; omega); intro v230 w42 ho hb hg hat; rw [← Ny229.out] at ho; replace HO_7 := Aside0.mk (Kd.N_afterv (ok := (fun k_ => (w.heap.size ≤ k_) ∧ some k_ ≠ (u9 : Value).ownBlock ∧ k_ ≠ gb211)) (by (with_reducible repeat (first | apply Kd.N_alloc | apply Kd.N_drewN | apply Kd.N_drew)); exact Kd.N_mono HO_7.out (fun _ hk => ⟨⟨hk.1, ⟨hk.2.1, hk.2.2.2⟩⟩, hk.2.2.1⟩)) hg hat); replace HO_9 := Aside0.mk (Kd.N_afterv (ok := (fun k_ => (w.heap.size ≤ k_) ∧ some k_ ≠ (u7 : Value).ownBlock ∧ k_ ≠ gb211)) (by (with_reducible repeat (first | apply Kd.N_alloc | apply Kd.N_drewN | apply Kd.N_drew)); exact Kd.N_mono HO_9.out (fun _ hk => ⟨⟨hk.1, ⟨hk.2.1, hk.2.2.2⟩⟩, hk.2.2.1⟩)) hg hat); replace BK211 := Aside0.mk (blk_grown (g := gb211) (o := .cells #[.int .i64 a0_0, .slice A0_1 l0_1.length c0_1] 29 (0, 0)) (blk_below BK211.out bgo_) hg (Kd.R_ne HO_11.out BK211.out (by decide))); replace HB := Aside0.mk (hb); have HO231 := Aside0.mk (ho); clear HO_11; clear ho hb hg hat))
                 first | go_roundg k5 | (refine Handed.intro k5 ?measure ?_; rotate_left; go_step; (try simp only [add_plain]); (repeat apply Exists.intro); refine ⟨?rel, rfl⟩)
                 case measure => have := HK1.out; have := HK2.out; have := HK3.out; have := HJ20.out; have := HK5.out; omega
                 case rel => exact ⟨(y229), (wrap64 (x12_3 + 1)), es_, H', ⟨by have := HK1.out; have := HK2.out; have := HK3.out; have := HJ20.out; have := HK5.out; omega⟩, ⟨by (with_reducible repeat (first | apply Kd.N_alloc | apply Kd.N_drewN | apply Kd.N_drew)); exact Kd.N_mono HO_7.out (fun _ hk => ⟨hk.1.1, ⟨hk.1.2.1, ⟨hk.2, hk.1.2.2⟩⟩⟩)⟩, ⟨by (with_reducible repeat (first | apply Kd.N_alloc | apply Kd.N_drewN | apply Kd.N_drew)); exact Kd.N_mono HO_9.out (fun _ hk => ⟨hk.1.1, ⟨hk.1.2.1, ⟨hk.2, hk.1.2.2⟩⟩⟩)⟩, ⟨Kd.R_below HO231.out bgo_⟩, ⟨blk_below BK211.out bgo_⟩, ⟨hbs_⟩⟩
               ·rw [if_neg c26] at H
                have c26b0 := decide_eq_false c26
                clear c26
                obtain ⟨c43, H⟩ := itn_ H
                have LMc43 := Aside0.mk c43
                clear c43
                obtain ⟨y232, Ny232, H⟩ : ∃ y232 : List Bool, Aside0 (y232 = (x11_3 ++ [x13_5])) ∧ (spec_l03All.l2 k5 a1 (wrap64 (2 * (l0_1.length : Int))) x7_1 x8_1 x9_2 x10_2 y232 (wrap64 (x12_3 + 1)) a0_0 l0_1) = some (r1, r2) := ⟨_, ⟨rfl⟩, H⟩
                have H' := Aside0.mk H
                clear H
                go_wp2_with (first | ((with_reducible refine gate_builtin (b := .append) (xs := #[.tmp 80, .tmp 82]) rfl ?_); at_builtin; refine Kd.R_append Kd.bool (w0 := w) w.heap.size rfl (.tmp 80) (.tmp 82) 86 4 (.bool false) 1 rfl Try.underlying86 info4 rfl (by decide) (by omega) u11 x11_3 x13_5 [.bool x13_5] (fun k_ => (w.heap.size ≤ k_)) (fun _ => False) rfl rfl ?aP (fun _ hk => hk.elim) ?aF ?aO ?aB ?aS ?aL ?_; (case aP => exact rfl); (case aB => exact hbs_); (case aF => exact (fun k_ hk => (Nat.le_trans (below_size hbs_) hk))); (case aO => exact (Kd.R_below HO_11.out bgo_)); (case aS => exact (below_size hbs_)); (case aL => have := LMc43.out; omega); intro v233 w44 ho hb hg hat; rw [← Ny232.out] at ho; replace HO_7 := Aside0.mk (Kd.N_afterv (ok := (fun k_ => (w.heap.size ≤ k_) ∧ some k_ ≠ (u9 : Value).ownBlock ∧ k_ ≠ gb211)) (by (with_reducible repeat (first | apply Kd.N_alloc | apply Kd.N_drewN | apply Kd.N_drew)); exact Kd.N_mono HO_7.out (fun _ hk => ⟨⟨hk.1, ⟨hk.2.1, hk.2.2.2⟩⟩, hk.2.2.1⟩)) hg hat); replace HO_9 := Aside0.mk (Kd.N_afterv (ok := (fun k_ => (w.heap.size ≤ k_) ∧ some k_ ≠ (u7 : Value).ownBlock ∧ k_ ≠ gb211)) (by (with_reducible repeat (first | apply Kd.N_alloc | apply Kd.N_drewN | apply Kd.N_drew)); exact Kd.N_mono HO_9.out (fun _ hk => ⟨⟨hk.1, ⟨hk.2.1, hk.2.2.2⟩⟩, hk.2.2.1⟩)) hg hat); replace BK211 := Aside0.mk (blk_grown (g := gb211) (o := .cells #[.int .i64 a0_0, .slice A0_1 l0_1.length c0_1] 29 (0, 0)) (blk_below BK211.out bgo_) hg (Kd.R_ne HO_11.out BK211.out (by decide))); replace HB := Aside0.mk (hb); have HO234 := Aside0.mk (ho); clear HO_11; clear ho hb hg hat))
                first | go_roundg k5 | (refine Handed.intro k5 ?measure ?_; rotate_left; go_step; (try simp only [add_plain]); (repeat apply Exists.intro); refine ⟨?rel, rfl⟩)
                case measure => have := HK1.out; have := HK2.out; have := HK3.out; have := HJ20.out; have := HK5.out; omega
                case rel => exact ⟨(y232), (wrap64 (x12_3 + 1)), es_, H', ⟨by have := HK1.out; have := HK2.out; have := HK3.out; have := HJ20.out; have := HK5.out; omega⟩, ⟨by (with_reducible repeat (first | apply Kd.N_alloc | apply Kd.N_drewN | apply Kd.N_drew)); exact Kd.N_mono HO_7.out (fun _ hk => ⟨hk.1.1, ⟨hk.1.2.1, ⟨hk.2, hk.1.2.2⟩⟩⟩)⟩, ⟨by (with_reducible repeat (first | apply Kd.N_alloc | apply Kd.N_drewN | apply Kd.N_drew)); exact Kd.N_mono HO_9.out (fun _ hk => ⟨hk.1.1, ⟨hk.1.2.1, ⟨hk.2, hk.1.2.2⟩⟩⟩)⟩, ⟨Kd.R_below HO234.out bgo_⟩, ⟨blk_below BK211.out bgo_⟩, ⟨hbs_⟩⟩
          ·rw [if_neg c20] at H
           have c20b0 := decide_eq_false c20
           clear c20
           obtain ⟨c45, H⟩ := itn_ H
           have LMc45 := Aside0.mk c45
           clear c45
           obtain ⟨y222, Ny222, H⟩ : ∃ y222 : List (List Bool), Aside0 (y222 = (x9_2 ++ [x11_3])) ∧ (spec_l03All.l1 k3 a1 (wrap64 (2 * (l0_1.length : Int))) x7_1 x8_1 y222 (wrap64 (x10_2 + 1)) a0_0 l0_1) = some (r1, r2) := ⟨_, ⟨rfl⟩, H⟩
           have H' := Aside0.mk H
           clear H
           obtain ⟨Ao47, co47, eo47⟩ := Kd.R_slice HO_11.out
           subst eo47
           go_wp2_with (first | ((with_reducible refine gate_builtin (b := .append) (xs := #[.tmp 84, .tmp 86]) rfl ?_); at_builtin; refine Kd.N_append (Kd.slice 4 Kd.bool) (w0 := w) w.heap.size rfl (.tmp 84) (.tmp 86) 103 86 (.slice none 0 0) 24 rfl Try.underlying103 info86 rfl (by decide) (by omega) u9 x9_2 x11_3 [.slice Ao47 x11_3.length co47] (fun k_ => (w.heap.size ≤ k_) ∧ some k_ ≠ (u7 : Value).ownBlock ∧ k_ ≠ gb211) (fun k_ => ((fun k_ => (w.heap.size ≤ k_) ∧ some k_ ≠ (u7 : Value).ownBlock ∧ k_ ≠ gb211)) k_ ∧ some k_ ≠ (u9 : Value).ownBlock) rfl rfl ?aP (fun _ hk => hk) ?aF ?aO ?aB ?aS ?aL ?_; (case aP => exact (Kd.FK_slice_mk (Kd.R_reads' (Kd.R_mono (ok' := (fun k_ => ((fun k_ => (w.heap.size ≤ k_) ∧ some k_ ≠ (u7 : Value).ownBlock ∧ k_ ≠ gb211)) k_ ∧ some k_ ≠ (u9 : Value).ownBlock)) (Kd.R_types (Kd.R_apart' (Kd.R_apart' (HO_11.out) (Kd.N_typed HO_7.out) (by decide)) (Kd.N_typed HO_9.out) (by decide)) BK211.out (by decide)) (fun k_ hk => ⟨⟨hk.1.1.1, ⟨hk.1.1.2, hk.2⟩⟩, hk.1.2⟩))).2.1 (Kd.R_F (Kd.R_mono (ok' := (fun k_ => ((fun k_ => (w.heap.size ≤ k_) ∧ some k_ ≠ (u7 : Value).ownBlock ∧ k_ ≠ gb211)) k_ ∧ some k_ ≠ (u9 : Value).ownBlock)) (Kd.R_types (Kd.R_apart' (Kd.R_apart' (HO_11.out) (Kd.N_typed HO_7.out) (by decide)) (Kd.N_typed HO_9.out) (by decide)) BK211.out (by decide)) (fun k_ hk => ⟨⟨hk.1.1.1, ⟨hk.1.1.2, hk.2⟩⟩, hk.1.2⟩))))); (case aB => exact hbs_); (case aF => exact (fun k_ hk => ⟨(Nat.le_trans (below_size hbs_) hk), Kd.fresh' (Kd.N_lt (Kd.N_below HO_7.out bgo_)) k_ hk, Kd.freshB (g := gb211) (o := .cells #[.int .i64 a0_0, .slice A0_1 l0_1.length c0_1] 29 (0, 0)) (blk_below BK211.out bgo_) k_ hk⟩)); (case aO => exact (by (with_reducible repeat (first | apply Kd.N_alloc | apply Kd.N_drewN | apply Kd.N_drew)); exact Kd.N_mono HO_9.out (fun _ hk => ⟨hk.1, ⟨hk.2.1, hk.2.2.2⟩⟩))); (case aS => exact (below_size hbs_)); (case aL => have := LMc45.out; omega); intro v223 w46 ho hb hg hat; rw [← Ny222.out] at ho; replace HO_7 := Aside0.mk (Kd.N_afterv (ok := (fun k_ => (w.heap.size ≤ k_) ∧ some k_ ≠ (.slice Ao47 x11_3.length co47 : Value).ownBlock ∧ k_ ≠ gb211)) (by (with_reducible repeat (first | apply Kd.N_alloc | apply Kd.N_drewN | apply Kd.N_drew)); exact Kd.N_mono HO_7.out (fun _ hk => ⟨⟨hk.1, ⟨hk.2.2.1, hk.2.2.2⟩⟩, hk.2.1⟩)) hg hat); replace BK211 := Aside0.mk (blk_grown (g := gb211) (o := .cells #[.int .i64 a0_0, .slice A0_1 l0_1.length c0_1] 29 (0, 0)) (blk_below BK211.out bgo_) hg (Kd.N_ne HO_9.out BK211.out (by decide))); replace HB := Aside0.mk (hb); have HO224 := Aside0.mk (ho); clear HO_9 HO_11; clear ho hb hg hat))
           first | go_roundg k3 | (refine Handed.intro k3 ?measure ?_; rotate_left; go_step; (try simp only [add_plain]); (repeat apply Exists.intro); refine ⟨?rel, rfl⟩)
           case measure => have := HK1.out; have := HK2.out; have := HK3.out; omega
           case rel => exact ⟨(y222), (wrap64 (x10_2 + 1)), es_, H', ⟨by have := HK1.out; have := HK2.out; have := HK3.out; omega⟩, ⟨by (with_reducible repeat (first | apply Kd.N_alloc | apply Kd.N_drewN | apply Kd.N_drew)); exact Kd.N_mono HO_7.out (fun _ hk => ⟨hk.1.1, ⟨hk.2, hk.1.2.2⟩⟩)⟩, ⟨Kd.N_below HO224.out bgo_⟩, ⟨blk_below BK211.out bgo_⟩, ⟨hbs_⟩⟩
       ·rw [if_neg c17] at H
        have c17b0 := decide_eq_false c17
        clear c17
        obtain ⟨y235, Ny235, H⟩ : ∃ y235 : List (List Int), Aside0 (y235 = (([] : List (List Int)))) ∧ (if 0 ≤ (wrap64 (a1 - 1)) then (if (wrap64 (a1 - 1)) < (x9_2.length : Int) then (if 0 ≤ x8_1 then (if x8_1 < ((rd_L5 x9_2 (wrap64 (a1 - 1))).length : Int) then (if rdOf false (rd_L5 x9_2 (wrap64 (a1 - 1))) x8_1 = true then (if y235.length < 5864062014805 then (spec_l03All.j5 k2 a1 (wrap64 (2 * (l0_1.length : Int))) x7_1 x8_1 x9_2 (y235 ++ [(([x8_1] : List Int))]) a0_0 l0_1) else (none)) else (spec_l03All.j5 k2 a1 (wrap64 (2 * (l0_1.length : Int))) x7_1 x8_1 x9_2 y235 a0_0 l0_1)) else (none)) else (none)) else (none)) else (none)) = some (r1, r2) := ⟨_, ⟨rfl⟩, H⟩
        obtain ⟨ji48, hji48⟩ : ∃ j_ : Int, (wrap64 (a1 - 1)) = j_ := ⟨_, rfl⟩
        (try rw [hji48])
        replace H : (if 0 ≤ (ji48) then (if (ji48) < (x9_2.length : Int) then (if 0 ≤ x8_1 then (if x8_1 < ((rd_L5 x9_2 (ji48)).length : Int) then (if rdOf false (rd_L5 x9_2 (ji48)) x8_1 = true then (if y235.length < 5864062014805 then (spec_l03All.j5 k2 a1 (wrap64 (2 * (l0_1.length : Int))) x7_1 x8_1 x9_2 (y235 ++ [(([x8_1] : List Int))]) a0_0 l0_1) else (none)) else (spec_l03All.j5 k2 a1 (wrap64 (2 * (l0_1.length : Int))) x7_1 x8_1 x9_2 y235 a0_0 l0_1)) else (none)) else (none)) else (none)) else (none)) = some (r1, r2) := by first | (rw [hji48] at H; exact H) | (simp only [hji48] at H ⊢; exact H)
        have hji48w : (IntKind.i64.wrap (a1 - 1)) = ji48 := (i64_w _).trans hji48
        obtain ⟨c49, H⟩ := itn_ H
        have c49b0 := decide_eq_true c49
        clear c49
        obtain ⟨c50, H⟩ := itn_ H
        have c50b0 := decide_eq_true c50
        clear c50
        obtain ⟨c51, H⟩ := itn_ H
        have c51b0 := decide_eq_true c51
        clear c51
        obtain ⟨c52, H⟩ := itn_ H
        have c52b0 := decide_eq_true c52
        clear c52
        have HC53 := Aside0.mk H
        clear H
        go_upto_if 96 with (first | ((with_reducible refine gate_dst (N := 88) rfl ?_); refine Kd.N_lit (Kd.slice 2 (Kd.int .i64)) _ 26 ?hg (N' := 88) ?hd (xs := ([] : List (List Int))) (inner := []) (ok := (fun k_ => (w.heap.size ≤ k_) ∧ some k_ ≠ (u7 : Value).ownBlock ∧ some k_ ≠ (u9 : Value).ownBlock ∧ k_ ≠ gb211)) (okp := (fun k_ => (w.heap.size ≤ k_) ∧ some k_ ≠ (u7 : Value).ownBlock ∧ some k_ ≠ (u9 : Value).ownBlock ∧ k_ ≠ gb211)) ?hr ?hp (fun _ hk => hk) ((show ∀ k_, wr.heap.size ≤ k_ → (fun k_ => (w.heap.size ≤ k_) ∧ some k_ ≠ (u7 : Value).ownBlock ∧ some k_ ≠ (u9 : Value).ownBlock ∧ k_ ≠ gb211) k_ from fun k_ hk => ⟨(Nat.le_trans (below_size hbs_) hk), Kd.fresh' (Kd.N_lt (Kd.N_below HO_7.out bgo_)) k_ hk, Kd.fresh' (Kd.N_lt (Kd.N_below HO_9.out bgo_)) k_ hk, Kd.freshB (g := gb211) (o := .cells #[.int .i64 a0_0, .slice A0_1 l0_1.length c0_1] 29 (0, 0)) (blk_below BK211.out bgo_) k_ hk⟩) _ (Nat.le_refl _)) (Below.refl _ _) (Nat.le_refl _) (by simp) ?_; (case hd => rfl); (case hg => rfl); (case hr => first | (go_simp; done) | (go_simp; rfl)); (case hp => exact (Reps.none _ _)); intro v236 w54 ho55 hb hg_ hnew_; clear hg_ hnew_; (first | rw [← Ny235.out] at ho55 | (simp only [Int.reduceToNat] at ho55; rw [← Ny235.out] at ho55)); replace HO_7 := Aside0.mk (Kd.N_elder' (Kd.N_below HO_7.out bgo_) (Kd.N_base ho55) hb); replace HO_9 := Aside0.mk (Kd.N_elder' (Kd.N_below HO_9.out bgo_) (Kd.N_base ho55) hb); have HO237 := Aside0.mk (Kd.N_lower ho55 (below_size hbs_)); replace BK211 := Aside0.mk (blk_below (g := gb211) (o := .cells #[.int .i64 a0_0, .slice A0_1 l0_1.length c0_1] 29 (0, 0)) (blk_below BK211.out bgo_) hb); replace HB := Aside0.mk (below_step hbs_ hb); clear hb ho55; obtain ⟨Ao56, co56, eo56⟩ := Kd.N_slice HO_9.out; subst eo56; have p238 : 0 ≤ ((ji48) : Int) := od_; have q238 : (ji48) < (x9_2.length : Int) := od_; obtain ⟨ad238, A238_0, c238_0, e238, hx238_0, hl238_0, hi238_0⟩ := at_L5 (Kd.N_reads' HO_9.out).2.2 (ji48) p238 q238; cases e238; obtain ⟨ce238, hce238, hMe238, hcc238⟩ := Kd.N_get HO_9.out [] (ji48) p238 (by first | exact q238 | exact od_ | (have e_ := (Kd.N_reads' HO_9.out).1; omega)); obtain ⟨ua238_0, uc238_0, rfl, ul238_0, ge238_0⟩ := Kd.FK_slice_open hMe238; have hv238_0 := hcc238 0 _ rfl; rw [Nat.add_zero, show ((Kd.slice 4 Kd.bool)).sz = 1 from rfl, Nat.mul_one] at hv238_0; replace hv238_0 := Option.some.inj (hv238_0.symm.trans hx238_0); injection hv238_0 with hva_ hvn_ hvc_; rw [hva_] at ge238_0; rw [hvc_] at ul238_0; have HL238_0 := Aside0.mk (show Kd.V Kd.bool 4 _ w.heap.size _ _ (rd_L5 x9_2 (ji48)) from Kd.V_mk ul238_0 ge238_0); clear hva_ hvn_ hvc_ ge238_0 ul238_0; clear hcc238 hce238; have HR238_0 := Aside0.mk hi238_0; have HC238_0 := Aside0.mk hl238_0; clear hi238_0 hl238_0; replace p238 := eq_true p238; replace q238 := eq_true q238; have p239 : 0 ≤ (x8_1 : Int) := od_; have q239 : x8_1 < ((rd_L5 x9_2 (ji48)).length : Int) := od_; obtain ⟨ad239, e239, hx239_0⟩ := Kd.at_bool (by repeat (first | (with_reducible exact HR238_0.out) | (with_reducible refine Kd.C_alloc ?_ _) | (with_reducible refine Kd.C_drewN ?_ _) | (with_reducible refine Kd.C_drew ?_) | exact HR238_0.out)) x8_1 p239 q239; cases e239; replace p239 := eq_true p239; replace q239 := eq_true q239))
        (try simp only [Act.put, List.setIfInBounds_toArray, List.set_cons_zero, List.set_cons_succ])
        go_cut [15] (fun v15 wc => ∃ (kq : Nat) (x15_52 : List (List Int)), Aside0 (spec_l03All.j5 kq a1 (wrap64 (2 * (l0_1.length : Int))) x7_1 x8_1 x9_2 x15_52 a0_0 l0_1 = some (r1, r2)) ∧ Aside0 (kq ≤ k2) ∧ Aside0 (Kd.N (Kd.slice 2 (Kd.int .i64)) 26 wc w.heap.size (fun k_ => (w.heap.size ≤ k_) ∧ some k_ ≠ ((.slice (some ad238) x9_2.length co56) : Value).ownBlock ∧ some k_ ≠ (v15 : Value).ownBlock ∧ k_ ≠ gb211) u7 x7_1) ∧ Aside0 (Kd.N (Kd.slice 4 Kd.bool) 86 wc w.heap.size (fun k_ => (w.heap.size ≤ k_) ∧ some k_ ≠ (u7 : Value).ownBlock ∧ some k_ ≠ (v15 : Value).ownBlock ∧ k_ ≠ gb211) (.slice (some ad238) x9_2.length co56) x9_2) ∧ Aside0 (Kd.N (Kd.slice 2 (Kd.int .i64)) 26 wc w.heap.size (fun k_ => (w.heap.size ≤ k_) ∧ some k_ ≠ (u7 : Value).ownBlock ∧ some k_ ≠ ((.slice (some ad238) x9_2.length co56) : Value).ownBlock ∧ k_ ≠ gb211) v15 x15_52) ∧ Aside0 (wc.heap[gb211]? = some (.cells #[.int .i64 a0_0, (.slice A0_1 l0_1.length c0_1)] 29 (0, 0))) ∧ Aside0 (Below w.heap.size w wc))
        case first =>
         have H := HC53.out
         clear HC53
         obtain ⟨bq57, hbq57⟩ : ∃ b_ : Bool, b_ = (rdOf false (rd_L5 x9_2 (ji48)) x8_1) := ⟨_, rfl⟩
         replace H : (if bq57 = true then (if y235.length < 5864062014805 then (spec_l03All.j5 k2 a1 (wrap64 (2 * (l0_1.length : Int))) x7_1 x8_1 x9_2 (y235 ++ [(([x8_1] : List Int))]) a0_0 l0_1) else (none)) else (spec_l03All.j5 k2 a1 (wrap64 (2 * (l0_1.length : Int))) x7_1 x8_1 x9_2 y235 a0_0 l0_1)) = some (r1, r2) := by rw [← hbq57] at H; exact H
         have Nbq57 := Aside0.mk hbq57
         clear hbq57
         (try rw [← Nbq57.out])
         by_cases c58 : bq57 = true
         ·subst c58
          have H1 : (if y235.length < 5864062014805 then (spec_l03All.j5 k2 a1 (wrap64 (2 * (l0_1.length : Int))) x7_1 x8_1 x9_2 (y235 ++ [(([x8_1] : List Int))]) a0_0 l0_1) else (none)) = some (r1, r2) := by rw [if_pos rfl] at H; exact H
          clear H
          have H := H1
          clear H1
          obtain ⟨y240, Ny240, H⟩ : ∃ y240 : List Int, Aside0 (y240 = (([x8_1] : List Int))) ∧ (if y235.length < 5864062014805 then (spec_l03All.j5 k2 a1 (wrap64 (2 * (l0_1.length : Int))) x7_1 x8_1 x9_2 (y235 ++ [y240]) a0_0 l0_1) else (none)) = some (r1, r2) := ⟨_, ⟨rfl⟩, H⟩
          obtain ⟨c59, H⟩ := itn_ H
          have LMc59 := Aside0.mk c59
          clear c59
          obtain ⟨y243, Ny243, H⟩ : ∃ y243 : List (List Int), Aside0 (y243 = (y235 ++ [y240])) ∧ (spec_l03All.j5 k2 a1 (wrap64 (2 * (l0_1.length : Int))) x7_1 x8_1 x9_2 y243 a0_0 l0_1) = some (r1, r2) := ⟨_, ⟨rfl⟩, H⟩
          have H' := Aside0.mk H
          clear H
          go_wp2_with (first | ((with_reducible refine gate_dst (N := 99) rfl ?_); refine Kd.R_lit (Kd.int .i64) _ 2 ?hg (N := 99) ?hd (xs := ([x8_1] : List Int)) (inner := [.int .i64 x8_1]) (ok := fun _ => True) (okp := fun _ => True) ?hr ?hp (fun _ hk => hk) trivial (Below.refl _ _) (Nat.le_refl _) (by simp) ?_; (case hd => rfl); (case hg => rfl); (case hr => first | (go_simp; done) | (go_simp; rfl)); (case hp => exact (Reps.one (show Kd.M (Kd.int .i64) _ _ _ x8_1 [.int .i64 x8_1] from rfl) (Reps.none _ _))); intro v241 w60 ho61 hb hg_ hnew_; clear hg_ hnew_; (first | rw [← Ny240.out] at ho61 | (simp only [Int.reduceToNat] at ho61; rw [← Ny240.out] at ho61)); replace HO_7 := Aside0.mk (Kd.N_elder' (Kd.N_below HO_7.out bgo_) (Kd.R_base ho61) hb); replace HO_9 := Aside0.mk (Kd.N_elder' (Kd.N_below HO_9.out bgo_) (Kd.R_base ho61) hb); replace HO237 := Aside0.mk (Kd.N_elder' (Kd.N_below HO237.out bgo_) (Kd.R_base ho61) hb); replace HL238_0 := Aside0.mk (Kd.V_elder' (by (with_reducible repeat (first | apply Kd.V_alloc | apply Kd.V_drewN | apply Kd.V_drew)); exact HL238_0.out) (Kd.R_base ho61) hb); have HO242 := Aside0.mk (Kd.R_lower (Kd.R_newM (M := fun k_ => (w.heap.size ≤ k_)) ho61 (below_size hbs_) (fun k_ h_ => h_)) (below_size hbs_)); replace BK211 := Aside0.mk (blk_below (g := gb211) (o := .cells #[.int .i64 a0_0, .slice A0_1 l0_1.length c0_1] 29 (0, 0)) (blk_below BK211.out bgo_) hb); replace HR238_0 := Aside0.mk (Kd.C_below (by repeat (first | (with_reducible exact HR238_0.out) | (with_reducible refine Kd.C_alloc ?_ _) | (with_reducible refine Kd.C_drewN ?_ _) | (with_reducible refine Kd.C_drew ?_) | exact HR238_0.out)) hb); replace HB := Aside0.mk (below_step hbs_ hb); clear hb ho61; obtain ⟨Ao63, co63, eo63⟩ := Kd.R_slice HO242.out; subst eo63) | ((with_reducible refine gate_builtin (b := .append) (xs := #[.tmp 97, .tmp 100]) rfl ?_); at_builtin; refine Kd.N_append (Kd.slice 2 (Kd.int .i64)) (w0 := w) w.heap.size rfl (.tmp 97) (.tmp 100) 22 26 (.slice none 0 0) 24 rfl Try.underlying22 info26 rfl (by decide) (by omega) v236 y235 y240 [.slice Ao63 y240.length co63] (fun k_ => (w.heap.size ≤ k_) ∧ some k_ ≠ (u7 : Value).ownBlock ∧ some k_ ≠ (.slice (some ad238) x9_2.length co56 : Value).ownBlock ∧ k_ ≠ gb211) (fun k_ => ((fun k_ => (w.heap.size ≤ k_) ∧ some k_ ≠ (u7 : Value).ownBlock ∧ some k_ ≠ (.slice (some ad238) x9_2.length co56 : Value).ownBlock ∧ k_ ≠ gb211)) k_ ∧ some k_ ≠ (v236 : Value).ownBlock) rfl rfl ?aP (fun _ hk => hk) ?aF ?aO ?aB ?aS ?aL ?_; (case aP => exact (Kd.FK_slice_mk (Kd.R_reads' (Kd.R_mono (ok' := (fun k_ => ((fun k_ => (w.heap.size ≤ k_) ∧ some k_ ≠ (u7 : Value).ownBlock ∧ some k_ ≠ (.slice (some ad238) x9_2.length co56 : Value).ownBlock ∧ k_ ≠ gb211)) k_ ∧ some k_ ≠ (v236 : Value).ownBlock)) (Kd.R_types (Kd.R_apart' (Kd.R_apart' (Kd.R_apart' (HO242.out) (Kd.N_typed HO_7.out) (by decide)) (Kd.N_typed HO_9.out) (by decide)) (Kd.N_typed HO237.out) (by decide)) BK211.out (by decide)) (fun k_ hk => ⟨⟨hk.1.1.1.1.1, ⟨hk.1.1.1.2, ⟨hk.1.1.2, hk.2⟩⟩⟩, hk.1.2⟩))).2.1 (Kd.R_F (Kd.R_mono (ok' := (fun k_ => ((fun k_ => (w.heap.size ≤ k_) ∧ some k_ ≠ (u7 : Value).ownBlock ∧ some k_ ≠ (.slice (some ad238) x9_2.length co56 : Value).ownBlock ∧ k_ ≠ gb211)) k_ ∧ some k_ ≠ (v236 : Value).ownBlock)) (Kd.R_types (Kd.R_apart' (Kd.R_apart' (Kd.R_apart' (HO242.out) (Kd.N_typed HO_7.out) (by decide)) (Kd.N_typed HO_9.out) (by decide)) (Kd.N_typed HO237.out) (by decide)) BK211.out (by decide)) (fun k_ hk => ⟨⟨hk.1.1.1.1.1, ⟨hk.1.1.1.2, ⟨hk.1.1.2, hk.2⟩⟩⟩, hk.1.2⟩))))); (case aB => exact hbs_); (case aF => exact (fun k_ hk => ⟨(Nat.le_trans (below_size hbs_) hk), Kd.fresh' (Kd.N_lt (Kd.N_below HO_7.out bgo_)) k_ hk, Kd.fresh' (Kd.N_lt (Kd.N_below HO_9.out bgo_)) k_ hk, Kd.freshB (g := gb211) (o := .cells #[.int .i64 a0_0, .slice A0_1 l0_1.length c0_1] 29 (0, 0)) (blk_below BK211.out bgo_) k_ hk⟩)); (case aO => exact (by (with_reducible repeat (first | apply Kd.N_alloc | apply Kd.N_drewN | apply Kd.N_drew)); exact Kd.N_mono HO237.out (fun _ hk => ⟨hk.1.1, ⟨hk.1.2.1, ⟨hk.1.2.2.1, hk.1.2.2.2⟩⟩⟩))); (case aS => exact (below_size hbs_)); (case aL => have := LMc59.out; omega); intro v244 w62 ho hb hg hat; rw [← Ny243.out] at ho; replace HO_7 := Aside0.mk (Kd.N_afterv (ok := (fun k_ => (w.heap.size ≤ k_) ∧ some k_ ≠ (.slice (some ad238) x9_2.length co56 : Value).ownBlock ∧ some k_ ≠ (.slice Ao63 y240.length co63 : Value).ownBlock ∧ k_ ≠ gb211)) (by (with_reducible repeat (first | apply Kd.N_alloc | apply Kd.N_drewN | apply Kd.N_drew)); exact Kd.N_mono HO_7.out (fun _ hk => ⟨⟨hk.1.1.1, ⟨hk.1.1.2.1, ⟨hk.2, hk.1.1.2.2⟩⟩⟩, hk.1.2⟩)) hg hat); replace HO_9 := Aside0.mk (Kd.N_afterv (ok := (fun k_ => (w.heap.size ≤ k_) ∧ some k_ ≠ (u7 : Value).ownBlock ∧ some k_ ≠ (.slice Ao63 y240.length co63 : Value).ownBlock ∧ k_ ≠ gb211)) (by (with_reducible repeat (first | apply Kd.N_alloc | apply Kd.N_drewN | apply Kd.N_drew)); exact Kd.N_mono HO_9.out (fun _ hk => ⟨⟨hk.1.1.1, ⟨hk.1.1.2.1, ⟨hk.2, hk.1.1.2.2⟩⟩⟩, hk.1.2⟩)) hg hat); replace BK211 := Aside0.mk (blk_grown (g := gb211) (o := .cells #[.int .i64 a0_0, .slice A0_1 l0_1.length c0_1] 29 (0, 0)) (blk_below BK211.out bgo_) hg (Kd.N_ne HO237.out BK211.out (by decide))); replace HL238_0 := Aside0.mk (Kd.V_afterv (ok := (fun k_ => (w.heap.size ≤ k_) ∧ some k_ ≠ (u7 : Value).ownBlock ∧ some k_ ≠ (.slice (some ad238) x9_2.length co56 : Value).ownBlock ∧ some k_ ≠ (.slice Ao63 y240.length co63 : Value).ownBlock ∧ k_ ≠ gb211)) (by (with_reducible repeat (first | apply Kd.V_alloc | apply Kd.V_drewN | apply Kd.V_drew)); exact Kd.V_mono HL238_0.out (fun _ hk => ⟨⟨hk.1.1.1.1, ⟨hk.1.1.1.2.1, ⟨hk.1.2, ⟨hk.2, hk.1.1.1.2.2⟩⟩⟩⟩, hk.1.1.2⟩)) hg hat); replace HB := Aside0.mk (hb); have HO245 := Aside0.mk (ho); clear HO237 HO242; clear ho hb hg hat))
          go_meet
          case rel => exact ⟨_, (y243), H', ⟨by have := HK1.out; have := HK2.out; first | omega | exact Nat.le_refl _⟩, ⟨by (with_reducible repeat (first | apply Kd.N_alloc | apply Kd.N_drewN | apply Kd.N_drew)); exact Kd.N_mono HO_7.out (fun _ hk => ⟨hk.1.1, ⟨hk.1.2.1, ⟨hk.2, hk.1.2.2.2⟩⟩⟩)⟩, ⟨by (with_reducible repeat (first | apply Kd.N_alloc | apply Kd.N_drewN | apply Kd.N_drew)); exact Kd.N_mono HO_9.out (fun _ hk => ⟨hk.1.1, ⟨hk.1.2.1, ⟨hk.2, hk.1.2.2.2⟩⟩⟩)⟩, ⟨Kd.N_below HO245.out bgo_⟩, ⟨blk_below BK211.out bgo_⟩, ⟨hbs_⟩⟩
         ·replace c58 := Bool.eq_false_iff.mpr c58
          subst c58
          have H1 : (spec_l03All.j5 k2 a1 (wrap64 (2 * (l0_1.length : Int))) x7_1 x8_1 x9_2 y235 a0_0 l0_1) = some (r1, r2) := by rw [if_neg (show ¬ (false = true) by decide)] at H; exact H
          clear H
          have H := H1
          clear H1
          have H' := Aside0.mk H
          clear H
          go_wp2
          go_meet
          case rel => exact ⟨_, (y235), H', ⟨by have := HK1.out; have := HK2.out; first | omega | exact Nat.le_refl _⟩, ⟨by (with_reducible repeat (first | apply Kd.N_alloc | apply Kd.N_drewN | apply Kd.N_drew)); exact Kd.N_mono HO_7.out (fun _ hk => ⟨hk.1.1, ⟨hk.1.2.1, ⟨hk.2, hk.1.2.2⟩⟩⟩)⟩, ⟨by (with_reducible repeat (first | apply Kd.N_alloc | apply Kd.N_drewN | apply Kd.N_drew)); exact Kd.N_mono HO_9.out (fun _ hk => ⟨hk.1.1, ⟨hk.1.2.1, ⟨hk.2, hk.1.2.2⟩⟩⟩)⟩, ⟨Kd.N_below HO237.out bgo_⟩, ⟨blk_below BK211.out bgo_⟩, ⟨hbs_⟩⟩
        case rest => as_aux_lemma =>
         clear HC53
         obtain ⟨kq, x15_52, HA, HJ52, HO_7, HO_9, HO_15, BK211, HB⟩ := hcut
         cases kq with
         | zero => exact absurd HA.out (by simp [spec_l03All.j5])
         | succ kj52 =>
          have H := HA.out
          clear HA
          simp only [spec_l03All.j5] at H
          have H' := Aside0.mk H
          clear H
          go_wp2
          go_loopg [15, 16] kj52 (fun kq v15 v16 w' => ∃ (x15_4 : List (List Int)) (x16_4 : Int), v16 = .int .i64 x16_4 ∧ Aside0 (spec_l03All.l4 kq a1 (wrap64 (2 * (l0_1.length : Int))) x7_1 x8_1 x9_2 x15_4 x16_4 a0_0 l0_1 = some (r1, r2)) ∧ Aside0 (kq ≤ kj52) ∧ Aside0 (Kd.N (Kd.slice 2 (Kd.int .i64)) 26 w' w.heap.size (fun k_ => (w.heap.size ≤ k_) ∧ some k_ ≠ ((.slice (some ad238) x9_2.length co56) : Value).ownBlock ∧ some k_ ≠ (v15 : Value).ownBlock ∧ k_ ≠ gb211) u7 x7_1) ∧ Aside0 (Kd.N (Kd.slice 4 Kd.bool) 86 w' w.heap.size (fun k_ => (w.heap.size ≤ k_) ∧ some k_ ≠ (u7 : Value).ownBlock ∧ some k_ ≠ (v15 : Value).ownBlock ∧ k_ ≠ gb211) (.slice (some ad238) x9_2.length co56) x9_2) ∧ Aside0 (Kd.N (Kd.slice 2 (Kd.int .i64)) 26 w' w.heap.size (fun k_ => (w.heap.size ≤ k_) ∧ some k_ ≠ (u7 : Value).ownBlock ∧ some k_ ≠ ((.slice (some ad238) x9_2.length co56) : Value).ownBlock ∧ k_ ≠ gb211) v15 x15_4) ∧ Aside0 (w'.heap[gb211]? = some (.cells #[.int .i64 a0_0, (.slice A0_1 l0_1.length c0_1)] 29 (0, 0))) ∧ Aside0 (Below w.heap.size w w'))
          case atStart => exact ⟨(x15_52), (wrap64 (a1 - 2)), es_, H', ⟨Nat.le_refl _⟩, ⟨Kd.N_below HO_7.out bgo_⟩, ⟨Kd.N_below HO_9.out bgo_⟩, ⟨Kd.N_below HO_15.out bgo_⟩, ⟨blk_below BK211.out bgo_⟩, ⟨hbs_⟩⟩
          case round =>
           clear H'
           obtain ⟨x15_4, x16_4, rfl, HA, HK4, HO_7, HO_9, HO_15, BK211, HB⟩ := hrel
           cases gk with
           | zero => exact absurd HA.out (by simp [spec_l03All.l4])
           | succ k4 =>
            have H := HA.out
            clear HA
            simp only [spec_l03All.l4] at H
            by_cases c64 : x16_4 ≥ 0
            ·rw [if_pos c64] at H
             have c64b0 := decide_eq_true c64
             clear c64
             obtain ⟨t249, A65, H⟩ := bnd_ H
             obtain ⟨y252, Ny252, H⟩ : ∃ y252 : List (List Int), Aside0 (y252 = (([] : List (List Int)))) ∧ (spec_l03All.l5 k4 a1 (wrap64 (2 * (l0_1.length : Int))) x7_1 x8_1 x9_2 x16_4 t249 y252 0 a0_0 l0_1) = some (r1, r2) := ⟨_, ⟨rfl⟩, H⟩
             have H' := Aside0.mk H
             clear H
             have hcz66_0 : wr.cell? ⟨gb211, 0, none⟩ = some (.int .i64 a0_0) := (blk_cell BK211.out 0).trans rfl
             have hcz66_1 : wr.cell? ⟨gb211, 1, none⟩ = some (.slice A0_1 l0_1.length c0_1) := (blk_cell BK211.out 1).trans rfl
             have hfz66_0 := blk_frozen BK211.out 0
             have hfz66_1 := blk_frozen BK211.out 1
             obtain ⟨Ao67, co67, eo67⟩ := Kd.N_slice HO_15.out
             subst eo67
             go_wp2_with (first | (go_at_call 103; (with_reducible refine (spec_l03Longer.calls k4 a0_0 _ _ l0_1 _ _ x15_4 t249 _ ?side1 ?side2 ?side3 ?side4 A65.out).mono ?_); (case side1 => exact Kd.C_below (Kd.C_below HR0_1.out HB.out) bgo_); (case side2 => exact HC0_1.out); (case side3 => exact Kd.C_below (Kd.N_reads' HO_15.out).2.2 bgo_); (case side4 => exact (Kd.N_reads' HO_15.out).2.1); rintro e w68 ⟨v250, rfl, ho0, hb⟩; have HO251 := Aside0.mk (Kd.N_lower (Kd.N_mono (ok' := fun k_ => (w.heap.size ≤ k_) ∧ some k_ ≠ (u7 : Value).ownBlock ∧ some k_ ≠ (.slice (some ad238) x9_2.length co56 : Value).ownBlock ∧ some k_ ≠ (.slice Ao67 x15_4.length co67 : Value).ownBlock ∧ k_ ≠ gb211) (Kd.S_N (Kd.S_bound ho0)) (fun k_ hk_ => ⟨(Nat.le_trans (below_size hbs_) hk_.2.1), (Kd.fresh' (Kd.N_lt (Kd.N_below HO_7.out bgo_)) k_ hk_.2.1), (Kd.fresh' (Kd.N_lt (Kd.N_below HO_9.out bgo_)) k_ hk_.2.1), (Kd.fresh' (Kd.N_lt (Kd.N_below HO_15.out bgo_)) k_ hk_.2.1), (Kd.freshB (g := gb211) (o := .cells #[.int .i64 a0_0, .slice A0_1 l0_1.length c0_1] 29 (0, 0)) (blk_below BK211.out bgo_) k_ hk_.2.1)⟩)) (below_size hbs_)); replace HO_7 := Aside0.mk (Kd.N_elder' (Kd.N_below HO_7.out bgo_) (by first | exact Kd.N_base ho0 | exact Kd.S_base ho0) hb); replace HO_9 := Aside0.mk (Kd.N_elder' (Kd.N_below HO_9.out bgo_) (by first | exact Kd.N_base ho0 | exact Kd.S_base ho0) hb); replace HO_15 := Aside0.mk (Kd.N_elder' (Kd.N_below HO_15.out bgo_) (by first | exact Kd.N_base ho0 | exact Kd.S_base ho0) hb); replace BK211 := Aside0.mk (blk_below (g := gb211) (o := .cells #[.int .i64 a0_0, .slice A0_1 l0_1.length c0_1] 29 (0, 0)) (blk_below BK211.out bgo_) hb); replace HB := Aside0.mk (below_step hbs_ hb); (try clear hb); (try clear hb2); (try clear hk); (try clear hi); (try clear ho0)) | ((with_reducible refine gate_dst (N := 111) rfl ?_); refine Kd.N_lit (Kd.slice 2 (Kd.int .i64)) _ 26 ?hg (N' := 111) ?hd (xs := ([] : List (List Int))) (inner := []) (ok := (fun k_ => (w.heap.size ≤ k_) ∧ some k_ ≠ (u7 : Value).ownBlock ∧ some k_ ≠ (.slice (some ad238) x9_2.length co56 : Value).ownBlock ∧ some k_ ≠ (.slice Ao67 x15_4.length co67 : Value).ownBlock ∧ some k_ ≠ (v250 : Value).ownBlock ∧ k_ ≠ gb211)) (okp := (fun k_ => (w.heap.size ≤ k_) ∧ some k_ ≠ (u7 : Value).ownBlock ∧ some k_ ≠ (.slice (some ad238) x9_2.length co56 : Value).ownBlock ∧ some k_ ≠ (.slice Ao67 x15_4.length co67 : Value).ownBlock ∧ some k_ ≠ (v250 : Value).ownBlock ∧ k_ ≠ gb211)) ?hr ?hp (fun _ hk => hk) ((show ∀ k_, w68.heap.size ≤ k_ → (fun k_ => (w.heap.size ≤ k_) ∧ some k_ ≠ (u7 : Value).ownBlock ∧ some k_ ≠ (.slice (some ad238) x9_2.length co56 : Value).ownBlock ∧ some k_ ≠ (.slice Ao67 x15_4.length co67 : Value).ownBlock ∧ some k_ ≠ (v250 : Value).ownBlock ∧ k_ ≠ gb211) k_ from fun k_ hk => ⟨(Nat.le_trans (below_size hbs_) hk), Kd.fresh' (Kd.N_lt (Kd.N_below HO_7.out bgo_)) k_ hk, Kd.fresh' (Kd.N_lt (Kd.N_below HO_9.out bgo_)) k_ hk, Kd.fresh' (Kd.N_lt (Kd.N_below HO_15.out bgo_)) k_ hk, Kd.fresh' (Kd.N_lt (Kd.N_below HO251.out bgo_)) k_ hk, Kd.freshB (g := gb211) (o := .cells #[.int .i64 a0_0, .slice A0_1 l0_1.length c0_1] 29 (0, 0)) (blk_below BK211.out bgo_) k_ hk⟩) _ (Nat.le_refl _)) (Below.refl _ _) (Nat.le_refl _) (by simp) ?_; (case hd => rfl); (case hg => rfl); (case hr => first | (go_simp; done) | (go_simp; rfl)); (case hp => exact (Reps.none _ _)); intro v253 w69 ho70 hb hg_ hnew_; clear hg_ hnew_; (first | rw [← Ny252.out] at ho70 | (simp only [Int.reduceToNat] at ho70; rw [← Ny252.out] at ho70)); replace HO_7 := Aside0.mk (Kd.N_elder' (Kd.N_below HO_7.out bgo_) (Kd.N_base ho70) hb); replace HO_9 := Aside0.mk (Kd.N_elder' (Kd.N_below HO_9.out bgo_) (Kd.N_base ho70) hb); replace HO_15 := Aside0.mk (Kd.N_elder' (Kd.N_below HO_15.out bgo_) (Kd.N_base ho70) hb); replace HO251 := Aside0.mk (Kd.N_elder' (Kd.N_below HO251.out bgo_) (Kd.N_base ho70) hb); have HO254 := Aside0.mk (Kd.N_lower ho70 (below_size hbs_)); replace BK211 := Aside0.mk (blk_below (g := gb211) (o := .cells #[.int .i64 a0_0, .slice A0_1 l0_1.length c0_1] 29 (0, 0)) (blk_below BK211.out bgo_) hb); replace HB := Aside0.mk (below_step hbs_ hb); clear hb ho70))
             go_loopg [18, 19] k4 (fun kq v18 v19 w' => ∃ (x18_5 : List (List Int)) (x19_5 : Int), v19 = .int .i64 x19_5 ∧ Aside0 (spec_l03All.l5 kq a1 (wrap64 (2 * (l0_1.length : Int))) x7_1 x8_1 x9_2 x16_4 t249 x18_5 x19_5 a0_0 l0_1 = some (r1, r2)) ∧ Aside0 (kq ≤ k4) ∧ Aside0 (Kd.N (Kd.slice 2 (Kd.int .i64)) 26 w' w.heap.size (fun k_ => (w.heap.size ≤ k_) ∧ some k_ ≠ ((.slice (some ad238) x9_2.length co56) : Value).ownBlock ∧ some k_ ≠ (v250 : Value).ownBlock ∧ some k_ ≠ (v18 : Value).ownBlock ∧ k_ ≠ gb211) u7 x7_1) ∧ Aside0 (Kd.N (Kd.slice 4 Kd.bool) 86 w' w.heap.size (fun k_ => (w.heap.size ≤ k_) ∧ some k_ ≠ (u7 : Value).ownBlock ∧ some k_ ≠ (v250 : Value).ownBlock ∧ some k_ ≠ (v18 : Value).ownBlock ∧ k_ ≠ gb211) (.slice (some ad238) x9_2.length co56) x9_2) ∧ Aside0 (Kd.N (Kd.slice 2 (Kd.int .i64)) 26 w' w.heap.size (fun k_ => (w.heap.size ≤ k_) ∧ some k_ ≠ (u7 : Value).ownBlock ∧ some k_ ≠ ((.slice (some ad238) x9_2.length co56) : Value).ownBlock ∧ some k_ ≠ (v18 : Value).ownBlock ∧ k_ ≠ gb211) v250 t249) ∧ Aside0 (Kd.N (Kd.slice 2 (Kd.int .i64)) 26 w' w.heap.size (fun k_ => (w.heap.size ≤ k_) ∧ some k_ ≠ (u7 : Value).ownBlock ∧ some k_ ≠ ((.slice (some ad238) x9_2.length co56) : Value).ownBlock ∧ some k_ ≠ (v250 : Value).ownBlock ∧ k_ ≠ gb211) v18 x18_5) ∧ Aside0 (w'.heap[gb211]? = some (.cells #[.int .i64 a0_0, (.slice A0_1 l0_1.length c0_1)] 29 (0, 0))) ∧ Aside0 (Below w.heap.size w w'))
             case atStart => exact ⟨(y252), (0), es_, H', ⟨Nat.le_refl _⟩, ⟨by (with_reducible repeat (first | apply Kd.N_alloc | apply Kd.N_drewN | apply Kd.N_drew)); exact Kd.N_mono HO_7.out (fun _ hk => ⟨hk.1.1.1, ⟨hk.1.1.2.1, ⟨hk.1.2, ⟨hk.2, hk.1.1.2.2.2⟩⟩⟩⟩)⟩, ⟨by (with_reducible repeat (first | apply Kd.N_alloc | apply Kd.N_drewN | apply Kd.N_drew)); exact Kd.N_mono HO_9.out (fun _ hk => ⟨hk.1.1.1, ⟨hk.1.1.2.1, ⟨hk.1.2, ⟨hk.2, hk.1.1.2.2.2⟩⟩⟩⟩)⟩, ⟨by (with_reducible repeat (first | apply Kd.N_alloc | apply Kd.N_drewN | apply Kd.N_drew)); exact Kd.N_mono HO251.out (fun _ hk => ⟨hk.1.1, ⟨hk.1.2.1, ⟨hk.1.2.2.1, ⟨hk.2, hk.1.2.2.2.2⟩⟩⟩⟩)⟩, ⟨by (with_reducible repeat (first | apply Kd.N_alloc | apply Kd.N_drewN | apply Kd.N_drew)); exact Kd.N_mono HO254.out (fun _ hk => ⟨hk.1, ⟨hk.2.1, ⟨hk.2.2.1, ⟨hk.2.2.2.2.1, hk.2.2.2.2.2⟩⟩⟩⟩)⟩, ⟨blk_below BK211.out bgo_⟩, ⟨hbs_⟩⟩
             case round =>
              clear H'
              obtain ⟨x18_5, x19_5, rfl, HA, HK5, HO_7, HO_9, HO_17, HO_18, BK211, HB⟩ := hrel
              cases gk with
              | zero => exact absurd HA.out (by simp [spec_l03All.l5])
              | succ k5 =>
               have H := HA.out
               clear HA
               simp only [spec_l03All.l5] at H
               by_cases c71 : x19_5 < (t249.length : Int)
               ·rw [if_pos c71] at H
                have c71b0 := decide_eq_true c71
                clear c71
                obtain ⟨c72, H⟩ := itn_ H
                have c72b0 := decide_eq_true c72
                clear c72
                obtain ⟨c73, H⟩ := itn_ H
                have c73b0 := decide_eq_true c73
                clear c73
                obtain ⟨c74, H⟩ := itn_ H
                have c74b0 := decide_eq_true c74
                clear c74
                obtain ⟨ji75, hji75⟩ : ∃ j_ : Int, (wrap64 (((rd_L1 t249 x19_5).length : Int) - 1)) = j_ := ⟨_, rfl⟩
                (try rw [hji75])
                replace H : (if 0 ≤ (ji75) then (if (ji75) < ((rd_L1 t249 x19_5).length : Int) then (if 0 ≤ (rd (rd_L1 t249 x19_5) (ji75)) then (if (rd (rd_L1 t249 x19_5) (ji75)) < ((rd_L5 x9_2 x16_4).length : Int) then (if rdOf false (rd_L5 x9_2 x16_4) (rd (rd_L1 t249 x19_5) (ji75)) = true then (if x18_5.length < 5864062014805 then (spec_l03All.l5 k5 a1 (wrap64 (2 * (l0_1.length : Int))) x7_1 x8_1 x9_2 x16_4 t249 (x18_5 ++ [rd_L1 t249 x19_5]) (wrap64 (x19_5 + 1)) a0_0 l0_1) else (none)) else (spec_l03All.l5 k5 a1 (wrap64 (2 * (l0_1.length : Int))) x7_1 x8_1 x9_2 x16_4 t249 x18_5 (wrap64 (x19_5 + 1)) a0_0 l0_1)) else (none)) else (none)) else (none)) else (none)) = some (r1, r2) := by first | (rw [hji75] at H; exact H) | (simp only [hji75] at H ⊢; exact H)
                have hji75w : (IntKind.i64.wrap (((rd_L1 t249 x19_5).length : Int) - 1)) = ji75 := (i64_w _).trans hji75
                obtain ⟨c76, H⟩ := itn_ H
                have c76b0 := decide_eq_true c76
                clear c76
                obtain ⟨c77, H⟩ := itn_ H
                have c77b0 := decide_eq_true c77
                clear c77
                obtain ⟨c78, H⟩ := itn_ H
                have c78b0 := decide_eq_true c78
                clear c78
                obtain ⟨c79, H⟩ := itn_ H
                have c79b0 := decide_eq_true c79
                clear c79
                obtain ⟨bq80, hbq80⟩ : ∃ b_ : Bool, b_ = (rdOf false (rd_L5 x9_2 x16_4) (rd (rd_L1 t249 x19_5) (ji75))) := ⟨_, rfl⟩
                replace H : (if bq80 = true then (if x18_5.length < 5864062014805 then (spec_l03All.l5 k5 a1 (wrap64 (2 * (l0_1.length : Int))) x7_1 x8_1 x9_2 x16_4 t249 (x18_5 ++ [rd_L1 t249 x19_5]) (wrap64 (x19_5 + 1)) a0_0 l0_1) else (none)) else (spec_l03All.l5 k5 a1 (wrap64 (2 * (l0_1.length : Int))) x7_1 x8_1 x9_2 x16_4 t249 x18_5 (wrap64 (x19_5 + 1)) a0_0 l0_1)) = some (r1, r2) := by rw [← hbq80] at H; exact H
                have Nbq80 := Aside0.mk hbq80
                clear hbq80
                by_cases c81 : bq80 = true
                ·subst c81
                 have H1 : (if x18_5.length < 5864062014805 then (spec_l03All.l5 k5 a1 (wrap64 (2 * (l0_1.length : Int))) x7_1 x8_1 x9_2 x16_4 t249 (x18_5 ++ [rd_L1 t249 x19_5]) (wrap64 (x19_5 + 1)) a0_0 l0_1) else (none)) = some (r1, r2) := by rw [if_pos rfl] at H; exact H
                 clear H
                 have H := H1
                 clear H1
                 obtain ⟨c82, H⟩ := itn_ H
                 have LMc82 := Aside0.mk c82
                 clear c82
                 obtain ⟨y261, Ny261, H⟩ : ∃ y261 : List (List Int), Aside0 (y261 = (x18_5 ++ [rd_L1 t249 x19_5])) ∧ (spec_l03All.l5 k5 a1 (wrap64 (2 * (l0_1.length : Int))) x7_1 x8_1 x9_2 x16_4 t249 y261 (wrap64 (x19_5 + 1)) a0_0 l0_1) = some (r1, r2) := ⟨_, ⟨rfl⟩, H⟩
                 have H' := Aside0.mk H
                 clear H
                 obtain ⟨Ao83, co83, eo83⟩ := Kd.N_slice HO_17.out
                 subst eo83
                 have p255 : 0 ≤ (x16_4 : Int) := od_
                 have q255 : x16_4 < (x9_2.length : Int) := od_
                 obtain ⟨ad255, A255_0, c255_0, e255, hx255_0, hl255_0, hi255_0⟩ := at_L5 (Kd.N_reads' HO_9.out).2.2 x16_4 p255 q255
                 obtain rfl : ad238 = ad255 := (by injection e255)
                 obtain ⟨ce255, hce255, hMe255, hcc255⟩ := Kd.N_get HO_9.out [] x16_4 p255 (by first | exact q255 | exact od_ | (have e_ := (Kd.N_reads' HO_9.out).1; omega))
                 obtain ⟨ua255_0, uc255_0, rfl, ul255_0, ge255_0⟩ := Kd.FK_slice_open hMe255
                 have hv255_0 := hcc255 0 _ rfl
                 rw [Nat.add_zero, show ((Kd.slice 4 Kd.bool)).sz = 1 from rfl, Nat.mul_one] at hv255_0
                 replace hv255_0 := Option.some.inj (hv255_0.symm.trans hx255_0)
                 injection hv255_0 with hva_ hvn_ hvc_
                 rw [hva_] at ge255_0
                 rw [hvc_] at ul255_0
                 have HL255_0 := Aside0.mk (show Kd.V Kd.bool 4 _ w.heap.size _ _ (rd_L5 x9_2 x16_4) from Kd.V_mk ul255_0 ge255_0)
                 clear hva_ hvn_ hvc_ ge255_0 ul255_0
                 clear hcc255 hce255
                 have HR255_0 := Aside0.mk hi255_0
                 have HC255_0 := Aside0.mk hl255_0
                 clear hi255_0 hl255_0
                 replace p255 := eq_true p255
                 replace q255 := eq_true q255
                 have p256 : 0 ≤ (x19_5 : Int) := od_
                 have q256 : x19_5 < (t249.length : Int) := od_
                 obtain ⟨ad256, A256_0, c256_0, e256, hx256_0, hl256_0, hi256_0⟩ := at_L1 (Kd.N_reads' HO_17.out).2.2 x19_5 p256 q256
                 cases e256
                 obtain ⟨ce256, hce256, hMe256, hcc256⟩ := Kd.N_get HO_17.out [] x19_5 p256 (by first | exact q256 | exact od_ | (have e_ := (Kd.N_reads' HO_17.out).1; omega))
                 obtain ⟨ua256_0, uc256_0, rfl, ul256_0, ge256_0⟩ := Kd.FK_slice_open hMe256
                 have hv256_0 := hcc256 0 _ rfl
                 rw [Nat.add_zero, show ((Kd.slice 2 (Kd.int .i64))).sz = 1 from rfl, Nat.mul_one] at hv256_0
                 replace hv256_0 := Option.some.inj (hv256_0.symm.trans hx256_0)
                 injection hv256_0 with hva_ hvn_ hvc_
                 rw [hva_] at ge256_0
                 rw [hvc_] at ul256_0
                 have HL256_0 := Aside0.mk (show Kd.V (Kd.int .i64) 2 _ w.heap.size _ _ (rd_L1 t249 x19_5) from Kd.V_mk ul256_0 ge256_0)
                 clear hva_ hvn_ hvc_ ge256_0 ul256_0
                 clear hcc256 hce256
                 have HR256_0 := Aside0.mk hi256_0
                 have HC256_0 := Aside0.mk hl256_0
                 clear hi256_0 hl256_0
                 replace p256 := eq_true p256
                 replace q256 := eq_true q256
                 have p257 : 0 ≤ (x19_5 : Int) := od_
                 have q257 : x19_5 < (t249.length : Int) := od_
                 obtain ⟨ad257, A257_0, c257_0, e257, hx257_0, hl257_0, hi257_0⟩ := at_L1 (Kd.N_reads' HO_17.out).2.2 x19_5 p257 q257
                 obtain rfl : ad256 = ad257 := (by injection e257)
                 obtain ⟨ce257, hce257, hMe257, hcc257⟩ := Kd.N_get HO_17.out [] x19_5 p257 (by first | exact q257 | exact od_ | (have e_ := (Kd.N_reads' HO_17.out).1; omega))
                 obtain ⟨ua257_0, uc257_0, rfl, ul257_0, ge257_0⟩ := Kd.FK_slice_open hMe257
                 have hv257_0 := hcc257 0 _ rfl
                 rw [Nat.add_zero, show ((Kd.slice 2 (Kd.int .i64))).sz = 1 from rfl, Nat.mul_one] at hv257_0
                 replace hv257_0 := Option.some.inj (hv257_0.symm.trans hx257_0)
                 injection hv257_0 with hva_ hvn_ hvc_
                 rw [hva_] at ge257_0
                 rw [hvc_] at ul257_0
                 have HL257_0 := Aside0.mk (show Kd.V (Kd.int .i64) 2 _ w.heap.size _ _ (rd_L1 t249 x19_5) from Kd.V_mk ul257_0 ge257_0)
                 clear hva_ hvn_ hvc_ ge257_0 ul257_0
                 clear hcc257 hce257
                 have HR257_0 := Aside0.mk hi257_0
                 have HC257_0 := Aside0.mk hl257_0
                 clear hi257_0 hl257_0
                 replace p257 := eq_true p257
                 replace q257 := eq_true q257
                 have ea_ := Option.some.inj (hx256_0.symm.trans hx257_0)
                 injection ea_ with ea_ en_ ec_
                 subst ea_
                 subst ec_
                 clear en_
                 have p258 : 0 ≤ ((ji75) : Int) := od_
                 have q258 : (ji75) < ((rd_L1 t249 x19_5).length : Int) := od_
                 obtain ⟨ad258, e258, hx258_0⟩ := Kd.at_int (by repeat (first | (with_reducible exact HR256_0.out) | (with_reducible refine Kd.C_alloc ?_ _) | (with_reducible refine Kd.C_drewN ?_ _) | (with_reducible refine Kd.C_drew ?_) | exact HR256_0.out)) (ji75) p258 q258
                 cases e258
                 replace p258 := eq_true p258
                 replace q258 := eq_true q258
                 have p259 : 0 ≤ ((rd (rd_L1 t249 x19_5) (ji75)) : Int) := od_
                 have q259 : (rd (rd_L1 t249 x19_5) (ji75)) < ((rd_L5 x9_2 x16_4).length : Int) := od_
                 obtain ⟨ad259, e259, hx259_0⟩ := Kd.at_bool (by repeat (first | (with_reducible exact HR255_0.out) | (with_reducible refine Kd.C_alloc ?_ _) | (with_reducible refine Kd.C_drewN ?_ _) | (with_reducible refine Kd.C_drew ?_) | exact HR255_0.out)) (rd (rd_L1 t249 x19_5) (ji75)) p259 q259
                 (try rw [← Nbq80.out] at hx259_0)
                 cases e259
                 replace p259 := eq_true p259
                 replace q259 := eq_true q259
                 have p260 : 0 ≤ (x19_5 : Int) := od_
                 have q260 : x19_5 < (t249.length : Int) := od_
                 obtain ⟨ad260, A260_0, c260_0, e260, hx260_0, hl260_0, hi260_0⟩ := at_L1 (Kd.N_reads' HO_17.out).2.2 x19_5 p260 q260
                 obtain rfl : ad256 = ad260 := (by injection e260)
                 obtain ⟨ce260, hce260, hMe260, hcc260⟩ := Kd.N_get HO_17.out [] x19_5 p260 (by first | exact q260 | exact od_ | (have e_ := (Kd.N_reads' HO_17.out).1; omega))
                 obtain ⟨ua260_0, uc260_0, rfl, ul260_0, ge260_0⟩ := Kd.FK_slice_open hMe260
                 have hv260_0 := hcc260 0 _ rfl
                 rw [Nat.add_zero, show ((Kd.slice 2 (Kd.int .i64))).sz = 1 from rfl, Nat.mul_one] at hv260_0
                 replace hv260_0 := Option.some.inj (hv260_0.symm.trans hx260_0)
                 injection hv260_0 with hva_ hvn_ hvc_
                 rw [hva_] at ge260_0
                 rw [hvc_] at ul260_0
                 have HL260_0 := Aside0.mk (show Kd.V (Kd.int .i64) 2 _ w.heap.size _ _ (rd_L1 t249 x19_5) from Kd.V_mk ul260_0 ge260_0)
                 clear hva_ hvn_ hvc_ ge260_0 ul260_0
                 clear hcc260 hce260
                 have HR260_0 := Aside0.mk hi260_0
                 have HC260_0 := Aside0.mk hl260_0
                 clear hi260_0 hl260_0
                 replace p260 := eq_true p260
                 replace q260 := eq_true q260
                 have ea_ := Option.some.inj (hx256_0.symm.trans hx260_0)
                 injection ea_ with ea_ en_ ec_
                 subst ea_
                 subst ec_
                 clear en_
                 go_wp2
                 repeat (go_quiet (fail); try go_wp2_with (first | ((with_reducible refine gate_builtin (b := .append) (xs := #[.tmp 136, .tmp 141]) rfl ?_); at_builtin; refine Kd.N_append (Kd.slice 2 (Kd.int .i64)) (w0 := w) w.heap.size rfl (.tmp 136) (.tmp 141) 22 26 (.slice none 0 0) 24 rfl Try.underlying22 info26 rfl (by decide) (by omega) u18 x18_5 (rd_L1 t249 x19_5) [.slice (some ad258) (rd_L1 t249 x19_5).length c256_0] (fun k_ => (w.heap.size ≤ k_) ∧ some k_ ≠ (u7 : Value).ownBlock ∧ some k_ ≠ (.slice (some ad238) x9_2.length co56 : Value).ownBlock ∧ some k_ ≠ (.slice (some ad256) t249.length co83 : Value).ownBlock ∧ k_ ≠ gb211) (fun k_ => ((fun k_ => (w.heap.size ≤ k_) ∧ some k_ ≠ (u7 : Value).ownBlock ∧ some k_ ≠ (.slice (some ad238) x9_2.length co56 : Value).ownBlock ∧ some k_ ≠ (.slice (some ad256) t249.length co83 : Value).ownBlock ∧ k_ ≠ gb211)) k_ ∧ some k_ ≠ (u18 : Value).ownBlock) rfl rfl ?aP (fun _ hk => hk) ?aF ?aO ?aB ?aS ?aL ?_; (case aP => exact (Kd.FK_slice_mk (Kd.V_reads' (Kd.V_mono (ok' := (fun k_ => ((fun k_ => (w.heap.size ≤ k_) ∧ some k_ ≠ (u7 : Value).ownBlock ∧ some k_ ≠ (.slice (some ad238) x9_2.length co56 : Value).ownBlock ∧ some k_ ≠ (.slice (some ad256) t249.length co83 : Value).ownBlock ∧ k_ ≠ gb211)) k_ ∧ some k_ ≠ (u18 : Value).ownBlock)) (HL260_0.out) (fun k_ hk => ⟨⟨hk.1.1, ⟨hk.1.2.1, ⟨hk.1.2.2.1, ⟨hk.2, hk.1.2.2.2.2⟩⟩⟩⟩, hk.1.2.2.2.1⟩))).2.1 (Kd.V_F (Kd.V_mono (ok' := (fun k_ => ((fun k_ => (w.heap.size ≤ k_) ∧ some k_ ≠ (u7 : Value).ownBlock ∧ some k_ ≠ (.slice (some ad238) x9_2.length co56 : Value).ownBlock ∧ some k_ ≠ (.slice (some ad256) t249.length co83 : Value).ownBlock ∧ k_ ≠ gb211)) k_ ∧ some k_ ≠ (u18 : Value).ownBlock)) (Kd.V_below HL260_0.out bgo_) (fun k_ hk => ⟨⟨hk.1.1, ⟨hk.1.2.1, ⟨hk.1.2.2.1, ⟨hk.2, hk.1.2.2.2.2⟩⟩⟩⟩, hk.1.2.2.2.1⟩))))); (case aB => exact hbs_); (case aF => exact (fun k_ hk => ⟨(Nat.le_trans (below_size hbs_) hk), Kd.fresh' (Kd.N_lt (Kd.N_below HO_7.out bgo_)) k_ hk, Kd.fresh' (Kd.N_lt (Kd.N_below HO_9.out bgo_)) k_ hk, Kd.fresh' (Kd.N_lt (Kd.N_below HO_17.out bgo_)) k_ hk, Kd.freshB (g := gb211) (o := .cells #[.int .i64 a0_0, .slice A0_1 l0_1.length c0_1] 29 (0, 0)) (blk_below BK211.out bgo_) k_ hk⟩)); (case aO => exact (Kd.N_below HO_18.out bgo_)); (case aS => exact (below_size hbs_)); (case aL => have := LMc82.out; omega); intro v262 w84 ho hb hg hat; rw [← Ny261.out] at ho; replace HO_7 := Aside0.mk (Kd.N_afterv (ok := (fun k_ => (w.heap.size ≤ k_) ∧ some k_ ≠ (.slice (some ad238) x9_2.length co56 : Value).ownBlock ∧ some k_ ≠ (.slice (some ad256) t249.length co83 : Value).ownBlock ∧ k_ ≠ gb211)) (by (with_reducible repeat (first | apply Kd.N_alloc | apply Kd.N_drewN | apply Kd.N_drew)); exact Kd.N_mono HO_7.out (fun _ hk => ⟨⟨hk.1, ⟨hk.2.1, ⟨hk.2.2.1, hk.2.2.2.2⟩⟩⟩, hk.2.2.2.1⟩)) hg hat); replace HO_9 := Aside0.mk (Kd.N_afterv (ok := (fun k_ => (w.heap.size ≤ k_) ∧ some k_ ≠ (u7 : Value).ownBlock ∧ some k_ ≠ (.slice (some ad256) t249.length co83 : Value).ownBlock ∧ k_ ≠ gb211)) (by (with_reducible repeat (first | apply Kd.N_alloc | apply Kd.N_drewN | apply Kd.N_drew)); exact Kd.N_mono HO_9.out (fun _ hk => ⟨⟨hk.1, ⟨hk.2.1, ⟨hk.2.2.1, hk.2.2.2.2⟩⟩⟩, hk.2.2.2.1⟩)) hg hat); replace HO_17 := Aside0.mk (Kd.N_afterv (ok := (fun k_ => (w.heap.size ≤ k_) ∧ some k_ ≠ (u7 : Value).ownBlock ∧ some k_ ≠ (.slice (some ad238) x9_2.length co56 : Value).ownBlock ∧ k_ ≠ gb211)) (by (with_reducible repeat (first | apply Kd.N_alloc | apply Kd.N_drewN | apply Kd.N_drew)); exact Kd.N_mono HO_17.out (fun _ hk => ⟨⟨hk.1, ⟨hk.2.1, ⟨hk.2.2.1, hk.2.2.2.2⟩⟩⟩, hk.2.2.2.1⟩)) hg hat); replace BK211 := Aside0.mk (blk_grown (g := gb211) (o := .cells #[.int .i64 a0_0, .slice A0_1 l0_1.length c0_1] 29 (0, 0)) (blk_below BK211.out bgo_) hg (Kd.N_ne HO_18.out BK211.out (by decide))); replace HL255_0 := Aside0.mk (Kd.V_afterv (ok := (fun k_ => (w.heap.size ≤ k_) ∧ some k_ ≠ (u7 : Value).ownBlock ∧ some k_ ≠ (.slice (some ad238) x9_2.length co56 : Value).ownBlock ∧ some k_ ≠ (.slice (some ad256) t249.length co83 : Value).ownBlock ∧ k_ ≠ gb211)) (by (with_reducible repeat (first | apply Kd.V_alloc | apply Kd.V_drewN | apply Kd.V_drew)); exact Kd.V_mono HL255_0.out (fun _ hk => ⟨⟨hk.1.1, ⟨hk.1.2.1, ⟨hk.2, ⟨hk.1.2.2.1, hk.1.2.2.2.2⟩⟩⟩⟩, hk.1.2.2.2.1⟩)) hg hat); replace HL256_0 := Aside0.mk (Kd.V_afterv (ok := (fun k_ => (w.heap.size ≤ k_) ∧ some k_ ≠ (u7 : Value).ownBlock ∧ some k_ ≠ (.slice (some ad238) x9_2.length co56 : Value).ownBlock ∧ some k_ ≠ (.slice (some ad256) t249.length co83 : Value).ownBlock ∧ k_ ≠ gb211)) (by (with_reducible repeat (first | apply Kd.V_alloc | apply Kd.V_drewN | apply Kd.V_drew)); exact Kd.V_mono HL256_0.out (fun _ hk => ⟨⟨hk.1.1, ⟨hk.1.2.1, ⟨hk.1.2.2.1, ⟨hk.2, hk.1.2.2.2.2⟩⟩⟩⟩, hk.1.2.2.2.1⟩)) hg hat); replace HL257_0 := Aside0.mk (Kd.V_afterv (ok := (fun k_ => (w.heap.size ≤ k_) ∧ some k_ ≠ (u7 : Value).ownBlock ∧ some k_ ≠ (.slice (some ad238) x9_2.length co56 : Value).ownBlock ∧ some k_ ≠ (.slice (some ad256) t249.length co83 : Value).ownBlock ∧ k_ ≠ gb211)) (by (with_reducible repeat (first | apply Kd.V_alloc | apply Kd.V_drewN | apply Kd.V_drew)); exact Kd.V_mono HL257_0.out (fun _ hk => ⟨⟨hk.1.1, ⟨hk.1.2.1, ⟨hk.1.2.2.1, ⟨hk.2, hk.1.2.2.2.2⟩⟩⟩⟩, hk.1.2.2.2.1⟩)) hg hat); replace HL260_0 := Aside0.mk (Kd.V_afterv (ok := (fun k_ => (w.heap.size ≤ k_) ∧ some k_ ≠ (u7 : Value).ownBlock ∧ some k_ ≠ (.slice (some ad238) x9_2.length co56 : Value).ownBlock ∧ some k_ ≠ (.slice (some ad256) t249.length co83 : Value).ownBlock ∧ k_ ≠ gb211)) (by (with_reducible repeat (first | apply Kd.V_alloc | apply Kd.V_drewN | apply Kd.V_drew)); exact Kd.V_mono HL260_0.out (fun _ hk => ⟨⟨hk.1.1, ⟨hk.1.2.1, ⟨hk.1.2.2.1, ⟨hk.2, hk.1.2.2.2.2⟩⟩⟩⟩, hk.1.2.2.2.1⟩)) hg hat); replace HB := Aside0.mk (hb); have HO263 := Aside0.mk (ho); clear HO_18; clear ho hb hg hat)))
                 first | (first | go_roundg k5 | (refine Handed.intro k5 ?measure ?_; rotate_left; go_step; (try simp only [add_plain]); (repeat apply Exists.intro); refine ⟨?rel, rfl⟩)) | ((try subst hji75); (try subst hji48); (first | go_roundg k5 | (refine Handed.intro k5 ?measure ?_; rotate_left; go_step; (try simp only [add_plain]); (repeat apply Exists.intro); refine ⟨?rel, rfl⟩)))
                 case measure => have := HK1.out; have := HK2.out; have := HJ52.out; have := HK4.out; have := HK5.out; omega
                 case rel => exact ⟨(y261), (wrap64 (x19_5 + 1)), es_, H', ⟨by have := HK1.out; have := HK2.out; have := HJ52.out; have := HK4.out; have := HK5.out; omega⟩, ⟨by (with_reducible repeat (first | apply Kd.N_alloc | apply Kd.N_drewN | apply Kd.N_drew)); exact Kd.N_mono HO_7.out (fun _ hk => ⟨hk.1.1, ⟨hk.1.2.1, ⟨hk.1.2.2.1, ⟨hk.2, hk.1.2.2.2⟩⟩⟩⟩)⟩, ⟨by (with_reducible repeat (first | apply Kd.N_alloc | apply Kd.N_drewN | apply Kd.N_drew)); exact Kd.N_mono HO_9.out (fun _ hk => ⟨hk.1.1, ⟨hk.1.2.1, ⟨hk.1.2.2.1, ⟨hk.2, hk.1.2.2.2⟩⟩⟩⟩)⟩, ⟨by (with_reducible repeat (first | apply Kd.N_alloc | apply Kd.N_drewN | apply Kd.N_drew)); exact Kd.N_mono HO_17.out (fun _ hk => ⟨hk.1.1, ⟨hk.1.2.1, ⟨hk.1.2.2.1, ⟨hk.2, hk.1.2.2.2⟩⟩⟩⟩)⟩, ⟨Kd.N_below HO263.out bgo_⟩, ⟨blk_below BK211.out bgo_⟩, ⟨hbs_⟩⟩
                ·replace c81 := Bool.eq_false_iff.mpr c81
                 subst c81
                 have H1 : (spec_l03All.l5 k5 a1 (wrap64 (2 * (l0_1.length : Int))) x7_1 x8_1 x9_2 x16_4 t249 x18_5 (wrap64 (x19_5 + 1)) a0_0 l0_1) = some (r1, r2) := by rw [if_neg (show ¬ (false = true) by decide)] at H; exact H
                 clear H
                 have H := H1
                 clear H1
                 have H' := Aside0.mk H
                 clear H
                 obtain ⟨Ao85, co85, eo85⟩ := Kd.N_slice HO_17.out
                 subst eo85
                 have p255 : 0 ≤ (x16_4 : Int) := od_
                 have q255 : x16_4 < (x9_2.length : Int) := od_
                 obtain ⟨ad255, A255_0, c255_0, e255, hx255_0, hl255_0, hi255_0⟩ := at_L5 (Kd.N_reads' HO_9.out).2.2 x16_4 p255 q255
                 obtain rfl : ad238 = ad255 := (by injection e255)
                 obtain ⟨ce255, hce255, hMe255, hcc255⟩ := Kd.N_get HO_9.out [] x16_4 p255 (by first | exact q255 | exact od_ | (have e_ := (Kd.N_reads' HO_9.out).1; omega))
                 obtain ⟨ua255_0, uc255_0, rfl, ul255_0, ge255_0⟩ := Kd.FK_slice_open hMe255
                 have hv255_0 := hcc255 0 _ rfl
                 rw [Nat.add_zero, show ((Kd.slice 4 Kd.bool)).sz = 1 from rfl, Nat.mul_one] at hv255_0
                 replace hv255_0 := Option.some.inj (hv255_0.symm.trans hx255_0)
                 injection hv255_0 with hva_ hvn_ hvc_
                 rw [hva_] at ge255_0
                 rw [hvc_] at ul255_0
                 have HL255_0 := Aside0.mk (show Kd.V Kd.bool 4 _ w.heap.size _ _ (rd_L5 x9_2 x16_4) from Kd.V_mk ul255_0 ge255_0)
                 clear hva_ hvn_ hvc_ ge255_0 ul255_0
                 clear hcc255 hce255
                 have HR255_0 := Aside0.mk hi255_0
                 have HC255_0 := Aside0.mk hl255_0
                 clear hi255_0 hl255_0
                 replace p255 := eq_true p255
                 replace q255 := eq_true q255
                 have p256 : 0 ≤ (x19_5 : Int) := od_
                 have q256 : x19_5 < (t249.length : Int) := od_
                 obtain ⟨ad256, A256_0, c256_0, e256, hx256_0, hl256_0, hi256_0⟩ := at_L1 (Kd.N_reads' HO_17.out).2.2 x19_5 p256 q256
                 cases e256
                 obtain ⟨ce256, hce256, hMe256, hcc256⟩ := Kd.N_get HO_17.out [] x19_5 p256 (by first | exact q256 | exact od_ | (have e_ := (Kd.N_reads' HO_17.out).1; omega))
                 obtain ⟨ua256_0, uc256_0, rfl, ul256_0, ge256_0⟩ := Kd.FK_slice_open hMe256
                 have hv256_0 := hcc256 0 _ rfl
                 rw [Nat.add_zero, show ((Kd.slice 2 (Kd.int .i64))).sz = 1 from rfl, Nat.mul_one] at hv256_0
                 replace hv256_0 := Option.some.inj (hv256_0.symm.trans hx256_0)
                 injection hv256_0 with hva_ hvn_ hvc_
                 rw [hva_] at ge256_0
                 rw [hvc_] at ul256_0
                 have HL256_0 := Aside0.mk (show Kd.V (Kd.int .i64) 2 _ w.heap.size _ _ (rd_L1 t249 x19_5) from Kd.V_mk ul256_0 ge256_0)
                 clear hva_ hvn_ hvc_ ge256_0 ul256_0
                 clear hcc256 hce256
                 have HR256_0 := Aside0.mk hi256_0
                 have HC256_0 := Aside0.mk hl256_0
                 clear hi256_0 hl256_0
                 replace p256 := eq_true p256
                 replace q256 := eq_true q256
                 have p257 : 0 ≤ (x19_5 : Int) := od_
                 have q257 : x19_5 < (t249.length : Int) := od_
                 obtain ⟨ad257, A257_0, c257_0, e257, hx257_0, hl257_0, hi257_0⟩ := at_L1 (Kd.N_reads' HO_17.out).2.2 x19_5 p257 q257
                 obtain rfl : ad256 = ad257 := (by injection e257)
                 obtain ⟨ce257, hce257, hMe257, hcc257⟩ := Kd.N_get HO_17.out [] x19_5 p257 (by first | exact q257 | exact od_ | (have e_ := (Kd.N_reads' HO_17.out).1; omega))
                 obtain ⟨ua257_0, uc257_0, rfl, ul257_0, ge257_0⟩ := Kd.FK_slice_open hMe257
                 have hv257_0 := hcc257 0 _ rfl
                 rw [Nat.add_zero, show ((Kd.slice 2 (Kd.int .i64))).sz = 1 from rfl, Nat.mul_one] at hv257_0
                 replace hv257_0 := Option.some.inj (hv257_0.symm.trans hx257_0)
                 injection hv257_0 with hva_ hvn_ hvc_
                 rw [hva_] at ge257_0
                 rw [hvc_] at ul257_0
                 have HL257_0 := Aside0.mk (show Kd.V (Kd.int .i64) 2 _ w.heap.size _ _ (rd_L1 t249 x19_5) from Kd.V_mk ul257_0 ge257_0)
                 clear hva_ hvn_ hvc_ ge257_0 ul257_0
                 clear hcc257 hce257
                 have HR257_0 := Aside0.mk hi257_0
                 have HC257_0 := Aside0.mk hl257_0
                 clear hi257_0 hl257_0
                 replace p257 := eq_true p257
                 replace q257 := eq_true q257
                 have ea_ := Option.some.inj (hx256_0.symm.trans hx257_0)
                 injection ea_ with ea_ en_ ec_
                 subst ea_
                 subst ec_
                 clear en_
                 have p258 : 0 ≤ ((ji75) : Int) := od_
                 have q258 : (ji75) < ((rd_L1 t249 x19_5).length : Int) := od_
                 obtain ⟨ad258, e258, hx258_0⟩ := Kd.at_int (by repeat (first | (with_reducible exact HR256_0.out) | (with_reducible refine Kd.C_alloc ?_ _) | (with_reducible refine Kd.C_drewN ?_ _) | (with_reducible refine Kd.C_drew ?_) | exact HR256_0.out)) (ji75) p258 q258
                 cases e258
                 replace p258 := eq_true p258
                 replace q258 := eq_true q258
                 have p259 : 0 ≤ ((rd (rd_L1 t249 x19_5) (ji75)) : Int) := od_
                 have q259 : (rd (rd_L1 t249 x19_5) (ji75)) < ((rd_L5 x9_2 x16_4).length : Int) := od_
                 obtain ⟨ad259, e259, hx259_0⟩ := Kd.at_bool (by repeat (first | (with_reducible exact HR255_0.out) | (with_reducible refine Kd.C_alloc ?_ _) | (with_reducible refine Kd.C_drewN ?_ _) | (with_reducible refine Kd.C_drew ?_) | exact HR255_0.out)) (rd (rd_L1 t249 x19_5) (ji75)) p259 q259
                 (try rw [← Nbq80.out] at hx259_0)
                 cases e259
                 replace p259 := eq_true p259
                 replace q259 := eq_true q259
                 go_wp2
                 repeat (go_quiet (fail); try go_wp2)
                 first | (first | go_roundg k5 | (refine Handed.intro k5 ?measure ?_; rotate_left; go_step; (try simp only [add_plain]); (repeat apply Exists.intro); refine ⟨?rel, rfl⟩)) | ((try subst hji75); (try subst hji48); (first | go_roundg k5 | (refine Handed.intro k5 ?measure ?_; rotate_left; go_step; (try simp only [add_plain]); (repeat apply Exists.intro); refine ⟨?rel, rfl⟩)))
                 case measure => have := HK1.out; have := HK2.out; have := HJ52.out; have := HK4.out; have := HK5.out; omega
                 case rel => exact ⟨(x18_5), (wrap64 (x19_5 + 1)), es_, H', ⟨by have := HK1.out; have := HK2.out; have := HJ52.out; have := HK4.out; have := HK5.out; omega⟩, ⟨Kd.N_below HO_7.out bgo_⟩, ⟨Kd.N_below HO_9.out bgo_⟩, ⟨Kd.N_below HO_17.out bgo_⟩, ⟨Kd.N_below HO_18.out bgo_⟩, ⟨blk_below BK211.out bgo_⟩, ⟨hbs_⟩⟩
               ·rw [if_neg c71] at H
                have c71b0 := decide_eq_false c71
                clear c71
                have H' := Aside0.mk H
                clear H
                obtain ⟨Ao86, co86, eo86⟩ := Kd.N_slice HO_17.out
                subst eo86
                go_wp2
                first | (first | go_roundg k5 | (refine Handed.intro k5 ?measure ?_; rotate_left; go_step; (try simp only [add_plain]); (repeat apply Exists.intro); refine ⟨?rel, rfl⟩)) | ((try subst hji48); (first | go_roundg k5 | (refine Handed.intro k5 ?measure ?_; rotate_left; go_step; (try simp only [add_plain]); (repeat apply Exists.intro); refine ⟨?rel, rfl⟩)))
                case measure => have := HK1.out; have := HK2.out; have := HJ52.out; have := HK4.out; have := HK5.out; omega
                case rel => exact ⟨(x18_5), (wrap64 (x16_4 - 1)), es_, H', ⟨by have := HK1.out; have := HK2.out; have := HJ52.out; have := HK4.out; have := HK5.out; omega⟩, ⟨by (with_reducible repeat (first | apply Kd.N_alloc | apply Kd.N_drewN | apply Kd.N_drew)); exact Kd.N_mono HO_7.out (fun _ hk => ⟨hk.1, ⟨hk.2.1, ⟨hk.2.2.2.1, hk.2.2.2.2⟩⟩⟩)⟩, ⟨by (with_reducible repeat (first | apply Kd.N_alloc | apply Kd.N_drewN | apply Kd.N_drew)); exact Kd.N_mono HO_9.out (fun _ hk => ⟨hk.1, ⟨hk.2.1, ⟨hk.2.2.2.1, hk.2.2.2.2⟩⟩⟩)⟩, ⟨by (with_reducible repeat (first | apply Kd.N_alloc | apply Kd.N_drewN | apply Kd.N_drew)); exact Kd.N_mono HO_18.out (fun _ hk => ⟨hk.1, ⟨hk.2.1, ⟨hk.2.2.1, hk.2.2.2.2⟩⟩⟩)⟩, ⟨blk_below BK211.out bgo_⟩, ⟨hbs_⟩⟩
            ·rw [if_neg c64] at H
             have c64b0 := decide_eq_false c64
             clear c64
             obtain ⟨c87, H⟩ := itn_ H
             have LMc87 := Aside0.mk c87
             clear c87
             obtain ⟨y246, Ny246, H⟩ : ∃ y246 : List (List Int), Aside0 (y246 = (x7_1 ++ x15_4)) ∧ (spec_l03All.l0 k4 a1 (wrap64 (2 * (l0_1.length : Int))) y246 (wrap64 (x8_1 + 1)) a0_0 l0_1) = some (r1, r2) := ⟨_, ⟨rfl⟩, H⟩
             have H' := Aside0.mk H
             clear H
             obtain ⟨Ao89, co89, eo89⟩ := Kd.N_slice HO_15.out
             subst eo89
             go_wp2_with (first | ((with_reducible refine gate_builtin (b := .append) (xs := #[.tmp 144, .tmp 145]) rfl ?_); at_builtin; refine Kd.N_append_rows (Kd.slice 2 (Kd.int .i64)) (w0 := w) w.heap.size rfl (.tmp 144) (.tmp 145) 22 26 (.slice none 0 0) 24 rfl Try.underlying22 info26 rfl (by decide) (by omega) u7 x7_1 x15_4 _ _ _ (fun k_ => (w.heap.size ≤ k_) ∧ some k_ ≠ (.slice (some ad238) x9_2.length co56 : Value).ownBlock ∧ k_ ≠ gb211) (fun k_ => ((fun k_ => (w.heap.size ≤ k_) ∧ some k_ ≠ (.slice (some ad238) x9_2.length co56 : Value).ownBlock ∧ k_ ≠ gb211)) k_ ∧ some k_ ≠ (u7 : Value).ownBlock) rfl rfl ?aO ?aR (fun _ hk => hk) ?aF ?aB ?aS ?aL ?_; (case aR => exact (by skip; exact Kd.N_F (Kd.N_mono (ok' := (fun k_ => ((fun k_ => (w.heap.size ≤ k_) ∧ some k_ ≠ (.slice (some ad238) x9_2.length co56 : Value).ownBlock ∧ k_ ≠ gb211)) k_ ∧ some k_ ≠ (u7 : Value).ownBlock)) (HO_15.out) (fun k_ hk => ⟨⟨hk.1, ⟨hk.2.2.1, hk.2.2.2⟩⟩, hk.2.1⟩)))); (case aB => exact hbs_); (case aF => exact (fun k_ hk => ⟨(Nat.le_trans (below_size hbs_) hk), Kd.fresh' (Kd.N_lt (Kd.N_below HO_9.out bgo_)) k_ hk, Kd.freshB (g := gb211) (o := .cells #[.int .i64 a0_0, .slice A0_1 l0_1.length c0_1] 29 (0, 0)) (blk_below BK211.out bgo_) k_ hk⟩)); (case aO => exact (by (with_reducible repeat (first | apply Kd.N_alloc | apply Kd.N_drewN | apply Kd.N_drew)); exact Kd.N_mono HO_7.out (fun _ hk => ⟨hk.1, ⟨hk.2.1, hk.2.2.2⟩⟩))); (case aS => exact (below_size hbs_)); (case aL => have := LMc87.out; omega); intro v247 w88 ho hb hg hat; rw [← Ny246.out] at ho; replace HO_9 := Aside0.mk (Kd.N_afterv (ok := (fun k_ => (w.heap.size ≤ k_) ∧ some k_ ≠ (.slice Ao89 x15_4.length co89 : Value).ownBlock ∧ k_ ≠ gb211)) (by (with_reducible repeat (first | apply Kd.N_alloc | apply Kd.N_drewN | apply Kd.N_drew)); exact Kd.N_mono HO_9.out (fun _ hk => ⟨⟨hk.1, ⟨hk.2.2.1, hk.2.2.2⟩⟩, hk.2.1⟩)) hg hat); replace HO_15 := Aside0.mk (Kd.N_afterv (ok := (fun k_ => (w.heap.size ≤ k_) ∧ some k_ ≠ (.slice (some ad238) x9_2.length co56 : Value).ownBlock ∧ k_ ≠ gb211)) (by (with_reducible repeat (first | apply Kd.N_alloc | apply Kd.N_drewN | apply Kd.N_drew)); exact Kd.N_mono HO_15.out (fun _ hk => ⟨⟨hk.1, ⟨hk.2.2.1, hk.2.2.2⟩⟩, hk.2.1⟩)) hg hat); replace BK211 := Aside0.mk (blk_grown (g := gb211) (o := .cells #[.int .i64 a0_0, .slice A0_1 l0_1.length c0_1] 29 (0, 0)) (blk_below BK211.out bgo_) hg (Kd.N_ne HO_7.out BK211.out (by decide))); replace HB := Aside0.mk (hb); have HO248 := Aside0.mk (ho); clear HO_7; clear ho hb hg hat))
             first | (first | go_roundg k4 | (refine Handed.intro k4 ?measure ?_; rotate_left; go_step; (try simp only [add_plain]); (repeat apply Exists.intro); refine ⟨?rel, rfl⟩)) | ((try subst hji48); (first | go_roundg k4 | (refine Handed.intro k4 ?measure ?_; rotate_left; go_step; (try simp only [add_plain]); (repeat apply Exists.intro); refine ⟨?rel, rfl⟩)))
             case measure => have := HK1.out; have := HK2.out; have := HJ52.out; have := HK4.out; omega
             case rel => exact ⟨(y246), (wrap64 (x8_1 + 1)), es_, H', ⟨by have := HK1.out; have := HK2.out; have := HJ52.out; have := HK4.out; omega⟩, ⟨by (with_reducible repeat (first | apply Kd.N_alloc | apply Kd.N_drewN | apply Kd.N_drew)); exact Kd.N_mono HO248.out (fun _ hk => ⟨hk.1, hk.2.2⟩)⟩, ⟨blk_below BK211.out bgo_⟩, ⟨hbs_⟩⟩
    ·rw [if_neg c14] at H
     have c14b0 := decide_eq_false c14
     clear c14
     simp only [Option.some.injEq, Prod.mk.injEq] at H
     obtain ⟨rfl, rfl⟩ := H
     go_wp2
     go_ret2
     exact ⟨_, er_, by (with_reducible repeat (first | apply Kd.N_alloc | apply Kd.N_drewN | apply Kd.N_drew)); exact Kd.N_mono HO_7.out (fun _ hk => hk.1), hbs_⟩

/-! ### impl_within: function 58 -/
def impl_within.f (a0 : Int) (a1 : Int) (a2 : Int) : Option (Bool) := if a0 ≥ a1 then (some (decide (a0 ≤ a2))) else (some false)
set_option maxHeartbeats 8000000 in
set_option maxRecDepth 100000 in
theorem impl_within.calls (a0 : Int) (a1 : Int) (a2 : Int) (r : Bool) (w : World) (h : impl_within.f a0 a1 a2 = some r) :
  Calls Try.prog 58 #[.int .i64 a0, .int .i64 a1, .int .i64 a2] w fun e w' => e = .returned (.bool r) ∧ Drawn0 w w' := by
 have H : (if a0 ≥ a1 then (some (decide (a0 ≤ a2))) else (some false)) = some r := h
 clear h
 by_cases c4 : a0 ≥ a1
 ·rw [if_pos c4] at H
  have c4b0 := decide_eq_true c4
  clear c4
  obtain rfl := Option.some.inj H
  go_enter Try.func58, Try.ntmps58
  go_wp2
  go_ret
  exact ⟨es_, by repeat (first | exact Drawn0.refl _ | apply Drawn0.step)⟩
 ·rw [if_neg c4] at H
  have c4b0 := decide_eq_false c4
  clear c4
  obtain rfl := Option.some.inj H
  go_enter Try.func58, Try.ntmps58
  go_wp2
  go_ret
  exact ⟨es_, by repeat (first | exact Drawn0.refl _ | apply Drawn0.step)⟩

/-! ### impl_IsGraph: function 46 -/
def impl_IsGraph.l0 : Nat → List (List Int) → Int → Int → Int → List (List Int) → Option (Bool)
 | 0, _, _, _, _, _ => none
 | k + 1, x6, x7, x8, x271000, x271001 => if x8 < x7 then (if 0 ≤ x8 then (if x8 < (x6.length : Int) then (if ((rd_L1 x6 x8).length : Int) = 2 then (if 0 < ((rd_L1 x6 x8).length : Int) then ((impl_within.f (rd (rd_L1 x6 x8) 0) 0 (wrap64 (x271000 - 1))).bind fun t274 => (if t274 = true then (if 1 < ((rd_L1 x6 x8).length : Int) then ((impl_within.f (rd (rd_L1 x6 x8) 1) 0 (wrap64 (x271000 - 1))).bind fun t276 => (if t276 = true then (impl_IsGraph.l0 k x6 x7 (wrap64 (x8 + 1)) x271000 x271001) else (some false))) else (none)) else (some false))) else (none)) else (some false)) else (none)) else (none)) else ((impl_within.f x271000 1 8).bind fun t271 => (if t271 = true then (some (decide ((x271001.length : Int) ≤ 10))) else (some false)))
def impl_IsGraph.f (k : Nat) (a0_0 : Int) (l0_1 : List (List Int)) : Option (Bool) := impl_IsGraph.l0 k l0_1 (l0_1.length : Int) 0 a0_0 l0_1
set_option maxHeartbeats 8000000 in
set_option maxRecDepth 100000 in
theorem impl_IsGraph.calls (k : Nat) (a0_0 : Int) (A0_1 : Option Addr) (c0_1 : Nat) (l0_1 : List (List Int)) (r : Bool) (w : World) (hr0_1 : Kd.C (Kd.slice 2 (Kd.int .i64)) w A0_1 l0_1.length l0_1) (hc0_1 : l0_1.length ≤ c0_1) (h : impl_IsGraph.f k a0_0 l0_1 = some r) :
  Calls Try.prog 46 #[.agg #[.int .i64 a0_0, .slice A0_1 l0_1.length c0_1]] w fun e w' => e = .returned (.bool r) ∧ Below w.heap.size w w' := by
 have hu29 := Try.underlying29
 have HR0_1 := Aside0.mk hr0_1
 have HC0_1 := Aside0.mk hc0_1
 clear hr0_1 hc0_1
 have HB := Aside0.mk (Below.refl w.heap.size w)
 have H : (impl_IsGraph.l0 k l0_1 (l0_1.length : Int) 0 a0_0 l0_1) = some r := h
 clear h
 have H' := Aside0.mk H
 clear H
 go_enter Try.func46, Try.ntmps46
 go_wp2_with (first | ((with_reducible refine gate_dst (N := 1) rfl ?_); (try (refine gate_guard (by rfl) ?_; dsimp only)); refine box_event ?hg (N := 1) ?hd (cs := #[.int .i64 a0_0, .slice A0_1 l0_1.length c0_1]) (t := 29) ?hr ?_; (case hd => rfl); (case hg => rfl); (case hr => first | (go_simp; done) | (go_simp; rfl)); intro gb270 hg w2 hbox hb; have BK270 := Aside0.mk (hbox); have GW270 := Aside0.mk ((by rw [hg]; exact (below_size hb_) : w.heap.size ≤ gb270)); have GE270 := Aside0.mk ((by rw [hg]; exact (below_size hb_) : w.heap.size ≤ gb270)); replace HB := Aside0.mk (below_step hb_ hb); clear hb hbox hg; have hcz3_0 : w2.cell? ⟨gb270, 0, none⟩ = some (.int .i64 a0_0) := (blk_cell BK270.out 0).trans rfl; have hcz3_1 : w2.cell? ⟨gb270, 1, none⟩ = some (.slice A0_1 l0_1.length c0_1) := (blk_cell BK270.out 1).trans rfl; have hfz3_0 := blk_frozen BK270.out 0; have hfz3_1 := blk_frozen BK270.out 1))
 go_loopg [8] k (fun kq v8 w' => ∃ (x8_1 : Int), v8 = .int .i64 x8_1 ∧ Aside0 (impl_IsGraph.l0 kq l0_1 (l0_1.length : Int) x8_1 a0_0 l0_1 = some r) ∧ Aside0 (kq ≤ k) ∧ Aside0 (w'.heap[gb270]? = some (.cells #[.int .i64 a0_0, (.slice A0_1 l0_1.length c0_1)] 29 (0, 0))) ∧ Aside0 (Below w.heap.size w w'))
 case atStart => exact ⟨(0), es_, H', ⟨Nat.le_refl _⟩, ⟨blk_below BK270.out bgo_⟩, ⟨hbs_⟩⟩
 case round =>
  clear H'
  obtain ⟨x8_1, rfl, HA, HK1, BK270, HB⟩ := hrel
  cases gk with
  | zero => exact absurd HA.out (by simp [impl_IsGraph.l0])
  | succ k1 =>
   have H := HA.out
   clear HA
   simp only [impl_IsGraph.l0] at H
   by_cases c4 : x8_1 < (l0_1.length : Int)
   ·rw [if_pos c4] at H
    have c4b0 := decide_eq_true c4
    clear c4
    obtain ⟨c5, H⟩ := itn_ H
    have c5b0 := decide_eq_true c5
    clear c5
    obtain ⟨c6, H⟩ := itn_ H
    have c6b0 := decide_eq_true c6
    clear c6
    by_cases c7 : ((rd_L1 l0_1 x8_1).length : Int) = 2
    ·rw [if_pos c7] at H
     have c7b0 : (((rd_L1 l0_1 x8_1).length : Int) == 2) = true := beq_iff_eq.mpr c7
     have c7b1 : (((rd_L1 l0_1 x8_1).length : Int) != 2) = false := bne_eq_false_iff_eq.mpr c7
     clear c7
     obtain ⟨c8, H⟩ := itn_ H
     have c8b0 := decide_eq_true c8
     have c8b1 : decide (0 < (rd_L1 l0_1 x8_1).length) = true := decide_eq_true (by omega)
     clear c8
     obtain ⟨t274, A9, H⟩ := bnd_ H
     by_cases c10 : t274 = true
     ·subst c10
      have H1 : (if 1 < ((rd_L1 l0_1 x8_1).length : Int) then ((impl_within.f (rd (rd_L1 l0_1 x8_1) 1) 0 (wrap64 (a0_0 - 1))).bind fun t276 => (if t276 = true then (impl_IsGraph.l0 k1 l0_1 (l0_1.length : Int) (wrap64 (x8_1 + 1)) a0_0 l0_1) else (some false))) else (none)) = some r := by rw [if_pos rfl] at H; exact H
      clear H
      have H := H1
      clear H1
      obtain ⟨c11, H⟩ := itn_ H
      have c11b0 := decide_eq_true c11
      have c11b1 : decide (1 < (rd_L1 l0_1 x8_1).length) = true := decide_eq_true (by omega)
      clear c11
      obtain ⟨t276, A12, H⟩ := bnd_ H
      by_cases c13 : t276 = true
      ·subst c13
       have H1 : (impl_IsGraph.l0 k1 l0_1 (l0_1.length : Int) (wrap64 (x8_1 + 1)) a0_0 l0_1) = some r := by rw [if_pos rfl] at H; exact H
       clear H
       have H := H1
       clear H1
       have H' := Aside0.mk H
       clear H
       have p272 : 0 ≤ (x8_1 : Int) := od_
       have q272 : x8_1 < (l0_1.length : Int) := od_
       obtain ⟨ad272, A272_0, c272_0, e272, hx272_0, hl272_0, hi272_0⟩ := at_L1 HR0_1.out x8_1 p272 q272
       cases e272
       (try replace hx272_0 := (HB.out.cell (World.block_lt_of_cell? w _ hx272_0)).trans hx272_0)
       have HR272_0 := Aside0.mk hi272_0
       have HC272_0 := Aside0.mk hl272_0
       clear hi272_0 hl272_0
       replace p272 := eq_true p272
       replace q272 := eq_true q272
       have p273 : 0 ≤ (0 : Int) := (by omega)
       have q273 : 0 < ((rd_L1 l0_1 x8_1).length : Int) := od_
       obtain ⟨ad273, e273, hx273_0⟩ := Kd.at_int HR272_0.out 0 p273 q273
       cases e273
       have qi273 : (0 < (rd_L1 l0_1 x8_1).length) = True := eq_true (by omega)
       (try rw [show ((0 : Int)).toNat = 0 from rfl] at hx273_0)
       (try rw [Addr.add_zero'] at hx273_0)
       (try replace hx273_0 := (HB.out.cell (World.block_lt_of_cell? w _ hx273_0)).trans hx273_0)
       replace p273 := eq_true p273
       replace q273 := eq_true q273
       have hcz14_0 : wr.cell? ⟨gb270, 0, none⟩ = some (.int .i64 a0_0) := (blk_cell BK270.out 0).trans rfl
       have hcz14_1 : wr.cell? ⟨gb270, 1, none⟩ = some (.slice (some ad272) l0_1.length c0_1) := (blk_cell BK270.out 1).trans rfl
       have hfz14_0 := blk_frozen BK270.out 0
       have hfz14_1 := blk_frozen BK270.out 1
       have p275 : 0 ≤ (1 : Int) := (by omega)
       have q275 : 1 < ((rd_L1 l0_1 x8_1).length : Int) := od_
       obtain ⟨ad275, e275, hx275_0⟩ := Kd.at_int HR272_0.out 1 p275 q275
       obtain rfl : ad273 = ad275 := (by injection e275)
       (try simp only [show (1 : Int).toNat = 1 from rfl, Nat.reduceMul, Nat.reduceEqDiff, Go.Addr.add, ↓reduceIte] at hx275_0)
       have qi275 : (1 < (rd_L1 l0_1 x8_1).length) = True := eq_true (by omega)
       (try rw [show ((1 : Int)).toNat = 1 from rfl] at hx275_0)
       (try replace hx275_0 := (HB.out.cell (World.block_lt_of_cell? w _ hx275_0)).trans hx275_0)
       replace p275 := eq_true p275
       replace q275 := eq_true q275
       go_wp2
       repeat (go_quiet (first | (go_at_call 58; (with_reducible refine (impl_within.calls (rd (rd_L1 l0_1 x8_1) 0) 0 (wrap64 (a0_0 - 1)) true _ A9.out).mono ?_); rintro e w' ⟨rfl, ⟨nd, rfl⟩⟩; (try first | exact ⟨rfl, _, World.drewN_drewN _ _ _⟩ | exact ⟨rfl, _, Eq.trans (World.drewN_drewN _ _ _) (congrArg (World.drewN _) (Nat.add_assoc _ _ _))⟩)) | (go_at_call 58; (with_reducible refine (impl_within.calls (rd (rd_L1 l0_1 x8_1) 1) 0 (wrap64 (a0_0 - 1)) true _ A12.out).mono ?_); rintro e w' ⟨rfl, ⟨nd, rfl⟩⟩; (try first | exact ⟨rfl, _, World.drewN_drewN _ _ _⟩ | exact ⟨rfl, _, Eq.trans (World.drewN_drewN _ _ _) (congrArg (World.drewN _) (Nat.add_assoc _ _ _))⟩))); try go_wp2)
       go_roundg k1
       case measure => have := HK1.out; omega
       case rel => exact ⟨(wrap64 (x8_1 + 1)), es_, H', ⟨by have := HK1.out; omega⟩, ⟨blk_below BK270.out bgo_⟩, ⟨hbs_⟩⟩
      ·replace c13 := Bool.eq_false_iff.mpr c13
       subst c13
       have H1 : (some false) = some r := by rw [if_neg (show ¬ (false = true) by decide)] at H; exact H
       clear H
       have H := H1
       clear H1
       obtain rfl := Option.some.inj H
       have p272 : 0 ≤ (x8_1 : Int) := od_
       have q272 : x8_1 < (l0_1.length : Int) := od_
       obtain ⟨ad272, A272_0, c272_0, e272, hx272_0, hl272_0, hi272_0⟩ := at_L1 HR0_1.out x8_1 p272 q272
       cases e272
       (try replace hx272_0 := (HB.out.cell (World.block_lt_of_cell? w _ hx272_0)).trans hx272_0)
       have HR272_0 := Aside0.mk hi272_0
       have HC272_0 := Aside0.mk hl272_0
       clear hi272_0 hl272_0
       replace p272 := eq_true p272
       replace q272 := eq_true q272
       have p273 : 0 ≤ (0 : Int) := (by omega)
       have q273 : 0 < ((rd_L1 l0_1 x8_1).length : Int) := od_
       obtain ⟨ad273, e273, hx273_0⟩ := Kd.at_int HR272_0.out 0 p273 q273
       cases e273
       have qi273 : (0 < (rd_L1 l0_1 x8_1).length) = True := eq_true (by omega)
       (try rw [show ((0 : Int)).toNat = 0 from rfl] at hx273_0)
       (try rw [Addr.add_zero'] at hx273_0)
       (try replace hx273_0 := (HB.out.cell (World.block_lt_of_cell? w _ hx273_0)).trans hx273_0)
       replace p273 := eq_true p273
       replace q273 := eq_true q273
       have hcz15_0 : wr.cell? ⟨gb270, 0, none⟩ = some (.int .i64 a0_0) := (blk_cell BK270.out 0).trans rfl
       have hcz15_1 : wr.cell? ⟨gb270, 1, none⟩ = some (.slice (some ad272) l0_1.length c0_1) := (blk_cell BK270.out 1).trans rfl
       have hfz15_0 := blk_frozen BK270.out 0
       have hfz15_1 := blk_frozen BK270.out 1
       have p275 : 0 ≤ (1 : Int) := (by omega)
       have q275 : 1 < ((rd_L1 l0_1 x8_1).length : Int) := od_
       obtain ⟨ad275, e275, hx275_0⟩ := Kd.at_int HR272_0.out 1 p275 q275
       obtain rfl : ad273 = ad275 := (by injection e275)
       (try simp only [show (1 : Int).toNat = 1 from rfl, Nat.reduceMul, Nat.reduceEqDiff, Go.Addr.add, ↓reduceIte] at hx275_0)
       have qi275 : (1 < (rd_L1 l0_1 x8_1).length) = True := eq_true (by omega)
       (try rw [show ((1 : Int)).toNat = 1 from rfl] at hx275_0)
       (try replace hx275_0 := (HB.out.cell (World.block_lt_of_cell? w _ hx275_0)).trans hx275_0)
       replace p275 := eq_true p275
       replace q275 := eq_true q275
       go_wp2
       repeat (go_quiet (first | (go_at_call 58; (with_reducible refine (impl_within.calls (rd (rd_L1 l0_1 x8_1) 0) 0 (wrap64 (a0_0 - 1)) true _ A9.out).mono ?_); rintro e w' ⟨rfl, ⟨nd, rfl⟩⟩; (try first | exact ⟨rfl, _, World.drewN_drewN _ _ _⟩ | exact ⟨rfl, _, Eq.trans (World.drewN_drewN _ _ _) (congrArg (World.drewN _) (Nat.add_assoc _ _ _))⟩)) | (go_at_call 58; (with_reducible refine (impl_within.calls (rd (rd_L1 l0_1 x8_1) 1) 0 (wrap64 (a0_0 - 1)) false _ A12.out).mono ?_); rintro e w' ⟨rfl, ⟨nd, rfl⟩⟩; (try first | exact ⟨rfl, _, World.drewN_drewN _ _ _⟩ | exact ⟨rfl, _, Eq.trans (World.drewN_drewN _ _ _) (congrArg (World.drewN _) (Nat.add_assoc _ _ _))⟩))); try go_wp2)
       go_ret
       exact ⟨er_, hbs_⟩
     ·replace c10 := Bool.eq_false_iff.mpr c10
      subst c10
      have H1 : (some false) = some r := by rw [if_neg (show ¬ (false = true) by decide)] at H; exact H
      clear H
      have H := H1
      clear H1
      obtain rfl := Option.some.inj H
      have p272 : 0 ≤ (x8_1 : Int) := od_
      have q272 : x8_1 < (l0_1.length : Int) := od_
      obtain ⟨ad272, A272_0, c272_0, e272, hx272_0, hl272_0, hi272_0⟩ := at_L1 HR0_1.out x8_1 p272 q272
      cases e272
      (try replace hx272_0 := (HB.out.cell (World.block_lt_of_cell? w _ hx272_0)).trans hx272_0)
      have HR272_0 := Aside0.mk hi272_0
      have HC272_0 := Aside0.mk hl272_0
      clear hi272_0 hl272_0
      replace p272 := eq_true p272
      replace q272 := eq_true q272
      have p273 : 0 ≤ (0 : Int) := (by omega)
      have q273 : 0 < ((rd_L1 l0_1 x8_1).length : Int) := od_
      obtain ⟨ad273, e273, hx273_0⟩ := Kd.at_int HR272_0.out 0 p273 q273
      cases e273
      have qi273 : (0 < (rd_L1 l0_1 x8_1).length) = True := eq_true (by omega)
      (try rw [show ((0 : Int)).toNat = 0 from rfl] at hx273_0)
      (try rw [Addr.add_zero'] at hx273_0)
      (try replace hx273_0 := (HB.out.cell (World.block_lt_of_cell? w _ hx273_0)).trans hx273_0)
      replace p273 := eq_true p273
      replace q273 := eq_true q273
      have hcz16_0 : wr.cell? ⟨gb270, 0, none⟩ = some (.int .i64 a0_0) := (blk_cell BK270.out 0).trans rfl
      have hcz16_1 : wr.cell? ⟨gb270, 1, none⟩ = some (.slice (some ad272) l0_1.length c0_1) := (blk_cell BK270.out 1).trans rfl
      have hfz16_0 := blk_frozen BK270.out 0
      have hfz16_1 := blk_frozen BK270.out 1
      go_wp2
      repeat (go_quiet (first | (go_at_call 58; (with_reducible refine (impl_within.calls (rd (rd_L1 l0_1 x8_1) 0) 0 (wrap64 (a0_0 - 1)) false _ A9.out).mono ?_); rintro e w' ⟨rfl, ⟨nd, rfl⟩⟩; (try first | exact ⟨rfl, _, World.drewN_drewN _ _ _⟩ | exact ⟨rfl, _, Eq.trans (World.drewN_drewN _ _ _) (congrArg (World.drewN _) (Nat.add_assoc _ _ _))⟩))); try go_wp2)
      go_ret
      exact ⟨er_, hbs_⟩
    ·rw [if_neg c7] at H
     have c7b0 : (((rd_L1 l0_1 x8_1).length : Int) == 2) = false := beq_eq_false_iff_ne.mpr c7
     have c7b1 : (((rd_L1 l0_1 x8_1).length : Int) != 2) = true := bne_iff_ne.mpr c7
     obtain rfl := Option.some.inj H
     have p272 : 0 ≤ (x8_1 : Int) := od_
     have q272 : x8_1 < (l0_1.length : Int) := od_
     obtain ⟨ad272, A272_0, c272_0, e272, hx272_0, hl272_0, hi272_0⟩ := at_L1 HR0_1.out x8_1 p272 q272
     cases e272
     (try replace hx272_0 := (HB.out.cell (World.block_lt_of_cell? w _ hx272_0)).trans hx272_0)
     have HR272_0 := Aside0.mk hi272_0
     have HC272_0 := Aside0.mk hl272_0
     clear hi272_0 hl272_0
     replace p272 := eq_true p272
     replace q272 := eq_true q272
     go_wp2
     repeat (go_quiet (fail); try go_wp2)
     go_ret
     exact ⟨er_, hbs_⟩
   ·rw [if_neg c4] at H
    have c4b0 := decide_eq_false c4
    clear c4
    obtain ⟨t271, A17, H⟩ := bnd_ H
    by_cases c18 : t271 = true
    ·subst c18
     have H1 : (some (decide ((l0_1.length : Int) ≤ 10))) = some r := by rw [if_pos rfl] at H; exact H
     clear H
     have H := H1
     clear H1
     obtain rfl := Option.some.inj H
     have hcz19_0 : wr.cell? ⟨gb270, 0, none⟩ = some (.int .i64 a0_0) := (blk_cell BK270.out 0).trans rfl
     have hcz19_1 : wr.cell? ⟨gb270, 1, none⟩ = some (.slice A0_1 l0_1.length c0_1) := (blk_cell BK270.out 1).trans rfl
     have hfz19_0 := blk_frozen BK270.out 0
     have hfz19_1 := blk_frozen BK270.out 1
     go_wp2_with (first | (go_at_call 58; (with_reducible refine (impl_within.calls a0_0 1 8 true _ A17.out).mono ?_); rintro e w' ⟨rfl, ⟨nd, rfl⟩⟩; (try first | exact ⟨rfl, _, World.drewN_drewN _ _ _⟩ | exact ⟨rfl, _, Eq.trans (World.drewN_drewN _ _ _) (congrArg (World.drewN _) (Nat.add_assoc _ _ _))⟩)))
     go_ret
     exact ⟨er_, hbs_⟩
    ·replace c18 := Bool.eq_false_iff.mpr c18
     subst c18
     have H1 : (some false) = some r := by rw [if_neg (show ¬ (false = true) by decide)] at H; exact H
     clear H
     have H := H1
     clear H1
     obtain rfl := Option.some.inj H
     have hcz20_0 : wr.cell? ⟨gb270, 0, none⟩ = some (.int .i64 a0_0) := (blk_cell BK270.out 0).trans rfl
     have hcz20_1 : wr.cell? ⟨gb270, 1, none⟩ = some (.slice A0_1 l0_1.length c0_1) := (blk_cell BK270.out 1).trans rfl
     have hfz20_0 := blk_frozen BK270.out 0
     have hfz20_1 := blk_frozen BK270.out 1
     go_wp2_with (first | (go_at_call 58; (with_reducible refine (impl_within.calls a0_0 1 8 false _ A17.out).mono ?_); rintro e w' ⟨rfl, ⟨nd, rfl⟩⟩; (try first | exact ⟨rfl, _, World.drewN_drewN _ _ _⟩ | exact ⟨rfl, _, Eq.trans (World.drewN_drewN _ _ _) (congrArg (World.drewN _) (Nat.add_assoc _ _ _))⟩)))
     go_ret
     exact ⟨er_, hbs_⟩

-- NOT PRINTED: function 50 (impl_graphCode)

/-! ### impl_isLength: function 67 -/
def impl_isLength.f (a0 : Int) : Option (Bool) := (impl_within.f a0 1 12).bind fun t277 => (some t277)
set_option maxHeartbeats 8000000 in
set_option maxRecDepth 100000 in
theorem impl_isLength.calls (a0 : Int) (r : Bool) (w : World) (h : impl_isLength.f a0 = some r) :
  Calls Try.prog 67 #[.int .i64 a0] w fun e w' => e = .returned (.bool r) ∧ Drawn0 w w' := by
 have H : ((impl_within.f a0 1 12).bind fun t277 => (some t277)) = some r := h
 clear h
 obtain ⟨t277, A2, H⟩ := bnd_ H
 obtain rfl := Option.some.inj H
 go_enter Try.func67, Try.ntmps67
 go_wp2_with (first | ((with_reducible refine gate_callee (f := 58) rfl ?_); refine goesL_ (some 4) rfl rfl Try.func58 (by kernel_rfl) rfl #[.int .i64 a0, .int .i64 1, .int .i64 12] rfl arg_ ?_; (with_reducible refine (impl_within.calls a0 1 12 t277 _ A2.out).mono ?_); rintro e w' ⟨rfl, ⟨nd, rfl⟩⟩; refine ⟨_, rfl, ?_⟩))
 go_ret
 exact ⟨es_, by repeat (first | exact Drawn0.refl _ | apply Drawn0.step)⟩

-- NOT PRINTED: function 74 (impl_ClosedWalks_1)

/-! ### impl_square: function 95 -/
def impl_square.l0 : Nat → Int → List (List Int) → Int → Int → Option ((List (List Int)))
 | 0, _, _, _, _ => none
 | k + 1, x0, x3, x5, x6 => if x6 < x5 then (if 0 ≤ x0 then (if (x0 : Int).toNat ≤ 35184372088832 then (if x3.length < 5864062014805 then (impl_square.l0 k x0 (x3 ++ [(List.replicate (x0 : Int).toNat 0)]) x5 (wrap64 (x6 + 1))) else (none)) else (none)) else (none)) else (some x3)
def impl_square.f (k : Nat) (a0 : Int) : Option ((List (List Int))) := impl_square.l0 k a0 (([] : List (List Int))) a0 0
set_option maxHeartbeats 8000000 in
set_option maxRecDepth 100000 in
theorem impl_square.calls (k : Nat) (a0 : Int) (r : List (List Int)) (w : World) (h : impl_square.f k a0 = some r) :
  Calls Try.prog 95 #[.int .i64 a0] w fun e w' => ∃ v0_ : Value, e = .returned (v0_) ∧ Kd.S (Kd.slice 2 (Kd.int .i64)) 26 w' w.heap.size (fun _ => True) v0_ r ∧ Below w.heap.size w w' := by
 have HB := Aside0.mk (Below.refl w.heap.size w)
 have H : (impl_square.l0 k a0 (([] : List (List Int))) a0 0) = some r := h
 clear h
 obtain ⟨y278, Ny278, H⟩ : ∃ y278 : List (List Int), Aside0 (y278 = (([] : List (List Int)))) ∧ (impl_square.l0 k a0 y278 a0 0) = some r := ⟨_, ⟨rfl⟩, H⟩
 have H' := Aside0.mk H
 clear H
 go_enter Try.func95, Try.ntmps95
 go_wp2_with (first | ((with_reducible refine gate_dst (N := 4) rfl ?_); refine Kd.S_lit (Kd.slice 2 (Kd.int .i64)) _ 26 ?hg (N := 4) ?hd (xs := ([] : List (List Int))) (inner := []) (ok := fun _ => True) (okp := fun _ => True) ?hr ?hp (fun _ hk => hk) trivial (Below.refl _ _) (Nat.le_refl _) (by simp) ?_; (case hd => rfl); (case hg => rfl); (case hr => first | (go_simp; done) | (go_simp; rfl)); (case hp => exact (Reps.none _ _)); intro v279 w2 ho3 hb hg_ hnew_; clear hg_ hnew_; (first | rw [← Ny278.out] at ho3 | (simp only [Int.reduceToNat] at ho3; rw [← Ny278.out] at ho3)); have HO280 := Aside0.mk (Kd.S_lower ho3 (below_size hb_)); replace HB := Aside0.mk (below_step hb_ hb); clear hb ho3))
 go_loopg [3, 6] k (fun kq v3 v6 w' => ∃ (x3_1 : List (List Int)) (x6_1 : Int), v6 = .int .i64 x6_1 ∧ Aside0 (impl_square.l0 kq a0 x3_1 a0 x6_1 = some r) ∧ Aside0 (kq ≤ k) ∧ Aside0 (Kd.S (Kd.slice 2 (Kd.int .i64)) 26 w' w.heap.size (fun _ => True) v3 x3_1) ∧ Aside0 (Below w.heap.size w w'))
 case atStart => exact ⟨(y278), (0), es_, H', ⟨Nat.le_refl _⟩, ⟨Kd.S_below HO280.out bgo_⟩, ⟨hb_⟩⟩
 case round =>
  clear H'
  obtain ⟨x3_1, x6_1, rfl, HA, HK1, HO_3, HB⟩ := hrel
  cases gk with
  | zero => exact absurd HA.out (by simp [impl_square.l0])
  | succ k1 =>
   have H := HA.out
   clear HA
   simp only [impl_square.l0] at H
   by_cases c4 : x6_1 < a0
   ·rw [if_pos c4] at H
    have c4b0 := decide_eq_true c4
    clear c4
    obtain ⟨c5, H⟩ := itn_ H
    have c5b0 := eq_true c5
    have c5b1 := decide_eq_true c5
    clear c5
    obtain ⟨c6, H⟩ := itn_ H
    have c6b0 := eq_true c6
    have c6b1 := decide_eq_true c6
    clear c6
    obtain ⟨y281, Ny281, H⟩ : ∃ y281 : List Int, Aside0 (y281 = (List.replicate (a0 : Int).toNat 0)) ∧ (if x3_1.length < 5864062014805 then (impl_square.l0 k1 a0 (x3_1 ++ [y281]) a0 (wrap64 (x6_1 + 1))) else (none)) = some r := ⟨_, ⟨rfl⟩, H⟩
    obtain ⟨c7, H⟩ := itn_ H
    have LMc7 := Aside0.mk c7
    clear c7
    obtain ⟨y284, Ny284, H⟩ : ∃ y284 : List (List Int), Aside0 (y284 = (x3_1 ++ [y281])) ∧ (impl_square.l0 k1 a0 y284 a0 (wrap64 (x6_1 + 1))) = some r := ⟨_, ⟨rfl⟩, H⟩
    have H' := Aside0.mk H
    clear H
    go_wp2_with (first | ((with_reducible refine gate_dst (N := 10) rfl ?_); refine Kd.R_make (Kd.int .i64) _ 2 rfl (N := 10) rfl 26 _ _ rfl a0 rfl rfl Try.underlying26 (.int .i64 0) 8 info2 rfl (by decide) (by omega) 0 (ok := fun _ => True) (okp := fun _ => True) rfl (fun _ hk => hk) trivial (od_) (Nat.le_trans (Nat.mul_le_mul_right _ (od_ : a0.toNat ≤ 35184372088832)) (by omega)) (Below.refl _ _) (Nat.le_refl _) ?_; intro v282 w8 ho9 hb hg_ hnew_; clear hg_ hnew_; (first | rw [← Ny281.out] at ho9 | (simp only [Int.reduceToNat] at ho9; rw [← Ny281.out] at ho9)); replace HO_3 := Aside0.mk (Kd.S_elder' (Kd.S_below HO_3.out bgo_) (Kd.R_base ho9) hb); have HO283 := Aside0.mk (Kd.R_lower ho9 (below_size hb_)); replace HB := Aside0.mk (below_step hb_ hb); clear hb ho9; obtain ⟨Ao11, co11, eo11⟩ := Kd.R_slice HO283.out; subst eo11) | ((with_reducible refine gate_builtin (b := .append) (xs := #[.tmp 8, .tmp 11]) rfl ?_); at_builtin; refine Kd.S_append (Kd.slice 2 (Kd.int .i64)) (w0 := w) w.heap.size rfl (.tmp 8) (.tmp 11) 22 26 (.slice none 0 0) 24 rfl Try.underlying22 info26 rfl (by decide) (by omega) u3 x3_1 y281 [.slice Ao11 y281.length co11] (fun _ => True) (fun k_ => some k_ = (.slice Ao11 y281.length co11 : Value).ownBlock) rfl rfl ?aP (fun k_ hk_ => ((Kd.R_mono (ok' := fun k_ => ((fun _ => True)) k_ ∧ some k_ ≠ (u3 : Value).ownBlock) (Kd.R_apart' (HO283.out) (Kd.S_typed HO_3.out) (by decide)) (fun k_ hk => ⟨trivial, hk.2⟩))).1 k_ hk_.symm) ?aF ?aO ?aB ?aS ?aL ?_; (case aP => exact Kd.M_row (Kd.R_mono (Kd.R_tight rfl (Kd.R_mono (ok' := fun k_ => ((fun _ => True)) k_ ∧ some k_ ≠ (u3 : Value).ownBlock) (Kd.R_apart' (HO283.out) (Kd.S_typed HO_3.out) (by decide)) (fun k_ hk => ⟨trivial, hk.2⟩))) (fun _ h_ => h_))); (case aB => exact hb_); (case aF => exact (fun _ _ => trivial)); (case aO => exact (by (with_reducible repeat (first | apply Kd.S_alloc | apply Kd.S_drewN | apply Kd.S_drew)); exact Kd.S_mono HO_3.out (fun k_ hk => ⟨trivial, fun e_ => hk.2 e_⟩))); (case aS => exact (below_size hb_)); (case aL => have := LMc7.out; omega); intro v285 w10 ho hb hg hat; rw [← Ny284.out] at ho; replace HB := Aside0.mk (hb); have HO286 := Aside0.mk (ho); clear HO_3 HO283; clear ho hb hg hat))
    first | go_roundg k1 | (refine Handed.intro k1 ?measure ?_; rotate_left; go_step; (try simp only [add_plain]); (repeat apply Exists.intro); refine ⟨?rel, rfl⟩)
    case measure => have := HK1.out; omega
    case rel => exact ⟨(y284), (wrap64 (x6_1 + 1)), es_, H', ⟨by have := HK1.out; omega⟩, ⟨Kd.S_below HO286.out bgo_⟩, ⟨hb_⟩⟩
   ·rw [if_neg c4] at H
    have c4b0 := decide_eq_false c4
    clear c4
    obtain rfl := Option.some.inj H
    go_wp2
    go_ret
    exact ⟨_, er_, (Kd.S_below HO_3.out bgo_), hb_⟩

/-! ### impl_rowsTimes: function 96 -/
mutual
def impl_rowsTimes.l0 : Nat → List (List Int) → List (List Int) → List (List Int) → Int → Int → Option ((List (List Int)))
 | 0, _, _, _, _, _ => none
 | k + 1, x1, x5, x15, x16, x17 => if x17 < x16 then (if 0 ≤ x17 then (if x17 < (x15.length : Int) then (impl_rowsTimes.l1 k x1 x5 x17 x15 x16 x17 (rd_L1 x15 x17) ((rd_L1 x15 x17).length : Int) 0) else (none)) else (none)) else (some x5)
def impl_rowsTimes.l1 : Nat → List (List Int) → List (List Int) → Int → List (List Int) → Int → Int → List Int → Int → Int → Option ((List (List Int)))
 | 0, _, _, _, _, _, _, _, _, _ => none
 | k + 1, x1, x5, x6, x15, x16, x17, x22, x23, x24 => if x24 < x23 then (if 0 ≤ x24 then (if x24 < (x22.length : Int) then (if (rd x22 x24) = 0 then (impl_rowsTimes.l1 k x1 x5 x6 x15 x16 x17 x22 x23 (wrap64 (x24 + 1))) else (if x24 < (x1.length : Int) then (impl_rowsTimes.l2 k x1 x5 x6 (rd x22 x24) x15 x16 x17 x22 x23 x24 (rd_L1 x1 x24) ((rd_L1 x1 x24).length : Int) 0) else (none))) else (none)) else (none)) else (impl_rowsTimes.l0 k x1 x5 x15 x16 (wrap64 (x17 + 1)))
def impl_rowsTimes.l2 : Nat → List (List Int) → List (List Int) → Int → Int → List (List Int) → Int → Int → List Int → Int → Int → List Int → Int → Int → Option ((List (List Int)))
 | 0, _, _, _, _, _, _, _, _, _, _, _, _, _ => none
 | k + 1, x1, x5, x6, x9, x15, x16, x17, x22, x23, x24, x34, x35, x36 => if x36 < x35 then (if 0 ≤ x36 then (if x36 < (x34.length : Int) then (if 0 ≤ x6 then (if x6 < (x5.length : Int) then (if x36 < ((rd_L1 x5 x6).length : Int) then (impl_rowsTimes.l2 k x1 (x5.set (x6 : Int).toNat ((rd_L1 x5 x6).set (x36 : Int).toNat (wrap64 ((rd (rd_L1 x5 x6) x36) + (wrap64 (x9 * (rd x34 x36))))))) x6 x9 x15 x16 x17 x22 x23 x24 x34 x35 (wrap64 (x36 + 1))) else (none)) else (none)) else (none)) else (none)) else (none)) else (impl_rowsTimes.l1 k x1 x5 x6 x15 x16 x17 x22 x23 (wrap64 (x24 + 1)))
end
def impl_rowsTimes.f (k : Nat) (l0 : List (List Int)) (l1 : List (List Int)) : Option ((List (List Int))) := (impl_square.f k (l0.length : Int)).bind fun t287 => (impl_rowsTimes.l0 k l1 t287 l0 (l0.length : Int) 0)
set_option maxHeartbeats 8000000 in
set_option maxRecDepth 100000 in
theorem impl_rowsTimes.calls (k : Nat) (A0 : Option Addr) (c0 : Nat) (l0 : List (List Int)) (A1 : Option Addr) (c1 : Nat) (l1 : List (List Int)) (r : List (List Int)) (w : World) (hr0 : Kd.C (Kd.slice 2 (Kd.int .i64)) w A0 l0.length l0) (hc0 : l0.length ≤ c0) (hr1 : Kd.C (Kd.slice 2 (Kd.int .i64)) w A1 l1.length l1) (hc1 : l1.length ≤ c1) (h : impl_rowsTimes.f k l0 l1 = some r) :
  Calls Try.prog 96 #[.slice A0 l0.length c0, .slice A1 l1.length c1] w fun e w' => ∃ v0_ : Value, e = .returned (v0_) ∧ Kd.S (Kd.slice 2 (Kd.int .i64)) 26 w' w.heap.size (fun _ => True) v0_ r ∧ Below w.heap.size w w' := by
 have HR0 := Aside0.mk hr0
 have HC0 := Aside0.mk hc0
 clear hr0 hc0
 have HR1 := Aside0.mk hr1
 have HC1 := Aside0.mk hc1
 clear hr1 hc1
 have HB := Aside0.mk (Below.refl w.heap.size w)
 have H : ((impl_square.f k (l0.length : Int)).bind fun t287 => (impl_rowsTimes.l0 k l1 t287 l0 (l0.length : Int) 0)) = some r := h
 clear h
 obtain ⟨t287, A3, H⟩ := bnd_ H
 have H' := Aside0.mk H
 clear H
 go_enter Try.func96, Try.ntmps96
 go_wp2_with (first | ((with_reducible refine gate_callee (f := 95) rfl ?_); refine goesL_ (some 14) rfl rfl Try.func95 (by kernel_rfl) rfl #[.int .i64 (l0.length : Int)] rfl arg_ ?_; (with_reducible refine (impl_square.calls k (l0.length : Int) t287 _ A3.out).mono ?_); rintro e w4 ⟨v288, rfl, ho0, hb⟩; refine ⟨_, rfl, ?_⟩; have HO289 := Aside0.mk (Kd.S_lower ho0 (below_size hb_)); replace HB := Aside0.mk (below_step hb_ hb); (try clear hb); (try clear hb2); (try clear hk); (try clear hi); (try clear ho0)))
 go_loopg [17] k (fun kq v17 w' => ∃ (x5_1 : List (List Int)) (x17_1 : Int), v17 = .int .i64 x17_1 ∧ Aside0 (impl_rowsTimes.l0 kq l1 x5_1 l0 (l0.length : Int) x17_1 = some r) ∧ Aside0 (kq ≤ k) ∧ Aside0 (Kd.S (Kd.slice 2 (Kd.int .i64)) 26 w' w.heap.size (fun _ => True) v288 x5_1) ∧ Aside0 (Below w.heap.size w w'))
 case atStart => exact ⟨(t287), (0), es_, H', ⟨Nat.le_refl _⟩, ⟨Kd.S_below HO289.out bgo_⟩, ⟨hb_⟩⟩
 case round =>
  clear H'
  obtain ⟨x5_1, x17_1, rfl, HA, HK1, HO_5, HB⟩ := hrel
  cases gk with
  | zero => exact absurd HA.out (by simp [impl_rowsTimes.l0])
  | succ k1 =>
   have H := HA.out
   clear HA
   simp only [impl_rowsTimes.l0] at H
   by_cases c5 : x17_1 < (l0.length : Int)
   ·rw [if_pos c5] at H
    have c5b0 := decide_eq_true c5
    clear c5
    obtain ⟨c6, H⟩ := itn_ H
    have c6b0 := decide_eq_true c6
    clear c6
    obtain ⟨c7, H⟩ := itn_ H
    have c7b0 := decide_eq_true c7
    clear c7
    have H' := Aside0.mk H
    clear H
    have p290 : 0 ≤ (x17_1 : Int) := od_
    have q290 : x17_1 < (l0.length : Int) := od_
    obtain ⟨ad290, A290_0, c290_0, e290, hx290_0, hl290_0, hi290_0⟩ := at_L1 HR0.out x17_1 p290 q290
    cases e290
    (try replace hx290_0 := (HB.out.cell (World.block_lt_of_cell? w _ hx290_0)).trans hx290_0)
    have HR290_0 := Aside0.mk hi290_0
    have HC290_0 := Aside0.mk hl290_0
    clear hi290_0 hl290_0
    replace p290 := eq_true p290
    replace q290 := eq_true q290
    go_wp2
    go_loopg [24] k1 (fun kq v24 w' => ∃ (x5_2 : List (List Int)) (x24_2 : Int), v24 = .int .i64 x24_2 ∧ Aside0 (impl_rowsTimes.l1 kq l1 x5_2 x17_1 l0 (l0.length : Int) x17_1 (rd_L1 l0 x17_1) ((rd_L1 l0 x17_1).length : Int) x24_2 = some r) ∧ Aside0 (kq ≤ k1) ∧ Aside0 (Kd.S (Kd.slice 2 (Kd.int .i64)) 26 w' w.heap.size (fun _ => True) v288 x5_2) ∧ Aside0 (Below w.heap.size w w'))
    case atStart => exact ⟨(x5_1), (0), es_, H', ⟨Nat.le_refl _⟩, ⟨Kd.S_below HO_5.out bgo_⟩, ⟨hb_⟩⟩
    case round =>
     clear H'
     obtain ⟨x5_2, x24_2, rfl, HA, HK2, HO_5, HB⟩ := hrel
     cases gk with
     | zero => exact absurd HA.out (by simp [impl_rowsTimes.l1])
     | succ k2 =>
      have H := HA.out
      clear HA
      simp only [impl_rowsTimes.l1] at H
      by_cases c8 : x24_2 < ((rd_L1 l0 x17_1).length : Int)
      ·rw [if_pos c8] at H
       have c8b0 := decide_eq_true c8
       clear c8
       obtain ⟨c9, H⟩ := itn_ H
       have c9b0 := decide_eq_true c9
       clear c9
       obtain ⟨c10, H⟩ := itn_ H
       have c10b0 := decide_eq_true c10
       clear c10
       by_cases c11 : (rd (rd_L1 l0 x17_1) x24_2) = 0
       ·rw [if_pos c11] at H
        have c11b0 : ((rd (rd_L1 l0 x17_1) x24_2) == 0) = true := beq_iff_eq.mpr c11
        have c11b1 : ((rd (rd_L1 l0 x17_1) x24_2) != 0) = false := bne_eq_false_iff_eq.mpr c11
        clear c11
        have H' := Aside0.mk H
        clear H
        have p291 : 0 ≤ (x24_2 : Int) := od_
        have q291 : x24_2 < ((rd_L1 l0 x17_1).length : Int) := od_
        obtain ⟨ad291, e291, hx291_0⟩ := Kd.at_int HR290_0.out x24_2 p291 q291
        cases e291
        (try replace hx291_0 := (HB.out.cell (World.block_lt_of_cell? w _ hx291_0)).trans hx291_0)
        replace p291 := eq_true p291
        replace q291 := eq_true q291
        go_wp2
        first | go_roundg k2 | (refine Handed.intro k2 ?measure ?_; rotate_left; go_step; (try simp only [add_plain]); (repeat apply Exists.intro); refine ⟨?rel, rfl⟩)
        case measure => have := HK1.out; have := HK2.out; omega
        case rel => exact ⟨(x5_2), (wrap64 (x24_2 + 1)), es_, H', ⟨by have := HK1.out; have := HK2.out; omega⟩, ⟨Kd.S_below HO_5.out bgo_⟩, ⟨hb_⟩⟩
       ·rw [if_neg c11] at H
        have c11b0 : ((rd (rd_L1 l0 x17_1) x24_2) == 0) = false := beq_eq_false_iff_ne.mpr c11
        have c11b1 : ((rd (rd_L1 l0 x17_1) x24_2) != 0) = true := bne_iff_ne.mpr c11
        obtain ⟨c12, H⟩ := itn_ H
        have c12b0 := decide_eq_true c12
        clear c12
        have H' := Aside0.mk H
        clear H
        have p291 : 0 ≤ (x24_2 : Int) := od_
        have q291 : x24_2 < ((rd_L1 l0 x17_1).length : Int) := od_
        obtain ⟨ad291, e291, hx291_0⟩ := Kd.at_int HR290_0.out x24_2 p291 q291
        cases e291
        (try replace hx291_0 := (HB.out.cell (World.block_lt_of_cell? w _ hx291_0)).trans hx291_0)
        replace p291 := eq_true p291
        replace q291 := eq_true q291
        have p292 : 0 ≤ (x24_2 : Int) := od_
        have q292 : x24_2 < (l1.length : Int) := od_
        obtain ⟨ad292, A292_0, c292_0, e292, hx292_0, hl292_0, hi292_0⟩ := at_L1 HR1.out x24_2 p292 q292
        cases e292
        (try replace hx292_0 := (HB.out.cell (World.block_lt_of_cell? w _ hx292_0)).trans hx292_0)
        have HR292_0 := Aside0.mk hi292_0
        have HC292_0 := Aside0.mk hl292_0
        clear hi292_0 hl292_0
        replace p292 := eq_true p292
        replace q292 := eq_true q292
        go_wp2
        go_loopg [36] k2 (fun kq v36 w' => ∃ (x5_3 : List (List Int)) (x36_3 : Int), v36 = .int .i64 x36_3 ∧ Aside0 (impl_rowsTimes.l2 kq l1 x5_3 x17_1 (rd (rd_L1 l0 x17_1) x24_2) l0 (l0.length : Int) x17_1 (rd_L1 l0 x17_1) ((rd_L1 l0 x17_1).length : Int) x24_2 (rd_L1 l1 x24_2) ((rd_L1 l1 x24_2).length : Int) x36_3 = some r) ∧ Aside0 (kq ≤ k2) ∧ Aside0 (Kd.S (Kd.slice 2 (Kd.int .i64)) 26 w' w.heap.size (fun _ => True) v288 x5_3) ∧ Aside0 (Below w.heap.size w w'))
        case atStart => exact ⟨(x5_2), (0), es_, H', ⟨Nat.le_refl _⟩, ⟨Kd.S_below HO_5.out bgo_⟩, ⟨hb_⟩⟩
        case round =>
         clear H'
         obtain ⟨x5_3, x36_3, rfl, HA, HK3, HO_5, HB⟩ := hrel
         cases gk with
         | zero => exact absurd HA.out (by simp [impl_rowsTimes.l2])
         | succ k3 =>
          have H := HA.out
          clear HA
          simp only [impl_rowsTimes.l2] at H
          by_cases c13 : x36_3 < ((rd_L1 l1 x24_2).length : Int)
          ·rw [if_pos c13] at H
           have c13b0 := decide_eq_true c13
           clear c13
           obtain ⟨c14, H⟩ := itn_ H
           have c14b0 := decide_eq_true c14
           clear c14
           obtain ⟨c15, H⟩ := itn_ H
           have c15b0 := decide_eq_true c15
           clear c15
           obtain ⟨c16, H⟩ := itn_ H
           have c16b0 := decide_eq_true c16
           clear c16
           obtain ⟨c17, H⟩ := itn_ H
           have c17b0 := decide_eq_true c17
           clear c17
           obtain ⟨c18, H⟩ := itn_ H
           have c18b0 := decide_eq_true c18
           clear c18
           obtain ⟨y296, Ny296, H⟩ : ∃ y296 : List Int, Aside0 (y296 = ((rd_L1 x5_3 x17_1).set (x36_3 : Int).toNat (wrap64 ((rd (rd_L1 x5_3 x17_1) x36_3) + (wrap64 ((rd (rd_L1 l0 x17_1) x24_2) * (rd (rd_L1 l1 x24_2) x36_3))))))) ∧ (impl_rowsTimes.l2 k3 l1 (x5_3.set (x17_1 : Int).toNat y296) x17_1 (rd (rd_L1 l0 x17_1) x24_2) l0 (l0.length : Int) x17_1 (rd_L1 l0 x17_1) ((rd_L1 l0 x17_1).length : Int) x24_2 (rd_L1 l1 x24_2) ((rd_L1 l1 x24_2).length : Int) (wrap64 (x36_3 + 1))) = some r := ⟨_, ⟨rfl⟩, H⟩
           obtain ⟨y298, Ny298, H⟩ : ∃ y298 : List (List Int), Aside0 (y298 = (x5_3.set (x17_1 : Int).toNat y296)) ∧ (impl_rowsTimes.l2 k3 l1 y298 x17_1 (rd (rd_L1 l0 x17_1) x24_2) l0 (l0.length : Int) x17_1 (rd_L1 l0 x17_1) ((rd_L1 l0 x17_1).length : Int) x24_2 (rd_L1 l1 x24_2) ((rd_L1 l1 x24_2).length : Int) (wrap64 (x36_3 + 1))) = some r := ⟨_, ⟨rfl⟩, H⟩
           have H' := Aside0.mk H
           clear H
           have p293 : 0 ≤ (x36_3 : Int) := od_
           have q293 : x36_3 < ((rd_L1 l1 x24_2).length : Int) := od_
           obtain ⟨ad293, e293, hx293_0⟩ := Kd.at_int HR292_0.out x36_3 p293 q293
           cases e293
           (try replace hx293_0 := (HB.out.cell (World.block_lt_of_cell? w _ hx293_0)).trans hx293_0)
           replace p293 := eq_true p293
           replace q293 := eq_true q293
           obtain ⟨Ao20, co20, eo20⟩ := Kd.S_slice HO_5.out
           subst eo20
           have p294 : 0 ≤ (x17_1 : Int) := od_
           have q294 : x17_1 < (x5_3.length : Int) := od_
           obtain ⟨ad294, A294_0, c294_0, e294, hx294_0, hl294_0, hi294_0⟩ := at_L1 (Kd.S_reads' HO_5.out).2.2 x17_1 p294 q294
           cases e294
           obtain ⟨ce294, hce294, hMe294, hcc294⟩ := Kd.S_get HO_5.out [] x17_1 p294 (by first | exact q294 | exact od_ | (have e_ := (Kd.S_reads' HO_5.out).1; omega))
           obtain ⟨ve294_0, rfl, ge294_0⟩ := hMe294
           have hv294_0 := hcc294 0 _ rfl
           rw [Nat.add_zero, show ((Kd.slice 2 (Kd.int .i64))).sz = 1 from rfl, Nat.mul_one] at hv294_0
           replace hv294_0 := Option.some.inj (hv294_0.symm.trans hx294_0)
           rw [hv294_0] at ge294_0
           have HL294_0 := Aside0.mk (show Kd.R (Kd.int .i64) 2 _ _ _ _ (rd_L1 x5_3 x17_1) from ge294_0)
           clear hv294_0 ge294_0
           have HX294_0 := Aside0.mk hx294_0
           clear hcc294 hce294
           have HR294_0 := Aside0.mk hi294_0
           have HC294_0 := Aside0.mk hl294_0
           clear hi294_0 hl294_0
           replace p294 := eq_true p294
           replace q294 := eq_true q294
           have p295 : 0 ≤ (x36_3 : Int) := od_
           have q295 : x36_3 < ((rd_L1 x5_3 x17_1).length : Int) := od_
           obtain ⟨ad295, e295, hx295_0⟩ := Kd.at_int (by repeat (first | (with_reducible exact HR294_0.out) | (with_reducible refine Kd.C_alloc ?_ _) | (with_reducible refine Kd.C_drewN ?_ _) | (with_reducible refine Kd.C_drew ?_) | exact HR294_0.out)) x36_3 p295 q295
           cases e295
           replace p295 := eq_true p295
           replace q295 := eq_true q295
           have p19 : 0 ≤ (x36_3 : Int) := od_
           have q19 : (x36_3 : Int) < (((rd_L1 x5_3 x17_1).length : Int) : Int) := od_
           obtain ⟨go19, co19, eo19, gb19, gl19, cl19, HG19⟩ := Kd.R_form HL294_0.out (by omega)
           (first | cases eo19 | (injection eo19 with ea_ en_ ec_; (first | subst ea_ | (injection ea_ with ea_; subst ea_)); subst ec_; clear en_))
           have GB19 := Aside0.mk gb19
           have GG19 := Aside0.mk HG19
           clear gb19 gl19 HG19
           (first | simp only [add_plain] at hx295_0 | skip)
           obtain ⟨hx19_0, hf19_0⟩ := Kd.R_celln 0 HL294_0.out (x36_3 : Int) p19 q19
           replace p19 := eq_true p19
           replace q19 := eq_true q19
           have hq21 : (x17_1 : Int) < (x5_3.length : Int) := (by have h_ : (x17_1 : Int) < ((x5_3.length : Int) : Int) := od_; first | exact h_ | (have e_ := (Kd.S_reads' HO_5.out).1; omega) | simpa only [List.length_set, List.length_set] using h_)
           obtain ⟨oki21, ce21, hcl21, hM21, hcc21, hok21, hbk21⟩ := Kd.S_borrow HO_5.out [] (x17_1 : Int) (od_) (by first | exact hq21 | (have e_ := (Kd.S_reads' HO_5.out).1; have h_ := hq21; omega))
           obtain ⟨ve21_0, rfl, ge21_0⟩ := hM21
           have hv21 := hcc21 0 _ rfl
           rw [Nat.add_zero, show ((Kd.slice 2 (Kd.int .i64))).sz = 1 from rfl, Nat.mul_one] at hv21
           replace hv21 := Option.some.inj (hv21.symm.trans HX294_0.out)
           subst hv21
           clear hcc21 hcl21
           replace ge21_0 := (show Kd.R (Kd.int .i64) 2 _ _ _ _ (rd_L1 x5_3 x17_1) from ge21_0)
           have HP21 := Kd.R_putg ge21_0 (x36_3 : Int) (wrap64 ((rd (rd_L1 x5_3 x17_1) x36_3) + (wrap64 ((rd (rd_L1 l0 x17_1) x24_2) * (rd (rd_L1 l1 x24_2) x36_3)))))
           go_wp2_with (first | ((with_reducible refine gate_store (t := 2) (p := 52) rfl ?_); refine store_event (t := 2) (p := 52) (v := ?vo_w22) (w1 := (wr.setCell ⟨go19, (x36_3 : Int).toNat, none⟩ (.int .i64 (wrap64 ((rd (rd_L1 x5_3 x17_1) x36_3) + (wrap64 ((rd (rd_L1 l0 x17_1) x24_2) * (rd (rd_L1 l1 x24_2) x36_3)))))))) ?hg ?ho ?hn ?hr ?_; (case ho => rfl); (case hg => rfl); (case hn => rfl); (case hr => first | (go_simp; done) | (go_simp; rfl)); intro w22 hw; have hg : wr.grownBy w22 (some go19) := (by rw [hw]; exact HP21.2); have hz_ : Kd.R (Kd.int .i64) 2 w22 w.heap.size oki21 (.slice (some ⟨go19, 0, none⟩) (rd_L1 x5_3 x17_1).length c294_0) y296 := (by rw [hw, Ny296.out]; exact HP21.1); have hp_ : Kd.S (Kd.slice 2 (Kd.int .i64)) 26 w22 w.heap.size (fun _ => True) (.slice (some ad294) x5_3.length co20) y298 := (by rw [Ny298.out]; exact hbk21 hg (fun k_ e_ => by injection e_ with e_; subst e_; exact ge21_0.1 _ rfl) (Kd.M_row hz_)); have hm_ := Kd.R_mono hz_ hok21; clear HP21 hbk21; replace HO_5 := Aside0.mk (hp_); replace HB := Aside0.mk ((by rw [hw]; exact below_set (HB.out) GB19.out : Below w.heap.size w w22)); have HL299 := Aside0.mk (hm_); have HC297 := Aside0.mk ((Kd.R_reads' hm_).2.1); clear HL294_0; clear hg hw hp_ hz_ hm_ hok21))
           first | go_roundg k3 | (refine Handed.intro k3 ?measure ?_; rotate_left; go_step; (try simp only [add_plain]); (repeat apply Exists.intro); refine ⟨?rel, rfl⟩)
           case measure => have := HK1.out; have := HK2.out; have := HK3.out; omega
           case rel => exact ⟨(y298), (wrap64 (x36_3 + 1)), es_, H', ⟨by have := HK1.out; have := HK2.out; have := HK3.out; omega⟩, ⟨Kd.S_below HO_5.out bgo_⟩, ⟨hb_⟩⟩
          ·rw [if_neg c13] at H
           have c13b0 := decide_eq_false c13
           clear c13
           have H' := Aside0.mk H
           clear H
           go_wp2
           first | go_roundg k3 | (refine Handed.intro k3 ?measure ?_; rotate_left; go_step; (try simp only [add_plain]); (repeat apply Exists.intro); refine ⟨?rel, rfl⟩)
           case measure => have := HK1.out; have := HK2.out; have := HK3.out; omega
           case rel => exact ⟨(x5_3), (wrap64 (x24_2 + 1)), es_, H', ⟨by have := HK1.out; have := HK2.out; have := HK3.out; omega⟩, ⟨Kd.S_below HO_5.out bgo_⟩, ⟨hb_⟩⟩
      ·rw [if_neg c8] at H
       have c8b0 := decide_eq_false c8
       clear c8
       have H' := Aside0.mk H
       clear H
       go_wp2
       first | go_roundg k2 | (refine Handed.intro k2 ?measure ?_; rotate_left; go_step; (try simp only [add_plain]); (repeat apply Exists.intro); refine ⟨?rel, rfl⟩)
       case measure => have := HK1.out; have := HK2.out; omega
       case rel => exact ⟨(x5_2), (wrap64 (x17_1 + 1)), es_, H', ⟨by have := HK1.out; have := HK2.out; omega⟩, ⟨Kd.S_below HO_5.out bgo_⟩, ⟨hb_⟩⟩
   ·rw [if_neg c5] at H
    have c5b0 := decide_eq_false c5
    clear c5
    obtain rfl := Option.some.inj H
    go_wp2
    go_ret
    exact ⟨_, er_, (Kd.S_below HO_5.out bgo_), hb_⟩

/-! ### impl_Graph_ends: function 71 -/
def impl_Graph_ends.f (a0_0 : Int) (l0_1 : List (List Int)) (a1 : Int) : Option (Int × Int) := if 0 ≤ (wrap64 (Int.tdiv a1 2)) then (if (wrap64 (Int.tdiv a1 2)) < (l0_1.length : Int) then (if 0 ≤ (Int.tmod a1 2) then (if (Int.tmod a1 2) < ((rd_L1 l0_1 (wrap64 (Int.tdiv a1 2))).length : Int) then (if 0 ≤ (wrap64 (1 - (Int.tmod a1 2))) then (if (wrap64 (1 - (Int.tmod a1 2))) < ((rd_L1 l0_1 (wrap64 (Int.tdiv a1 2))).length : Int) then (some (rd (rd_L1 l0_1 (wrap64 (Int.tdiv a1 2))) (Int.tmod a1 2), rd (rd_L1 l0_1 (wrap64 (Int.tdiv a1 2))) (wrap64 (1 - (Int.tmod a1 2))))) else (none)) else (none)) else (none)) else (none)) else (none)) else (none)
set_option maxHeartbeats 8000000 in
set_option maxRecDepth 100000 in
theorem impl_Graph_ends.calls (a0_0 : Int) (A0_1 : Option Addr) (c0_1 : Nat) (l0_1 : List (List Int)) (a1 : Int) (r1 : Int) (r2 : Int) (w : World) (hr0_1 : Kd.C (Kd.slice 2 (Kd.int .i64)) w A0_1 l0_1.length l0_1) (hc0_1 : l0_1.length ≤ c0_1) (h : impl_Graph_ends.f a0_0 l0_1 a1 = some (r1, r2)) :
  Calls Try.prog 71 #[.agg #[.int .i64 a0_0, .slice A0_1 l0_1.length c0_1], .int .i64 a1] w fun e w' => e = .returned (.tuple #[.int .i64 r1, .int .i64 r2]) ∧ Below w.heap.size w w' := by
 have hu29 := Try.underlying29
 have HR0_1 := Aside0.mk hr0_1
 have HC0_1 := Aside0.mk hc0_1
 clear hr0_1 hc0_1
 have HB := Aside0.mk (Below.refl w.heap.size w)
 have H : (if 0 ≤ (wrap64 (Int.tdiv a1 2)) then (if (wrap64 (Int.tdiv a1 2)) < (l0_1.length : Int) then (if 0 ≤ (Int.tmod a1 2) then (if (Int.tmod a1 2) < ((rd_L1 l0_1 (wrap64 (Int.tdiv a1 2))).length : Int) then (if 0 ≤ (wrap64 (1 - (Int.tmod a1 2))) then (if (wrap64 (1 - (Int.tmod a1 2))) < ((rd_L1 l0_1 (wrap64 (Int.tdiv a1 2))).length : Int) then (some (rd (rd_L1 l0_1 (wrap64 (Int.tdiv a1 2))) (Int.tmod a1 2), rd (rd_L1 l0_1 (wrap64 (Int.tdiv a1 2))) (wrap64 (1 - (Int.tmod a1 2))))) else (none)) else (none)) else (none)) else (none)) else (none)) else (none)) = some (r1, r2) := h
 clear h
 obtain ⟨ji3, hji3⟩ : ∃ j_ : Int, (wrap64 (Int.tdiv a1 2)) = j_ := ⟨_, rfl⟩
 (try rw [hji3])
 replace H : (if 0 ≤ (ji3) then (if (ji3) < (l0_1.length : Int) then (if 0 ≤ (Int.tmod a1 2) then (if (Int.tmod a1 2) < ((rd_L1 l0_1 (ji3)).length : Int) then (if 0 ≤ (wrap64 (1 - (Int.tmod a1 2))) then (if (wrap64 (1 - (Int.tmod a1 2))) < ((rd_L1 l0_1 (ji3)).length : Int) then (some (rd (rd_L1 l0_1 (ji3)) (Int.tmod a1 2), rd (rd_L1 l0_1 (ji3)) (wrap64 (1 - (Int.tmod a1 2))))) else (none)) else (none)) else (none)) else (none)) else (none)) else (none)) = some (r1, r2) := by first | (rw [hji3] at H; exact H) | (simp only [hji3] at H ⊢; exact H)
 have hji3w : (IntKind.i64.wrap (Int.tdiv a1 2)) = ji3 := (i64_w _).trans hji3
 by_cases c4 : 0 ≤ (ji3)
 ·rw [if_pos c4] at H
  have c4b0 := decide_eq_true c4
  clear c4
  obtain ⟨c5, H⟩ := itn_ H
  have c5b0 := decide_eq_true c5
  clear c5
  obtain ⟨ji6, hji6⟩ : ∃ j_ : Int, (Int.tmod a1 2) = j_ := ⟨_, rfl⟩
  (try rw [hji6])
  replace H : (if 0 ≤ (ji6) then (if (ji6) < ((rd_L1 l0_1 (ji3)).length : Int) then (if 0 ≤ (wrap64 (1 - (ji6))) then (if (wrap64 (1 - (ji6))) < ((rd_L1 l0_1 (ji3)).length : Int) then (some (rd (rd_L1 l0_1 (ji3)) (ji6), rd (rd_L1 l0_1 (ji3)) (wrap64 (1 - (ji6))))) else (none)) else (none)) else (none)) else (none)) = some (r1, r2) := by first | (rw [hji6] at H; exact H) | (simp only [hji6] at H ⊢; exact H)
  obtain ⟨c7, H⟩ := itn_ H
  have c7b0 := decide_eq_true c7
  clear c7
  obtain ⟨c8, H⟩ := itn_ H
  have c8b0 := decide_eq_true c8
  clear c8
  obtain ⟨ji9, hji9⟩ : ∃ j_ : Int, (wrap64 (1 - (ji6))) = j_ := ⟨_, rfl⟩
  (try rw [hji9])
  replace H : (if 0 ≤ (ji9) then (if (ji9) < ((rd_L1 l0_1 (ji3)).length : Int) then (some (rd (rd_L1 l0_1 (ji3)) (ji6), rd (rd_L1 l0_1 (ji3)) (ji9))) else (none)) else (none)) = some (r1, r2) := by first | (rw [hji9] at H; exact H) | (simp only [hji9] at H ⊢; exact H)
  have hji9w : (IntKind.i64.wrap (1 - (ji6))) = ji9 := (i64_w _).trans hji9
  obtain ⟨c10, H⟩ := itn_ H
  have c10b0 := decide_eq_true c10
  clear c10
  obtain ⟨c11, H⟩ := itn_ H
  have c11b0 := decide_eq_true c11
  clear c11
  simp only [Option.some.injEq, Prod.mk.injEq] at H
  obtain ⟨rfl, rfl⟩ := H
  go_enter Try.func71, Try.ntmps71
  go_wp2_with (first | ((with_reducible refine gate_dst (N := 2) rfl ?_); refine box_event ?hg (N := 2) ?hd (cs := #[.int .i64 a0_0, .slice A0_1 l0_1.length c0_1]) (t := 29) ?hr ?_; (case hd => rfl); (case hg => rfl); (case hr => first | (go_simp; done) | (go_simp; rfl)); intro gb300 hg w12 hbox hb; have BK300 := Aside0.mk (hbox); have GW300 := Aside0.mk ((by rw [hg]; exact (below_size hb_) : w.heap.size ≤ gb300)); have GE300 := Aside0.mk ((by rw [hg]; exact (below_size hb_) : w.heap.size ≤ gb300)); replace HB := Aside0.mk (below_step hb_ hb); clear hb hbox hg; have hcz13_0 : w12.cell? ⟨gb300, 0, none⟩ = some (.int .i64 a0_0) := (blk_cell BK300.out 0).trans rfl; have hcz13_1 : w12.cell? ⟨gb300, 1, none⟩ = some (.slice A0_1 l0_1.length c0_1) := (blk_cell BK300.out 1).trans rfl; have hfz13_0 := blk_frozen BK300.out 0; have hfz13_1 := blk_frozen BK300.out 1; have p301 : 0 ≤ ((ji3) : Int) := od_; have q301 : (ji3) < (l0_1.length : Int) := od_; obtain ⟨ad301, A301_0, c301_0, e301, hx301_0, hl301_0, hi301_0⟩ := at_L1 HR0_1.out (ji3) p301 q301; cases e301; replace hx301_0 := (HB.out.cell (World.block_lt_of_cell? w _ hx301_0)).trans hx301_0; have HR301_0 := Aside0.mk hi301_0; have HC301_0 := Aside0.mk hl301_0; clear hi301_0 hl301_0; replace p301 := eq_true p301; replace q301 := eq_true q301; have p302 : 0 ≤ ((ji6) : Int) := od_; have q302 : (ji6) < ((rd_L1 l0_1 (ji3)).length : Int) := od_; obtain ⟨ad302, e302, hx302_0⟩ := Kd.at_int HR301_0.out (ji6) p302 q302; cases e302; replace hx302_0 := (HB.out.cell (World.block_lt_of_cell? w _ hx302_0)).trans hx302_0; replace p302 := eq_true p302; replace q302 := eq_true q302; have p303 : 0 ≤ ((ji9) : Int) := od_; have q303 : (ji9) < ((rd_L1 l0_1 (ji3)).length : Int) := od_; obtain ⟨ad303, e303, hx303_0⟩ := Kd.at_int HR301_0.out (ji9) p303 q303; obtain rfl : ad302 = ad303 := (by injection e303); replace hx303_0 := (HB.out.cell (World.block_lt_of_cell? w _ hx303_0)).trans hx303_0; replace p303 := eq_true p303; replace q303 := eq_true q303))
  repeat (go_quiet (fail); try go_wp2)
  go_ret2
  exact ⟨by first | rfl | (simp [errW_none, errW_some] <;> rfl) | (simp only [← hji3, ← hji6, ← hji9]; first | rfl | (simp [errW_none, errW_some] <;> rfl)) | (simp [*, errW_none, errW_some] <;> rfl), hbs_⟩
 ·rw [if_neg c4] at H
  exact absurd H (by simp)

/-! ### impl_Graph_size: function 104 -/
def impl_Graph_size.f (a0_0 : Int) (l0_1 : List (List Int)) : Option (Int) := some (l0_1.length : Int)
set_option maxHeartbeats 8000000 in
set_option maxRecDepth 100000 in
theorem impl_Graph_size.calls (a0_0 : Int) (A0_1 : Option Addr) (c0_1 : Nat) (l0_1 : List (List Int)) (r : Int) (w : World) (hr0_1 : Kd.C (Kd.slice 2 (Kd.int .i64)) w A0_1 l0_1.length l0_1) (hc0_1 : l0_1.length ≤ c0_1) (h : impl_Graph_size.f a0_0 l0_1 = some r) :
  Calls Try.prog 104 #[.agg #[.int .i64 a0_0, .slice A0_1 l0_1.length c0_1]] w fun e w' => e = .returned (.int .i64 r) ∧ Below w.heap.size w w' := by
 have hu29 := Try.underlying29
 have HR0_1 := Aside0.mk hr0_1
 have HC0_1 := Aside0.mk hc0_1
 clear hr0_1 hc0_1
 have HB := Aside0.mk (Below.refl w.heap.size w)
 have H : (some (l0_1.length : Int)) = some r := h
 clear h
 obtain rfl := Option.some.inj H
 go_enter Try.func104, Try.ntmps104
 go_wp2_with (first | ((with_reducible refine gate_dst (N := 1) rfl ?_); refine box_event ?hg (N := 1) ?hd (cs := #[.int .i64 a0_0, .slice A0_1 l0_1.length c0_1]) (t := 29) ?hr ?_; (case hd => rfl); (case hg => rfl); (case hr => first | (go_simp; done) | (go_simp; rfl)); intro gb304 hg w2 hbox hb; have BK304 := Aside0.mk (hbox); have GW304 := Aside0.mk ((by rw [hg]; exact (below_size hb_) : w.heap.size ≤ gb304)); have GE304 := Aside0.mk ((by rw [hg]; exact (below_size hb_) : w.heap.size ≤ gb304)); replace HB := Aside0.mk (below_step hb_ hb); clear hb hbox hg; have hcz3_0 : w2.cell? ⟨gb304, 0, none⟩ = some (.int .i64 a0_0) := (blk_cell BK304.out 0).trans rfl; have hcz3_1 : w2.cell? ⟨gb304, 1, none⟩ = some (.slice A0_1 l0_1.length c0_1) := (blk_cell BK304.out 1).trans rfl; have hfz3_0 := blk_frozen BK304.out 0; have hfz3_1 := blk_frozen BK304.out 1))
 go_ret
 exact ⟨er_, hbs_⟩

end Go.Proofs.Ytipigagbgpoecaa.G
