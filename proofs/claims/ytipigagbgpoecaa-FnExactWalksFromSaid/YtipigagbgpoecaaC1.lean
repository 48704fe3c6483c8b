/- The printed functions that this law reaches, and their contracts: part 1. -/
-- printed by this repo's wip/printer out of the kit's print with its own changes
import Derived.Test.YtipigagbgpoecaaC0
namespace Go.Proofs.Ytipigagbgpoecaa.G
open Go.RowKit Go.Proofs.YtipigagbgpoecaaW.PrintWords Go.Proofs.YtipigagbgpoecaaW.PrintLast Go.Proofs.YtipigagbgpoecaaW.PrintMore
attribute [local go_sem] max2_int min2_int max_two min_two max_three min_three max_four min_four   -- for this text's walks alone
set_option linter.unusedVariables false
set_option linter.unusedSimpArgs false

/-! ### spec_l03Longer: function 103 -/
mutual
def spec_l03Longer.l0 : Nat → List (List Int) → List (List Int) → Int → Int → List (List Int) → Option ((List (List Int)))
 | 0, _, _, _, _, _ => none
 | k + 1, x1, x5, x6, x182000, x182001 => if x6 < (x1.length : Int) then (if 0 ≤ x6 then (if 0 ≤ (wrap64 (((rd_L1 x1 x6).length : Int) - 1)) then (if (wrap64 (((rd_L1 x1 x6).length : Int) - 1)) < ((rd_L1 x1 x6).length : Int) then (spec_l03Longer.l1 k x1 x5 x6 (rd (rd_L1 x1 x6) (wrap64 (((rd_L1 x1 x6).length : Int) - 1))) 0 x182000 x182001) else (none)) else (none)) else (none)) else (some x5)
def spec_l03Longer.l1 : Nat → List (List Int) → List (List Int) → Int → Int → Int → Int → List (List Int) → Option ((List (List Int)))
 | 0, _, _, _, _, _, _, _ => none
 | k + 1, x1, x5, x6, x7, x8, x182000, x182001 => if x8 < (wrap64 (2 * (x182001.length : Int))) then ((spec_l03Next.f x182000 x182001 x7 x8).bind fun t188 => (if t188 = true then (if 0 ≤ x6 then (if x6 < (x1.length : Int) then ((spec_l01Own.f (rd_L1 x1 x6)).bind fun t190 => (if t190.length < 17592186044416 then (if x5.length < 5864062014805 then (spec_l03Longer.l1 k x1 (x5 ++ [(t190 ++ [x8])]) x6 x7 (wrap64 (x8 + 1)) x182000 x182001) else (none)) else (none))) else (none)) else (none)) else (spec_l03Longer.l1 k x1 x5 x6 x7 (wrap64 (x8 + 1)) x182000 x182001))) else (spec_l03Longer.l0 k x1 x5 (wrap64 (x6 + 1)) x182000 x182001)
end
def spec_l03Longer.f (k : Nat) (a0_0 : Int) (l0_1 : List (List Int)) (l1 : List (List Int)) : Option ((List (List Int))) := spec_l03Longer.l0 k l1 (([] : List (List Int))) 0 a0_0 l0_1
set_option maxHeartbeats 8000000 in
set_option maxRecDepth 100000 in
theorem spec_l03Longer.calls (k : Nat) (a0_0 : Int) (A0_1 : Option Addr) (c0_1 : Nat) (l0_1 : List (List Int)) (A1 : Option Addr) (c1 : Nat) (l1 : List (List Int)) (r : List (List Int)) (w : World) (hr0_1 : Kd.C (Kd.slice 2 (Kd.int .i64)) w A0_1 l0_1.length l0_1) (hc0_1 : l0_1.length ≤ c0_1) (hr1 : Kd.C (Kd.slice 2 (Kd.int .i64)) w A1 l1.length l1) (hc1 : l1.length ≤ c1) (h : spec_l03Longer.f k a0_0 l0_1 l1 = some r) :
  Calls Try.prog 103 #[.agg #[.int .i64 a0_0, .slice A0_1 l0_1.length c0_1], .slice A1 l1.length c1] w fun e w' => ∃ v0_ : Value, e = .returned (v0_) ∧ Kd.S (Kd.slice 2 (Kd.int .i64)) 26 w' w.heap.size (fun _ => True) v0_ r ∧ Below w.heap.size w w' := by
 have hu29 := Try.underlying29
 have HR0_1 := Aside0.mk hr0_1
 have HC0_1 := Aside0.mk hc0_1
 clear hr0_1 hc0_1
 have HR1 := Aside0.mk hr1
 have HC1 := Aside0.mk hc1
 clear hr1 hc1
 have HB := Aside0.mk (Below.refl w.heap.size w)
 have H : (spec_l03Longer.l0 k l1 (([] : List (List Int))) 0 a0_0 l0_1) = some r := h
 clear h
 obtain ⟨y182, Ny182, H⟩ : ∃ y182 : List (List Int), Aside0 (y182 = (([] : List (List Int)))) ∧ (spec_l03Longer.l0 k l1 y182 0 a0_0 l0_1) = some r := ⟨_, ⟨rfl⟩, H⟩
 have H' := Aside0.mk H
 clear H
 go_enter Try.func103, Try.ntmps103
 go_wp2_with (first | ((with_reducible refine gate_dst (N := 2) rfl ?_); refine box_event ?hg (N := 2) ?hd (cs := #[.int .i64 a0_0, .slice A0_1 l0_1.length c0_1]) (t := 29) ?hr ?_; (case hd => rfl); (case hg => rfl); (case hr => first | (go_simp; done) | (go_simp; rfl)); intro gb181 hg w3 hbox hb; have BK181 := Aside0.mk (hbox); have GW181 := Aside0.mk ((by rw [hg]; exact (below_size hb_) : w.heap.size ≤ gb181)); have GE181 := Aside0.mk ((by rw [hg]; exact (below_size hb_) : w.heap.size ≤ gb181)); replace HB := Aside0.mk (below_step hb_ hb); clear hb hbox hg) | ((with_reducible refine gate_dst (N := 9) rfl ?_); refine Kd.S_lit (Kd.slice 2 (Kd.int .i64)) _ 26 ?hg (N := 9) ?hd (xs := ([] : List (List Int))) (inner := []) (ok := fun _ => True) (okp := fun _ => True) ?hr ?hp (fun _ hk => hk) trivial (Below.refl _ _) (Nat.le_refl _) (by simp) ?_; (case hd => rfl); (case hg => rfl); (case hr => first | (go_simp; done) | (go_simp; rfl)); (case hp => exact (Reps.none _ _)); intro v183 w4 ho5 hb hg_ hnew_; clear hg_ hnew_; (first | rw [← Ny182.out] at ho5 | (simp only [Int.reduceToNat] at ho5; rw [← Ny182.out] at ho5)); have HO184 := Aside0.mk (Kd.S_lower ho5 (below_size hbs_)); replace BK181 := Aside0.mk (blk_below (g := gb181) (o := .cells #[.int .i64 a0_0, .slice A0_1 l0_1.length c0_1] 29 (0, 0)) (blk_below BK181.out bgo_) hb); replace HB := Aside0.mk (below_step hbs_ hb); clear hb ho5))
 repeat (go_quiet (first | ((with_reducible refine gate_dst (N := 2) rfl ?_); refine box_event ?hg (N := 2) ?hd (cs := #[.int .i64 a0_0, .slice A0_1 l0_1.length c0_1]) (t := 29) ?hr ?_; (case hd => rfl); (case hg => rfl); (case hr => first | (go_simp; done) | (go_simp; rfl)); intro gb181 hg w3 hbox hb; have BK181 := Aside0.mk (hbox); have GW181 := Aside0.mk ((by rw [hg]; exact (below_size hb_) : w.heap.size ≤ gb181)); have GE181 := Aside0.mk ((by rw [hg]; exact (below_size hb_) : w.heap.size ≤ gb181)); replace HB := Aside0.mk (below_step hb_ hb); clear hb hbox hg) | ((with_reducible refine gate_dst (N := 9) rfl ?_); refine Kd.S_lit (Kd.slice 2 (Kd.int .i64)) _ 26 ?hg (N := 9) ?hd (xs := ([] : List (List Int))) (inner := []) (ok := fun _ => True) (okp := fun _ => True) ?hr ?hp (fun _ hk => hk) trivial (Below.refl _ _) (Nat.le_refl _) (by simp) ?_; (case hd => rfl); (case hg => rfl); (case hr => first | (go_simp; done) | (go_simp; rfl)); (case hp => exact (Reps.none _ _)); intro v183 w4 ho5 hb hg_ hnew_; clear hg_ hnew_; (first | rw [← Ny182.out] at ho5 | (simp only [Int.reduceToNat] at ho5; rw [← Ny182.out] at ho5)); have HO184 := Aside0.mk (Kd.S_lower ho5 (below_size hbs_)); replace BK181 := Aside0.mk (blk_below (g := gb181) (o := .cells #[.int .i64 a0_0, .slice A0_1 l0_1.length c0_1] 29 (0, 0)) (blk_below BK181.out bgo_) hb); replace HB := Aside0.mk (below_step hbs_ hb); clear hb ho5)); try go_wp2_with (first | ((with_reducible refine gate_dst (N := 2) rfl ?_); refine box_event ?hg (N := 2) ?hd (cs := #[.int .i64 a0_0, .slice A0_1 l0_1.length c0_1]) (t := 29) ?hr ?_; (case hd => rfl); (case hg => rfl); (case hr => first | (go_simp; done) | (go_simp; rfl)); intro gb181 hg w3 hbox hb; have BK181 := Aside0.mk (hbox); have GW181 := Aside0.mk ((by rw [hg]; exact (below_size hb_) : w.heap.size ≤ gb181)); have GE181 := Aside0.mk ((by rw [hg]; exact (below_size hb_) : w.heap.size ≤ gb181)); replace HB := Aside0.mk (below_step hb_ hb); clear hb hbox hg) | ((with_reducible refine gate_dst (N := 9) rfl ?_); refine Kd.S_lit (Kd.slice 2 (Kd.int .i64)) _ 26 ?hg (N := 9) ?hd (xs := ([] : List (List Int))) (inner := []) (ok := fun _ => True) (okp := fun _ => True) ?hr ?hp (fun _ hk => hk) trivial (Below.refl _ _) (Nat.le_refl _) (by simp) ?_; (case hd => rfl); (case hg => rfl); (case hr => first | (go_simp; done) | (go_simp; rfl)); (case hp => exact (Reps.none _ _)); intro v183 w4 ho5 hb hg_ hnew_; clear hg_ hnew_; (first | rw [← Ny182.out] at ho5 | (simp only [Int.reduceToNat] at ho5; rw [← Ny182.out] at ho5)); have HO184 := Aside0.mk (Kd.S_lower ho5 (below_size hbs_)); replace BK181 := Aside0.mk (blk_below (g := gb181) (o := .cells #[.int .i64 a0_0, .slice A0_1 l0_1.length c0_1] 29 (0, 0)) (blk_below BK181.out bgo_) hb); replace HB := Aside0.mk (below_step hbs_ hb); clear hb ho5)))
 go_loopg [5, 6] k (fun kq v5 v6 w' => ∃ (x5_1 : List (List Int)) (x6_1 : Int), v6 = .int .i64 x6_1 ∧ Aside0 (spec_l03Longer.l0 kq l1 x5_1 x6_1 a0_0 l0_1 = some r) ∧ Aside0 (kq ≤ k) ∧ Aside0 (Kd.S (Kd.slice 2 (Kd.int .i64)) 26 w' w.heap.size (fun _ => True) v5 x5_1) ∧ Aside0 (w'.heap[gb181]? = some (.cells #[.int .i64 a0_0, (.slice A0_1 l0_1.length c0_1)] 29 (0, 0))) ∧ Aside0 (Below w.heap.size w w'))
 case atStart => exact ⟨(y182), (0), es_, H', ⟨Nat.le_refl _⟩, ⟨Kd.S_below HO184.out bgo_⟩, ⟨blk_below BK181.out bgo_⟩, ⟨hbs_⟩⟩
 case round =>
  clear H'
  obtain ⟨x5_1, x6_1, rfl, HA, HK1, HO_5, BK181, HB⟩ := hrel
  cases gk with
  | zero => exact absurd HA.out (by simp [spec_l03Longer.l0])
  | succ k1 =>
   have H := HA.out
   clear HA
   simp only [spec_l03Longer.l0] at H
   by_cases c6 : x6_1 < (l1.length : Int)
   ·rw [if_pos c6] at H
    have c6b0 := decide_eq_true c6
    clear c6
    obtain ⟨c7, H⟩ := itn_ H
    have c7b0 := decide_eq_true c7
    clear c7
    obtain ⟨ji8, hji8⟩ : ∃ j_ : Int, (wrap64 (((rd_L1 l1 x6_1).length : Int) - 1)) = j_ := ⟨_, rfl⟩
    (try rw [hji8])
    replace H : (if 0 ≤ (ji8) then (if (ji8) < ((rd_L1 l1 x6_1).length : Int) then (spec_l03Longer.l1 k1 l1 x5_1 x6_1 (rd (rd_L1 l1 x6_1) (ji8)) 0 a0_0 l0_1) else (none)) else (none)) = some r := by first | (rw [hji8] at H; exact H) | (simp only [hji8] at H ⊢; exact H)
    have hji8w : (IntKind.i64.wrap (((rd_L1 l1 x6_1).length : Int) - 1)) = ji8 := (i64_w _).trans hji8
    obtain ⟨c9, H⟩ := itn_ H
    have c9b0 := decide_eq_true c9
    clear c9
    obtain ⟨c10, H⟩ := itn_ H
    have c10b0 := decide_eq_true c10
    clear c10
    have H' := Aside0.mk H
    clear H
    have p185 : 0 ≤ (x6_1 : Int) := od_
    have q185 : x6_1 < (l1.length : Int) := od_
    obtain ⟨ad185, A185_0, c185_0, e185, hx185_0, hl185_0, hi185_0⟩ := at_L1 HR1.out x6_1 p185 q185
    cases e185
    (try replace hx185_0 := (HB.out.cell (World.block_lt_of_cell? w _ hx185_0)).trans hx185_0)
    have HR185_0 := Aside0.mk hi185_0
    have HC185_0 := Aside0.mk hl185_0
    clear hi185_0 hl185_0
    replace p185 := eq_true p185
    replace q185 := eq_true q185
    have p186 : 0 ≤ (x6_1 : Int) := od_
    have q186 : x6_1 < (l1.length : Int) := od_
    obtain ⟨ad186, A186_0, c186_0, e186, hx186_0, hl186_0, hi186_0⟩ := at_L1 HR1.out x6_1 p186 q186
    obtain rfl : ad185 = ad186 := (by injection e186)
    (try replace hx186_0 := (HB.out.cell (World.block_lt_of_cell? w _ hx186_0)).trans hx186_0)
    have HR186_0 := Aside0.mk hi186_0
    have HC186_0 := Aside0.mk hl186_0
    clear hi186_0 hl186_0
    replace p186 := eq_true p186
    replace q186 := eq_true q186
    have ea_ := Option.some.inj (hx185_0.symm.trans hx186_0)
    injection ea_ with ea_ en_ ec_
    subst ea_
    subst ec_
    clear en_
    have p187 : 0 ≤ ((ji8) : Int) := od_
    have q187 : (ji8) < ((rd_L1 l1 x6_1).length : Int) := od_
    obtain ⟨ad187, e187, hx187_0⟩ := Kd.at_int HR185_0.out (ji8) p187 q187
    cases e187
    (try replace hx187_0 := (HB.out.cell (World.block_lt_of_cell? w _ hx187_0)).trans hx187_0)
    replace p187 := eq_true p187
    replace q187 := eq_true q187
    go_wp2
    repeat (go_quiet (fail); try go_wp2)
    go_loopg [5, 8] k1 (fun kq v5 v8 w' => ∃ (x5_2 : List (List Int)) (x8_2 : Int), v8 = .int .i64 x8_2 ∧ Aside0 (spec_l03Longer.l1 kq l1 x5_2 x6_1 (rd (rd_L1 l1 x6_1) (ji8)) x8_2 a0_0 l0_1 = some r) ∧ Aside0 (kq ≤ k1) ∧ Aside0 (Kd.S (Kd.slice 2 (Kd.int .i64)) 26 w' w.heap.size (fun _ => True) v5 x5_2) ∧ Aside0 (w'.heap[gb181]? = some (.cells #[.int .i64 a0_0, (.slice A0_1 l0_1.length c0_1)] 29 (0, 0))) ∧ Aside0 (Below w.heap.size w w'))
    case atStart => exact ⟨(x5_1), (0), es_, H', ⟨Nat.le_refl _⟩, ⟨Kd.S_below HO_5.out bgo_⟩, ⟨blk_below BK181.out bgo_⟩, ⟨hbs_⟩⟩
    case round =>
     clear H'
     obtain ⟨x5_2, x8_2, rfl, HA, HK2, HO_5, BK181, HB⟩ := hrel
     cases gk with
     | zero => exact absurd HA.out (by simp [spec_l03Longer.l1])
     | succ k2 =>
      have H := HA.out
      clear HA
      simp only [spec_l03Longer.l1] at H
      by_cases c11 : x8_2 < (wrap64 (2 * (l0_1.length : Int)))
      ·rw [if_pos c11] at H
       have c11b0 := decide_eq_true c11
       clear c11
       obtain ⟨t188, A12, H⟩ := bnd_ H
       by_cases c13 : t188 = true
       ·subst c13
        have H1 : (if 0 ≤ x6_1 then (if x6_1 < (l1.length : Int) then ((spec_l01Own.f (rd_L1 l1 x6_1)).bind fun t190 => (if t190.length < 17592186044416 then (if x5_2.length < 5864062014805 then (spec_l03Longer.l1 k2 l1 (x5_2 ++ [(t190 ++ [x8_2])]) x6_1 (rd (rd_L1 l1 x6_1) (ji8)) (wrap64 (x8_2 + 1)) a0_0 l0_1) else (none)) else (none))) else (none)) else (none)) = some r := by rw [if_pos rfl] at H; exact H
        clear H
        have H := H1
        clear H1
        obtain ⟨c14, H⟩ := itn_ H
        have c14b0 := decide_eq_true c14
        clear c14
        obtain ⟨c15, H⟩ := itn_ H
        have c15b0 := decide_eq_true c15
        clear c15
        obtain ⟨t190, A16, H⟩ := bnd_ H
        obtain ⟨c17, H⟩ := itn_ H
        have LMc17 := Aside0.mk c17
        clear c17
        obtain ⟨y193, Ny193, H⟩ : ∃ y193 : List Int, Aside0 (y193 = (t190 ++ [x8_2])) ∧ (if x5_2.length < 5864062014805 then (spec_l03Longer.l1 k2 l1 (x5_2 ++ [y193]) x6_1 (rd (rd_L1 l1 x6_1) (ji8)) (wrap64 (x8_2 + 1)) a0_0 l0_1) else (none)) = some r := ⟨_, ⟨rfl⟩, H⟩
        obtain ⟨c18, H⟩ := itn_ H
        have LMc18 := Aside0.mk c18
        clear c18
        obtain ⟨y196, Ny196, H⟩ : ∃ y196 : List (List Int), Aside0 (y196 = (x5_2 ++ [y193])) ∧ (spec_l03Longer.l1 k2 l1 y196 x6_1 (rd (rd_L1 l1 x6_1) (ji8)) (wrap64 (x8_2 + 1)) a0_0 l0_1) = some r := ⟨_, ⟨rfl⟩, H⟩
        have H' := Aside0.mk H
        clear H
        have hcz19_0 : wr.cell? ⟨gb181, 0, none⟩ = some (.int .i64 a0_0) := (blk_cell BK181.out 0).trans rfl
        have hcz19_1 : wr.cell? ⟨gb181, 1, none⟩ = some (.slice A0_1 l0_1.length c0_1) := (blk_cell BK181.out 1).trans rfl
        have hfz19_0 := blk_frozen BK181.out 0
        have hfz19_1 := blk_frozen BK181.out 1
        go_wp2_with (first | (go_at_call 102; (with_reducible refine (spec_l03Next.calls a0_0 _ _ l0_1 (rd (rd_L1 l1 x6_1) (ji8)) x8_2 true _ ?side1 ?side2 A12.out).mono ?_); (case side1 => exact Kd.C_below (Kd.C_below HR0_1.out HB.out) bgo_); (case side2 => exact HC0_1.out); rintro e w20 ⟨rfl, hb⟩; replace HO_5 := Aside0.mk (Kd.S_below (Kd.S_below HO_5.out bgo_) hb); replace BK181 := Aside0.mk (blk_below (g := gb181) (o := .cells #[.int .i64 a0_0, .slice A0_1 l0_1.length c0_1] 29 (0, 0)) (blk_below BK181.out bgo_) hb); replace HB := Aside0.mk (below_step hbs_ hb); (try clear hb); (try clear hb2); (try clear hk); (try clear hi); have p189 : 0 ≤ (x6_1 : Int) := od_; have q189 : x6_1 < (l1.length : Int) := od_; obtain ⟨ad189, A189_0, c189_0, e189, hx189_0, hl189_0, hi189_0⟩ := at_L1 HR1.out x6_1 p189 q189; obtain rfl : ad185 = ad189 := (by injection e189); replace hx189_0 := (HB.out.cell (World.block_lt_of_cell? w _ hx189_0)).trans hx189_0; have HR189_0 := Aside0.mk hi189_0; have HC189_0 := Aside0.mk hl189_0; clear hi189_0 hl189_0; replace p189 := eq_true p189; replace q189 := eq_true q189) | (go_at_call 42; (with_reducible refine (spec_l01Own.calls _ _ (rd_L1 l1 x6_1) t190 _ ?side1 ?side2 A16.out).mono ?_); (case side1 => exact Kd.C_below (Kd.C_below HR189_0.out HB.out) bgo_); (case side2 => exact HC189_0.out); rintro e w21 ⟨v191, rfl, ho0, hb⟩; replace HO_5 := Aside0.mk (Kd.S_elder' (Kd.S_below HO_5.out bgo_) (Kd.R_base ho0) hb); have HO192 := Aside0.mk (Kd.R_lower ho0 (below_size hbs_)); replace BK181 := Aside0.mk (blk_below (g := gb181) (o := .cells #[.int .i64 a0_0, .slice A0_1 l0_1.length c0_1] 29 (0, 0)) (blk_below BK181.out bgo_) hb); replace HB := Aside0.mk (below_step hbs_ hb); (try clear hb); (try clear hb2); (try clear hk); (try clear hi); (try clear ho0)) | ((with_reducible refine gate_builtin (b := .append) (xs := #[.tmp 45, .tmp 47]) rfl ?_); at_builtin; refine Kd.R_append (Kd.int .i64) (w0 := w) w.heap.size rfl (.tmp 45) (.tmp 47) 26 2 (.int .i64 0) 8 rfl Try.underlying26 info2 rfl (by decide) (by omega) v191 t190 x8_2 [.int .i64 x8_2] (fun _ => True) (fun _ => False) rfl rfl ?aP (fun _ hk => hk.elim) ?aF ?aO ?aB ?aS ?aL ?_; (case aP => exact rfl); (case aB => exact hbs_); (case aF => exact (fun _ _ => trivial)); (case aO => exact (Kd.R_below HO192.out bgo_)); (case aS => exact (below_size hbs_)); (case aL => have := LMc17.out; omega); intro v194 w22 ho hb hg hat; rw [← Ny193.out] at ho; replace HO_5 := Aside0.mk (Kd.S_after (ok := (fun _ => True)) (Kd.S_below HO_5.out bgo_) hg hat); replace BK181 := Aside0.mk (blk_grown (g := gb181) (o := .cells #[.int .i64 a0_0, .slice A0_1 l0_1.length c0_1] 29 (0, 0)) (blk_below BK181.out bgo_) hg (Kd.R_ne HO192.out BK181.out (by decide))); replace HB := Aside0.mk (hb); have HO195 := Aside0.mk (ho); clear HO192; clear ho hb hg hat; obtain ⟨Ao24, co24, eo24⟩ := Kd.R_slice HO195.out; subst eo24) | ((with_reducible refine gate_builtin (b := .append) (xs := #[.tmp 40, .tmp 49]) rfl ?_); at_builtin; refine Kd.S_append (Kd.slice 2 (Kd.int .i64)) (w0 := w) w.heap.size rfl (.tmp 40) (.tmp 49) 22 26 (.slice none 0 0) 24 rfl Try.underlying22 info26 rfl (by decide) (by omega) u5 x5_2 y193 [.slice Ao24 y193.length co24] (fun _ => True) (fun k_ => some k_ = (.slice Ao24 y193.length co24 : Value).ownBlock) rfl rfl ?aP (fun k_ hk_ => ((Kd.R_mono (ok' := fun k_ => ((fun _ => True)) k_ ∧ some k_ ≠ (u5 : Value).ownBlock) (Kd.R_apart' (HO195.out) (Kd.S_typed HO_5.out) (by decide)) (fun k_ hk => ⟨trivial, hk.2⟩))).1 k_ hk_.symm) ?aF ?aO ?aB ?aS ?aL ?_; (case aP => exact Kd.M_row (Kd.R_mono (Kd.R_tight rfl (Kd.R_mono (ok' := fun k_ => ((fun _ => True)) k_ ∧ some k_ ≠ (u5 : Value).ownBlock) (Kd.R_apart' (HO195.out) (Kd.S_typed HO_5.out) (by decide)) (fun k_ hk => ⟨trivial, hk.2⟩))) (fun _ h_ => h_))); (case aB => exact hbs_); (case aF => exact (fun _ _ => trivial)); (case aO => exact (by (with_reducible repeat (first | apply Kd.S_alloc | apply Kd.S_drewN | apply Kd.S_drew)); exact Kd.S_mono HO_5.out (fun k_ hk => ⟨trivial, fun e_ => hk.2 e_⟩))); (case aS => exact (below_size hbs_)); (case aL => have := LMc18.out; omega); intro v197 w23 ho hb hg hat; rw [← Ny196.out] at ho; replace BK181 := Aside0.mk (blk_grown (g := gb181) (o := .cells #[.int .i64 a0_0, .slice A0_1 l0_1.length c0_1] 29 (0, 0)) (blk_below BK181.out bgo_) hg (Kd.S_ne HO_5.out BK181.out (by decide))); replace HB := Aside0.mk (hb); have HO198 := Aside0.mk (ho); clear HO_5 HO195; clear ho hb hg hat))
        repeat (go_quiet (first | (go_at_call 102; (with_reducible refine (spec_l03Next.calls a0_0 _ _ l0_1 (rd (rd_L1 l1 x6_1) (ji8)) x8_2 true _ ?side1 ?side2 A12.out).mono ?_); (case side1 => exact Kd.C_below (Kd.C_below HR0_1.out HB.out) bgo_); (case side2 => exact HC0_1.out); rintro e w20 ⟨rfl, hb⟩; replace HO_5 := Aside0.mk (Kd.S_below (Kd.S_below HO_5.out bgo_) hb); replace BK181 := Aside0.mk (blk_below (g := gb181) (o := .cells #[.int .i64 a0_0, .slice A0_1 l0_1.length c0_1] 29 (0, 0)) (blk_below BK181.out bgo_) hb); replace HB := Aside0.mk (below_step hbs_ hb); (try clear hb); (try clear hb2); (try clear hk); (try clear hi); have p189 : 0 ≤ (x6_1 : Int) := od_; have q189 : x6_1 < (l1.length : Int) := od_; obtain ⟨ad189, A189_0, c189_0, e189, hx189_0, hl189_0, hi189_0⟩ := at_L1 HR1.out x6_1 p189 q189; obtain rfl : ad185 = ad189 := (by injection e189); replace hx189_0 := (HB.out.cell (World.block_lt_of_cell? w _ hx189_0)).trans hx189_0; have HR189_0 := Aside0.mk hi189_0; have HC189_0 := Aside0.mk hl189_0; clear hi189_0 hl189_0; replace p189 := eq_true p189; replace q189 := eq_true q189) | (go_at_call 42; (with_reducible refine (spec_l01Own.calls _ _ (rd_L1 l1 x6_1) t190 _ ?side1 ?side2 A16.out).mono ?_); (case side1 => exact Kd.C_below (Kd.C_below HR189_0.out HB.out) bgo_); (case side2 => exact HC189_0.out); rintro e w21 ⟨v191, rfl, ho0, hb⟩; replace HO_5 := Aside0.mk (Kd.S_elder' (Kd.S_below HO_5.out bgo_) (Kd.R_base ho0) hb); have HO192 := Aside0.mk (Kd.R_lower ho0 (below_size hbs_)); replace BK181 := Aside0.mk (blk_below (g := gb181) (o := .cells #[.int .i64 a0_0, .slice A0_1 l0_1.length c0_1] 29 (0, 0)) (blk_below BK181.out bgo_) hb); replace HB := Aside0.mk (below_step hbs_ hb); (try clear hb); (try clear hb2); (try clear hk); (try clear hi); (try clear ho0)) | ((with_reducible refine gate_builtin (b := .append) (xs := #[.tmp 45, .tmp 47]) rfl ?_); at_builtin; refine Kd.R_append (Kd.int .i64) (w0 := w) w.heap.size rfl (.tmp 45) (.tmp 47) 26 2 (.int .i64 0) 8 rfl Try.underlying26 info2 rfl (by decide) (by omega) v191 t190 x8_2 [.int .i64 x8_2] (fun _ => True) (fun _ => False) rfl rfl ?aP (fun _ hk => hk.elim) ?aF ?aO ?aB ?aS ?aL ?_; (case aP => exact rfl); (case aB => exact hbs_); (case aF => exact (fun _ _ => trivial)); (case aO => exact (Kd.R_below HO192.out bgo_)); (case aS => exact (below_size hbs_)); (case aL => have := LMc17.out; omega); intro v194 w22 ho hb hg hat; rw [← Ny193.out] at ho; replace HO_5 := Aside0.mk (Kd.S_after (ok := (fun _ => True)) (Kd.S_below HO_5.out bgo_) hg hat); replace BK181 := Aside0.mk (blk_grown (g := gb181) (o := .cells #[.int .i64 a0_0, .slice A0_1 l0_1.length c0_1] 29 (0, 0)) (blk_below BK181.out bgo_) hg (Kd.R_ne HO192.out BK181.out (by decide))); replace HB := Aside0.mk (hb); have HO195 := Aside0.mk (ho); clear HO192; clear ho hb hg hat; obtain ⟨Ao24, co24, eo24⟩ := Kd.R_slice HO195.out; subst eo24) | ((with_reducible refine gate_builtin (b := .append) (xs := #[.tmp 40, .tmp 49]) rfl ?_); at_builtin; refine Kd.S_append (Kd.slice 2 (Kd.int .i64)) (w0 := w) w.heap.size rfl (.tmp 40) (.tmp 49) 22 26 (.slice none 0 0) 24 rfl Try.underlying22 info26 rfl (by decide) (by omega) u5 x5_2 y193 [.slice Ao24 y193.length co24] (fun _ => True) (fun k_ => some k_ = (.slice Ao24 y193.length co24 : Value).ownBlock) rfl rfl ?aP (fun k_ hk_ => ((Kd.R_mono (ok' := fun k_ => ((fun _ => True)) k_ ∧ some k_ ≠ (u5 : Value).ownBlock) (Kd.R_apart' (HO195.out) (Kd.S_typed HO_5.out) (by decide)) (fun k_ hk => ⟨trivial, hk.2⟩))).1 k_ hk_.symm) ?aF ?aO ?aB ?aS ?aL ?_; (case aP => exact Kd.M_row (Kd.R_mono (Kd.R_tight rfl (Kd.R_mono (ok' := fun k_ => ((fun _ => True)) k_ ∧ some k_ ≠ (u5 : Value).ownBlock) (Kd.R_apart' (HO195.out) (Kd.S_typed HO_5.out) (by decide)) (fun k_ hk => ⟨trivial, hk.2⟩))) (fun _ h_ => h_))); (case aB => exact hbs_); (case aF => exact (fun _ _ => trivial)); (case aO => exact (by (with_reducible repeat (first | apply Kd.S_alloc | apply Kd.S_drewN | apply Kd.S_drew)); exact Kd.S_mono HO_5.out (fun k_ hk => ⟨trivial, fun e_ => hk.2 e_⟩))); (case aS => exact (below_size hbs_)); (case aL => have := LMc18.out; omega); intro v197 w23 ho hb hg hat; rw [← Ny196.out] at ho; replace BK181 := Aside0.mk (blk_grown (g := gb181) (o := .cells #[.int .i64 a0_0, .slice A0_1 l0_1.length c0_1] 29 (0, 0)) (blk_below BK181.out bgo_) hg (Kd.S_ne HO_5.out BK181.out (by decide))); replace HB := Aside0.mk (hb); have HO198 := Aside0.mk (ho); clear HO_5 HO195; clear ho hb hg hat)); try go_wp2_with (first | (go_at_call 102; (with_reducible refine (spec_l03Next.calls a0_0 _ _ l0_1 (rd (rd_L1 l1 x6_1) (ji8)) x8_2 true _ ?side1 ?side2 A12.out).mono ?_); (case side1 => exact Kd.C_below (Kd.C_below HR0_1.out HB.out) bgo_); (case side2 => exact HC0_1.out); rintro e w20 ⟨rfl, hb⟩; replace HO_5 := Aside0.mk (Kd.S_below (Kd.S_below HO_5.out bgo_) hb); replace BK181 := Aside0.mk (blk_below (g := gb181) (o := .cells #[.int .i64 a0_0, .slice A0_1 l0_1.length c0_1] 29 (0, 0)) (blk_below BK181.out bgo_) hb); replace HB := Aside0.mk (below_step hbs_ hb); (try clear hb); (try clear hb2); (try clear hk); (try clear hi); have p189 : 0 ≤ (x6_1 : Int) := od_; have q189 : x6_1 < (l1.length : Int) := od_; obtain ⟨ad189, A189_0, c189_0, e189, hx189_0, hl189_0, hi189_0⟩ := at_L1 HR1.out x6_1 p189 q189; obtain rfl : ad185 = ad189 := (by injection e189); replace hx189_0 := (HB.out.cell (World.block_lt_of_cell? w _ hx189_0)).trans hx189_0; have HR189_0 := Aside0.mk hi189_0; have HC189_0 := Aside0.mk hl189_0; clear hi189_0 hl189_0; replace p189 := eq_true p189; replace q189 := eq_true q189) | (go_at_call 42; (with_reducible refine (spec_l01Own.calls _ _ (rd_L1 l1 x6_1) t190 _ ?side1 ?side2 A16.out).mono ?_); (case side1 => exact Kd.C_below (Kd.C_below HR189_0.out HB.out) bgo_); (case side2 => exact HC189_0.out); rintro e w21 ⟨v191, rfl, ho0, hb⟩; replace HO_5 := Aside0.mk (Kd.S_elder' (Kd.S_below HO_5.out bgo_) (Kd.R_base ho0) hb); have HO192 := Aside0.mk (Kd.R_lower ho0 (below_size hbs_)); replace BK181 := Aside0.mk (blk_below (g := gb181) (o := .cells #[.int .i64 a0_0, .slice A0_1 l0_1.length c0_1] 29 (0, 0)) (blk_below BK181.out bgo_) hb); replace HB := Aside0.mk (below_step hbs_ hb); (try clear hb); (try clear hb2); (try clear hk); (try clear hi); (try clear ho0)) | ((with_reducible refine gate_builtin (b := .append) (xs := #[.tmp 45, .tmp 47]) rfl ?_); at_builtin; refine Kd.R_append (Kd.int .i64) (w0 := w) w.heap.size rfl (.tmp 45) (.tmp 47) 26 2 (.int .i64 0) 8 rfl Try.underlying26 info2 rfl (by decide) (by omega) v191 t190 x8_2 [.int .i64 x8_2] (fun _ => True) (fun _ => False) rfl rfl ?aP (fun _ hk => hk.elim) ?aF ?aO ?aB ?aS ?aL ?_; (case aP => exact rfl); (case aB => exact hbs_); (case aF => exact (fun _ _ => trivial)); (case aO => exact (Kd.R_below HO192.out bgo_)); (case aS => exact (below_size hbs_)); (case aL => have := LMc17.out; omega); intro v194 w22 ho hb hg hat; rw [← Ny193.out] at ho; replace HO_5 := Aside0.mk (Kd.S_after (ok := (fun _ => True)) (Kd.S_below HO_5.out bgo_) hg hat); replace BK181 := Aside0.mk (blk_grown (g := gb181) (o := .cells #[.int .i64 a0_0, .slice A0_1 l0_1.length c0_1] 29 (0, 0)) (blk_below BK181.out bgo_) hg (Kd.R_ne HO192.out BK181.out (by decide))); replace HB := Aside0.mk (hb); have HO195 := Aside0.mk (ho); clear HO192; clear ho hb hg hat; obtain ⟨Ao24, co24, eo24⟩ := Kd.R_slice HO195.out; subst eo24) | ((with_reducible refine gate_builtin (b := .append) (xs := #[.tmp 40, .tmp 49]) rfl ?_); at_builtin; refine Kd.S_append (Kd.slice 2 (Kd.int .i64)) (w0 := w) w.heap.size rfl (.tmp 40) (.tmp 49) 22 26 (.slice none 0 0) 24 rfl Try.underlying22 info26 rfl (by decide) (by omega) u5 x5_2 y193 [.slice Ao24 y193.length co24] (fun _ => True) (fun k_ => some k_ = (.slice Ao24 y193.length co24 : Value).ownBlock) rfl rfl ?aP (fun k_ hk_ => ((Kd.R_mono (ok' := fun k_ => ((fun _ => True)) k_ ∧ some k_ ≠ (u5 : Value).ownBlock) (Kd.R_apart' (HO195.out) (Kd.S_typed HO_5.out) (by decide)) (fun k_ hk => ⟨trivial, hk.2⟩))).1 k_ hk_.symm) ?aF ?aO ?aB ?aS ?aL ?_; (case aP => exact Kd.M_row (Kd.R_mono (Kd.R_tight rfl (Kd.R_mono (ok' := fun k_ => ((fun _ => True)) k_ ∧ some k_ ≠ (u5 : Value).ownBlock) (Kd.R_apart' (HO195.out) (Kd.S_typed HO_5.out) (by decide)) (fun k_ hk => ⟨trivial, hk.2⟩))) (fun _ h_ => h_))); (case aB => exact hbs_); (case aF => exact (fun _ _ => trivial)); (case aO => exact (by (with_reducible repeat (first | apply Kd.S_alloc | apply Kd.S_drewN | apply Kd.S_drew)); exact Kd.S_mono HO_5.out (fun k_ hk => ⟨trivial, fun e_ => hk.2 e_⟩))); (case aS => exact (below_size hbs_)); (case aL => have := LMc18.out; omega); intro v197 w23 ho hb hg hat; rw [← Ny196.out] at ho; replace BK181 := Aside0.mk (blk_grown (g := gb181) (o := .cells #[.int .i64 a0_0, .slice A0_1 l0_1.length c0_1] 29 (0, 0)) (blk_below BK181.out bgo_) hg (Kd.S_ne HO_5.out BK181.out (by decide))); replace HB := Aside0.mk (hb); have HO198 := Aside0.mk (ho); clear HO_5 HO195; clear ho hb hg hat)))
        first | (first | go_roundg k2 | (refine Handed.intro k2 ?measure ?_; rotate_left; go_step; (try simp only [add_plain]); (repeat apply Exists.intro); refine ⟨?rel, rfl⟩)) | ((try subst hji8); (first | go_roundg k2 | (refine Handed.intro k2 ?measure ?_; rotate_left; go_step; (try simp only [add_plain]); (repeat apply Exists.intro); refine ⟨?rel, rfl⟩)))
        case measure => have := HK1.out; have := HK2.out; omega
        case rel => exact ⟨(y196), (wrap64 (x8_2 + 1)), es_, H', ⟨by have := HK1.out; have := HK2.out; omega⟩, ⟨Kd.S_below HO198.out bgo_⟩, ⟨blk_below BK181.out bgo_⟩, ⟨hbs_⟩⟩
       ·replace c13 := Bool.eq_false_iff.mpr c13
        subst c13
        have H1 : (spec_l03Longer.l1 k2 l1 x5_2 x6_1 (rd (rd_L1 l1 x6_1) (ji8)) (wrap64 (x8_2 + 1)) a0_0 l0_1) = some r := by rw [if_neg (show ¬ (false = true) by decide)] at H; exact H
        clear H
        have H := H1
        clear H1
        have H' := Aside0.mk H
        clear H
        have hcz25_0 : wr.cell? ⟨gb181, 0, none⟩ = some (.int .i64 a0_0) := (blk_cell BK181.out 0).trans rfl
        have hcz25_1 : wr.cell? ⟨gb181, 1, none⟩ = some (.slice A0_1 l0_1.length c0_1) := (blk_cell BK181.out 1).trans rfl
        have hfz25_0 := blk_frozen BK181.out 0
        have hfz25_1 := blk_frozen BK181.out 1
        go_wp2_with (first | (go_at_call 102; (with_reducible refine (spec_l03Next.calls a0_0 _ _ l0_1 (rd (rd_L1 l1 x6_1) (ji8)) x8_2 false _ ?side1 ?side2 A12.out).mono ?_); (case side1 => exact Kd.C_below (Kd.C_below HR0_1.out HB.out) bgo_); (case side2 => exact HC0_1.out); rintro e w26 ⟨rfl, hb⟩; replace HO_5 := Aside0.mk (Kd.S_below (Kd.S_below HO_5.out bgo_) hb); replace BK181 := Aside0.mk (blk_below (g := gb181) (o := .cells #[.int .i64 a0_0, .slice A0_1 l0_1.length c0_1] 29 (0, 0)) (blk_below BK181.out bgo_) hb); replace HB := Aside0.mk (below_step hbs_ hb); (try clear hb); (try clear hb2); (try clear hk); (try clear hi)))
        repeat (go_quiet (first | (go_at_call 102; (with_reducible refine (spec_l03Next.calls a0_0 _ _ l0_1 (rd (rd_L1 l1 x6_1) (ji8)) x8_2 false _ ?side1 ?side2 A12.out).mono ?_); (case side1 => exact Kd.C_below (Kd.C_below HR0_1.out HB.out) bgo_); (case side2 => exact HC0_1.out); rintro e w26 ⟨rfl, hb⟩; replace HO_5 := Aside0.mk (Kd.S_below (Kd.S_below HO_5.out bgo_) hb); replace BK181 := Aside0.mk (blk_below (g := gb181) (o := .cells #[.int .i64 a0_0, .slice A0_1 l0_1.length c0_1] 29 (0, 0)) (blk_below BK181.out bgo_) hb); replace HB := Aside0.mk (below_step hbs_ hb); (try clear hb); (try clear hb2); (try clear hk); (try clear hi))); try go_wp2_with (first | (go_at_call 102; (with_reducible refine (spec_l03Next.calls a0_0 _ _ l0_1 (rd (rd_L1 l1 x6_1) (ji8)) x8_2 false _ ?side1 ?side2 A12.out).mono ?_); (case side1 => exact Kd.C_below (Kd.C_below HR0_1.out HB.out) bgo_); (case side2 => exact HC0_1.out); rintro e w26 ⟨rfl, hb⟩; replace HO_5 := Aside0.mk (Kd.S_below (Kd.S_below HO_5.out bgo_) hb); replace BK181 := Aside0.mk (blk_below (g := gb181) (o := .cells #[.int .i64 a0_0, .slice A0_1 l0_1.length c0_1] 29 (0, 0)) (blk_below BK181.out bgo_) hb); replace HB := Aside0.mk (below_step hbs_ hb); (try clear hb); (try clear hb2); (try clear hk); (try clear hi))))
        first | (first | go_roundg k2 | (refine Handed.intro k2 ?measure ?_; rotate_left; go_step; (try simp only [add_plain]); (repeat apply Exists.intro); refine ⟨?rel, rfl⟩)) | ((try subst hji8); (first | go_roundg k2 | (refine Handed.intro k2 ?measure ?_; rotate_left; go_step; (try simp only [add_plain]); (repeat apply Exists.intro); refine ⟨?rel, rfl⟩)))
        case measure => have := HK1.out; have := HK2.out; omega
        case rel => exact ⟨(x5_2), (wrap64 (x8_2 + 1)), es_, H', ⟨by have := HK1.out; have := HK2.out; omega⟩, ⟨Kd.S_below HO_5.out bgo_⟩, ⟨blk_below BK181.out bgo_⟩, ⟨hbs_⟩⟩
      ·rw [if_neg c11] at H
       have c11b0 := decide_eq_false c11
       clear c11
       have H' := Aside0.mk H
       clear H
       have hcz27_0 : wr.cell? ⟨gb181, 0, none⟩ = some (.int .i64 a0_0) := (blk_cell BK181.out 0).trans rfl
       have hcz27_1 : wr.cell? ⟨gb181, 1, none⟩ = some (.slice A0_1 l0_1.length c0_1) := (blk_cell BK181.out 1).trans rfl
       have hfz27_0 := blk_frozen BK181.out 0
       have hfz27_1 := blk_frozen BK181.out 1
       go_wp2
       repeat (go_quiet (fail); try go_wp2)
       first | (first | go_roundg k2 | (refine Handed.intro k2 ?measure ?_; rotate_left; go_step; (try simp only [add_plain]); (repeat apply Exists.intro); refine ⟨?rel, rfl⟩)) | ((try subst hji8); (first | go_roundg k2 | (refine Handed.intro k2 ?measure ?_; rotate_left; go_step; (try simp only [add_plain]); (repeat apply Exists.intro); refine ⟨?rel, rfl⟩)))
       case measure => have := HK1.out; have := HK2.out; omega
       case rel => exact ⟨(x5_2), (wrap64 (x6_1 + 1)), es_, H', ⟨by have := HK1.out; have := HK2.out; omega⟩, ⟨Kd.S_below HO_5.out bgo_⟩, ⟨blk_below BK181.out bgo_⟩, ⟨hbs_⟩⟩
   ·rw [if_neg c6] at H
    have c6b0 := decide_eq_false c6
    clear c6
    obtain rfl := Option.some.inj H
    go_wp2
    repeat (go_quiet (fail); try go_wp2)
    go_ret
    exact ⟨_, er_, (Kd.S_below HO_5.out bgo_), hbs_⟩

/-! ### spec_l03List: function 65 -/
mutual
def spec_l03List.l0 : Nat → Int → Int → List (List Int) → Int → Int → List (List Int) → Option ((List (List Int)))
 | 0, _, _, _, _, _, _ => none
 | k + 1, x1, x2, x7, x8, x200000, x200001 => if x8 < (wrap64 (2 * (x200001.length : Int))) then ((spec_l01Ends.f x200000 x200001 x8).bind fun bt203 => (if bt203.1 = x1 then (if x7.length < 5864062014805 then (spec_l03List.l0 k x1 x2 (x7 ++ [(([x8] : List Int))]) (wrap64 (x8 + 1)) x200000 x200001) else (none)) else (spec_l03List.l0 k x1 x2 x7 (wrap64 (x8 + 1)) x200000 x200001))) else (spec_l03List.l1 k x2 x7 1 x200000 x200001)
def spec_l03List.l1 : Nat → Int → List (List Int) → Int → Int → List (List Int) → Option ((List (List Int)))
 | 0, _, _, _, _, _ => none
 | k + 1, x2, x7, x11, x200000, x200001 => if x11 < x2 then ((spec_l03Longer.f k x200000 x200001 x7).bind fun t211 => (spec_l03List.l1 k x2 t211 (wrap64 (x11 + 1)) x200000 x200001)) else (some x7)
end
def spec_l03List.f (k : Nat) (a0_0 : Int) (l0_1 : List (List Int)) (a1 : Int) (a2 : Int) : Option ((List (List Int))) := spec_l03List.l0 k a1 a2 (([] : List (List Int))) 0 a0_0 l0_1
set_option maxHeartbeats 8000000 in
set_option maxRecDepth 100000 in
theorem spec_l03List.calls (k : Nat) (a0_0 : Int) (A0_1 : Option Addr) (c0_1 : Nat) (l0_1 : List (List Int)) (a1 : Int) (a2 : Int) (r : List (List Int)) (w : World) (hr0_1 : Kd.C (Kd.slice 2 (Kd.int .i64)) w A0_1 l0_1.length l0_1) (hc0_1 : l0_1.length ≤ c0_1) (h : spec_l03List.f k a0_0 l0_1 a1 a2 = some r) :
  Calls Try.prog 65 #[.agg #[.int .i64 a0_0, .slice A0_1 l0_1.length c0_1], .int .i64 a1, .int .i64 a2] w fun e w' => ∃ v0_ : Value, e = .returned (v0_) ∧ Kd.S (Kd.slice 2 (Kd.int .i64)) 26 w' w.heap.size (fun _ => True) v0_ r ∧ Below w.heap.size w w' := by
 have hu29 := Try.underlying29
 have HR0_1 := Aside0.mk hr0_1
 have HC0_1 := Aside0.mk hc0_1
 clear hr0_1 hc0_1
 have HB := Aside0.mk (Below.refl w.heap.size w)
 have H : (spec_l03List.l0 k a1 a2 (([] : List (List Int))) 0 a0_0 l0_1) = some r := h
 clear h
 obtain ⟨y200, Ny200, H⟩ : ∃ y200 : List (List Int), Aside0 (y200 = (([] : List (List Int)))) ∧ (spec_l03List.l0 k a1 a2 y200 0 a0_0 l0_1) = some r := ⟨_, ⟨rfl⟩, H⟩
 have H' := Aside0.mk H
 clear H
 go_enter Try.func65, Try.ntmps65
 go_wp2_with (first | ((with_reducible refine gate_dst (N := 3) rfl ?_); refine box_event ?hg (N := 3) ?hd (cs := #[.int .i64 a0_0, .slice A0_1 l0_1.length c0_1]) (t := 29) ?hr ?_; (case hd => rfl); (case hg => rfl); (case hr => first | (go_simp; done) | (go_simp; rfl)); intro gb199 hg w4 hbox hb; have BK199 := Aside0.mk (hbox); have GW199 := Aside0.mk ((by rw [hg]; exact (below_size hb_) : w.heap.size ≤ gb199)); have GE199 := Aside0.mk ((by rw [hg]; exact (below_size hb_) : w.heap.size ≤ gb199)); replace HB := Aside0.mk (below_step hb_ hb); clear hb hbox hg) | ((with_reducible refine gate_dst (N := 12) rfl ?_); refine Kd.S_lit (Kd.slice 2 (Kd.int .i64)) _ 26 ?hg (N := 12) ?hd (xs := ([] : List (List Int))) (inner := []) (ok := fun _ => True) (okp := fun _ => True) ?hr ?hp (fun _ hk => hk) trivial (Below.refl _ _) (Nat.le_refl _) (by simp) ?_; (case hd => rfl); (case hg => rfl); (case hr => first | (go_simp; done) | (go_simp; rfl)); (case hp => exact (Reps.none _ _)); intro v201 w5 ho6 hb hg_ hnew_; clear hg_ hnew_; (first | rw [← Ny200.out] at ho6 | (simp only [Int.reduceToNat] at ho6; rw [← Ny200.out] at ho6)); have HO202 := Aside0.mk (Kd.S_lower ho6 (below_size hbs_)); replace BK199 := Aside0.mk (blk_below (g := gb199) (o := .cells #[.int .i64 a0_0, .slice A0_1 l0_1.length c0_1] 29 (0, 0)) (blk_below BK199.out bgo_) hb); replace HB := Aside0.mk (below_step hbs_ hb); clear hb ho6))
 go_loopg [7, 8] k (fun kq v7 v8 w' => ∃ (x7_1 : List (List Int)) (x8_1 : Int), v8 = .int .i64 x8_1 ∧ Aside0 (spec_l03List.l0 kq a1 a2 x7_1 x8_1 a0_0 l0_1 = some r) ∧ Aside0 (kq ≤ k) ∧ Aside0 (Kd.S (Kd.slice 2 (Kd.int .i64)) 26 w' w.heap.size (fun _ => True) v7 x7_1) ∧ Aside0 (w'.heap[gb199]? = some (.cells #[.int .i64 a0_0, (.slice A0_1 l0_1.length c0_1)] 29 (0, 0))) ∧ Aside0 (Below w.heap.size w w'))
 case atStart => exact ⟨(y200), (0), es_, H', ⟨Nat.le_refl _⟩, ⟨Kd.S_below HO202.out bgo_⟩, ⟨blk_below BK199.out bgo_⟩, ⟨hbs_⟩⟩
 case round =>
  clear H'
  obtain ⟨x7_1, x8_1, rfl, HA, HK1, HO_7, BK199, HB⟩ := hrel
  cases gk with
  | zero => exact absurd HA.out (by simp [spec_l03List.l0])
  | succ k1 =>
   have H := HA.out
   clear HA
   simp only [spec_l03List.l0] at H
   by_cases c7 : x8_1 < (wrap64 (2 * (l0_1.length : Int)))
   ·rw [if_pos c7] at H
    have c7b0 := decide_eq_true c7
    clear c7
    obtain ⟨⟨t203, t204⟩, A8, H⟩ := bnd_ H
    dsimp only at H
    by_cases c9 : t203 = a1
    ·rw [if_pos c9] at H
     have c9b0 : (t203 == a1) = true := beq_iff_eq.mpr c9
     have c9b1 : (t203 != a1) = false := bne_eq_false_iff_eq.mpr c9
     clear c9
     obtain ⟨y205, Ny205, H⟩ : ∃ y205 : List Int, Aside0 (y205 = (([x8_1] : List Int))) ∧ (if x7_1.length < 5864062014805 then (spec_l03List.l0 k1 a1 a2 (x7_1 ++ [y205]) (wrap64 (x8_1 + 1)) a0_0 l0_1) else (none)) = some r := ⟨_, ⟨rfl⟩, H⟩
     obtain ⟨c10, H⟩ := itn_ H
     have LMc10 := Aside0.mk c10
     clear c10
     obtain ⟨y208, Ny208, H⟩ : ∃ y208 : List (List Int), Aside0 (y208 = (x7_1 ++ [y205])) ∧ (spec_l03List.l0 k1 a1 a2 y208 (wrap64 (x8_1 + 1)) a0_0 l0_1) = some r := ⟨_, ⟨rfl⟩, H⟩
     have H' := Aside0.mk H
     clear H
     have hcz11_0 : wr.cell? ⟨gb199, 0, none⟩ = some (.int .i64 a0_0) := (blk_cell BK199.out 0).trans rfl
     have hcz11_1 : wr.cell? ⟨gb199, 1, none⟩ = some (.slice A0_1 l0_1.length c0_1) := (blk_cell BK199.out 1).trans rfl
     have hfz11_0 := blk_frozen BK199.out 0
     have hfz11_1 := blk_frozen BK199.out 1
     go_wp2_with (first | ((with_reducible refine gate_callee (f := 64) rfl ?_); refine goesL_ (some 24) rfl rfl Try.func64 (by kernel_rfl) rfl #[.agg #[.int .i64 a0_0, .slice A0_1 l0_1.length c0_1], .int .i64 x8_1] rfl arg_ ?_; (with_reducible refine (spec_l01Ends.calls a0_0 _ _ l0_1 x8_1 t203 t204 _ ?side1 ?side2 A8.out).mono ?_); (case side1 => exact Kd.C_below (Kd.C_below HR0_1.out HB.out) bgo_); (case side2 => exact HC0_1.out); rintro e w12 ⟨rfl, hb⟩; refine ⟨_, rfl, ?_⟩; replace HO_7 := Aside0.mk (Kd.S_below (Kd.S_below HO_7.out bgo_) hb); replace BK199 := Aside0.mk (blk_below (g := gb199) (o := .cells #[.int .i64 a0_0, .slice A0_1 l0_1.length c0_1] 29 (0, 0)) (blk_below BK199.out bgo_) hb); replace HB := Aside0.mk (below_step hbs_ hb); (try clear hb); (try clear hb2); (try clear hk); (try clear hi)) | ((with_reducible refine gate_dst (N := 32) rfl ?_); refine Kd.R_lit (Kd.int .i64) _ 2 ?hg (N := 32) ?hd (xs := ([x8_1] : List Int)) (inner := [.int .i64 x8_1]) (ok := fun _ => True) (okp := fun _ => True) ?hr ?hp (fun _ hk => hk) trivial (Below.refl _ _) (Nat.le_refl _) (by simp) ?_; (case hd => rfl); (case hg => rfl); (case hr => first | (go_simp; done) | (go_simp; rfl)); (case hp => exact (Reps.one (show Kd.M (Kd.int .i64) _ _ _ x8_1 [.int .i64 x8_1] from rfl) (Reps.none _ _))); intro v206 w13 ho14 hb hg_ hnew_; clear hg_ hnew_; (first | rw [← Ny205.out] at ho14 | (simp only [Int.reduceToNat] at ho14; rw [← Ny205.out] at ho14)); replace HO_7 := Aside0.mk (Kd.S_elder' (Kd.S_below HO_7.out bgo_) (Kd.R_base ho14) hb); have HO207 := Aside0.mk (Kd.R_lower ho14 (below_size hbs_)); replace BK199 := Aside0.mk (blk_below (g := gb199) (o := .cells #[.int .i64 a0_0, .slice A0_1 l0_1.length c0_1] 29 (0, 0)) (blk_below BK199.out bgo_) hb); replace HB := Aside0.mk (below_step hbs_ hb); clear hb ho14; obtain ⟨Ao16, co16, eo16⟩ := Kd.R_slice HO207.out; subst eo16) | ((with_reducible refine gate_builtin (b := .append) (xs := #[.tmp 30, .tmp 33]) rfl ?_); at_builtin; refine Kd.S_append (Kd.slice 2 (Kd.int .i64)) (w0 := w) w.heap.size rfl (.tmp 30) (.tmp 33) 22 26 (.slice none 0 0) 24 rfl Try.underlying22 info26 rfl (by decide) (by omega) u7 x7_1 y205 [.slice Ao16 y205.length co16] (fun _ => True) (fun k_ => some k_ = (.slice Ao16 y205.length co16 : Value).ownBlock) rfl rfl ?aP (fun k_ hk_ => ((Kd.R_mono (ok' := fun k_ => ((fun _ => True)) k_ ∧ some k_ ≠ (u7 : Value).ownBlock) (Kd.R_apart' (HO207.out) (Kd.S_typed HO_7.out) (by decide)) (fun k_ hk => ⟨trivial, hk.2⟩))).1 k_ hk_.symm) ?aF ?aO ?aB ?aS ?aL ?_; (case aP => exact Kd.M_row (Kd.R_mono (Kd.R_tight rfl (Kd.R_mono (ok' := fun k_ => ((fun _ => True)) k_ ∧ some k_ ≠ (u7 : Value).ownBlock) (Kd.R_apart' (HO207.out) (Kd.S_typed HO_7.out) (by decide)) (fun k_ hk => ⟨trivial, hk.2⟩))) (fun _ h_ => h_))); (case aB => exact hbs_); (case aF => exact (fun _ _ => trivial)); (case aO => exact (by (with_reducible repeat (first | apply Kd.S_alloc | apply Kd.S_drewN | apply Kd.S_drew)); exact Kd.S_mono HO_7.out (fun k_ hk => ⟨trivial, fun e_ => hk.2 e_⟩))); (case aS => exact (below_size hbs_)); (case aL => have := LMc10.out; omega); intro v209 w15 ho hb hg hat; rw [← Ny208.out] at ho; replace BK199 := Aside0.mk (blk_grown (g := gb199) (o := .cells #[.int .i64 a0_0, .slice A0_1 l0_1.length c0_1] 29 (0, 0)) (blk_below BK199.out bgo_) hg (Kd.S_ne HO_7.out BK199.out (by decide))); replace HB := Aside0.mk (hb); have HO210 := Aside0.mk (ho); clear HO_7 HO207; clear ho hb hg hat))
     first | go_roundg k1 | (refine Handed.intro k1 ?measure ?_; rotate_left; go_step; (try simp only [add_plain]); (repeat apply Exists.intro); refine ⟨?rel, rfl⟩)
     case measure => have := HK1.out; omega
     case rel => exact ⟨(y208), (wrap64 (x8_1 + 1)), es_, H', ⟨by have := HK1.out; omega⟩, ⟨Kd.S_below HO210.out bgo_⟩, ⟨blk_below BK199.out bgo_⟩, ⟨hbs_⟩⟩
    ·rw [if_neg c9] at H
     have c9b0 : (t203 == a1) = false := beq_eq_false_iff_ne.mpr c9
     have c9b1 : (t203 != a1) = true := bne_iff_ne.mpr c9
     have H' := Aside0.mk H
     clear H
     have hcz17_0 : wr.cell? ⟨gb199, 0, none⟩ = some (.int .i64 a0_0) := (blk_cell BK199.out 0).trans rfl
     have hcz17_1 : wr.cell? ⟨gb199, 1, none⟩ = some (.slice A0_1 l0_1.length c0_1) := (blk_cell BK199.out 1).trans rfl
     have hfz17_0 := blk_frozen BK199.out 0
     have hfz17_1 := blk_frozen BK199.out 1
     go_wp2_with (first | ((with_reducible refine gate_callee (f := 64) rfl ?_); refine goesL_ (some 24) rfl rfl Try.func64 (by kernel_rfl) rfl #[.agg #[.int .i64 a0_0, .slice A0_1 l0_1.length c0_1], .int .i64 x8_1] rfl arg_ ?_; (with_reducible refine (spec_l01Ends.calls a0_0 _ _ l0_1 x8_1 t203 t204 _ ?side1 ?side2 A8.out).mono ?_); (case side1 => exact Kd.C_below (Kd.C_below HR0_1.out HB.out) bgo_); (case side2 => exact HC0_1.out); rintro e w18 ⟨rfl, hb⟩; refine ⟨_, rfl, ?_⟩; replace HO_7 := Aside0.mk (Kd.S_below (Kd.S_below HO_7.out bgo_) hb); replace BK199 := Aside0.mk (blk_below (g := gb199) (o := .cells #[.int .i64 a0_0, .slice A0_1 l0_1.length c0_1] 29 (0, 0)) (blk_below BK199.out bgo_) hb); replace HB := Aside0.mk (below_step hbs_ hb); (try clear hb); (try clear hb2); (try clear hk); (try clear hi)))
     first | go_roundg k1 | (refine Handed.intro k1 ?measure ?_; rotate_left; go_step; (try simp only [add_plain]); (repeat apply Exists.intro); refine ⟨?rel, rfl⟩)
     case measure => have := HK1.out; omega
     case rel => exact ⟨(x7_1), (wrap64 (x8_1 + 1)), es_, H', ⟨by have := HK1.out; omega⟩, ⟨Kd.S_below HO_7.out bgo_⟩, ⟨blk_below BK199.out bgo_⟩, ⟨hbs_⟩⟩
   ·rw [if_neg c7] at H
    have c7b0 := decide_eq_false c7
    clear c7
    have H' := Aside0.mk H
    clear H
    have hcz19_0 : wr.cell? ⟨gb199, 0, none⟩ = some (.int .i64 a0_0) := (blk_cell BK199.out 0).trans rfl
    have hcz19_1 : wr.cell? ⟨gb199, 1, none⟩ = some (.slice A0_1 l0_1.length c0_1) := (blk_cell BK199.out 1).trans rfl
    have hfz19_0 := blk_frozen BK199.out 0
    have hfz19_1 := blk_frozen BK199.out 1
    go_wp2
    go_loopg [7, 11] k1 (fun kq v7 v11 w' => ∃ (x7_2 : List (List Int)) (x11_2 : Int), v11 = .int .i64 x11_2 ∧ Aside0 (spec_l03List.l1 kq a2 x7_2 x11_2 a0_0 l0_1 = some r) ∧ Aside0 (kq ≤ k1) ∧ Aside0 (Kd.S (Kd.slice 2 (Kd.int .i64)) 26 w' w.heap.size (fun _ => True) v7 x7_2) ∧ Aside0 (w'.heap[gb199]? = some (.cells #[.int .i64 a0_0, (.slice A0_1 l0_1.length c0_1)] 29 (0, 0))) ∧ Aside0 (Below w.heap.size w w'))
    case atStart => exact ⟨(x7_1), (1), es_, H', ⟨Nat.le_refl _⟩, ⟨Kd.S_below HO_7.out bgo_⟩, ⟨blk_below BK199.out bgo_⟩, ⟨hbs_⟩⟩
    case round =>
     clear H'
     obtain ⟨x7_2, x11_2, rfl, HA, HK2, HO_7, BK199, HB⟩ := hrel
     cases gk with
     | zero => exact absurd HA.out (by simp [spec_l03List.l1])
     | succ k2 =>
      have H := HA.out
      clear HA
      simp only [spec_l03List.l1] at H
      by_cases c20 : x11_2 < a2
      ·rw [if_pos c20] at H
       have c20b0 := decide_eq_true c20
       clear c20
       obtain ⟨t211, A21, H⟩ := bnd_ H
       have H' := Aside0.mk H
       clear H
       have hcz22_0 : wr.cell? ⟨gb199, 0, none⟩ = some (.int .i64 a0_0) := (blk_cell BK199.out 0).trans rfl
       have hcz22_1 : wr.cell? ⟨gb199, 1, none⟩ = some (.slice A0_1 l0_1.length c0_1) := (blk_cell BK199.out 1).trans rfl
       have hfz22_0 := blk_frozen BK199.out 0
       have hfz22_1 := blk_frozen BK199.out 1
       obtain ⟨Ao23, co23, eo23⟩ := Kd.S_slice HO_7.out
       subst eo23
       go_wp2_with (first | ((with_reducible refine gate_callee (f := 103) rfl ?_); refine goesL_ (some 42) rfl rfl Try.func103 (by kernel_rfl) rfl #[.agg #[.int .i64 a0_0, .slice A0_1 l0_1.length c0_1], .slice Ao23 x7_2.length co23] rfl arg_ ?_; (with_reducible refine (spec_l03Longer.calls k2 a0_0 _ _ l0_1 _ _ x7_2 t211 _ ?side1 ?side2 ?side3 ?side4 A21.out).mono ?_); (case side1 => exact Kd.C_below (Kd.C_below HR0_1.out HB.out) bgo_); (case side2 => exact HC0_1.out); (case side3 => exact Kd.C_below (Kd.S_reads' HO_7.out).2.2 bgo_); (case side4 => exact (Kd.S_reads' HO_7.out).2.1); rintro e w24 ⟨v212, rfl, ho0, hb⟩; refine ⟨_, rfl, ?_⟩; have HO213 := Aside0.mk (Kd.S_lower (Kd.S_new' ho0 (Kd.S_lt (Kd.S_below HO_7.out bgo_))) (below_size hbs_)); replace HO_7 := Aside0.mk (Kd.S_elder' (Kd.S_below HO_7.out bgo_) (Kd.S_base ho0) hb); replace BK199 := Aside0.mk (blk_below (g := gb199) (o := .cells #[.int .i64 a0_0, .slice A0_1 l0_1.length c0_1] 29 (0, 0)) (blk_below BK199.out bgo_) hb); replace HB := Aside0.mk (below_step hbs_ hb); (try clear hb); (try clear hb2); (try clear hk); (try clear hi); (try clear ho0)))
       first | go_roundg k2 | (refine Handed.intro k2 ?measure ?_; rotate_left; go_step; (try simp only [add_plain]); (repeat apply Exists.intro); refine ⟨?rel, rfl⟩)
       case measure => have := HK1.out; have := HK2.out; omega
       case rel => exact ⟨(t211), (wrap64 (x11_2 + 1)), es_, H', ⟨by have := HK1.out; have := HK2.out; omega⟩, ⟨by (with_reducible repeat (first | apply Kd.S_alloc | apply Kd.S_drewN | apply Kd.S_drew)); exact Kd.S_mono HO213.out (fun _ hk => trivial)⟩, ⟨blk_below BK199.out bgo_⟩, ⟨hbs_⟩⟩
      ·rw [if_neg c20] at H
       have c20b0 := decide_eq_false c20
       clear c20
       obtain rfl := Option.some.inj H
       go_wp2
       go_ret
       exact ⟨_, er_, (Kd.S_below HO_7.out bgo_), hbs_⟩

/-! ### spec_WalksFrom: function 24 -/
mutual
def spec_WalksFrom.j0 : Nat → Int → Int → Int → Bool → Int → List (List Int) → Option ((List (List Int)) × Int)
 | 0, _, _, _, _, _, _ => none
 | k + 1, x1, x2, x8, x27, x215000, x215001 => if x27 = true then (spec_WalksFrom.j1 k x1 x2 2 x215000 x215001) else (spec_WalksFrom.j1 k x1 x2 x8 x215000 x215001)
def spec_WalksFrom.j1 : Nat → Int → Int → Int → Int → List (List Int) → Option ((List (List Int)) × Int)
 | 0, _, _, _, _, _ => none
 | k + 1, x1, x2, x8, x215000, x215001 => if x8 = 0 then ((spec_l03Rows.f k x215000 x215001 x2).bind fun t217 => (spec_WalksFrom.l0 k x1 x2 t217 0 0 x215000 x215001)) else (some (([] : List (List Int)), x8))
def spec_WalksFrom.l0 : Nat → Int → Int → List (List Int) → Int → Int → Int → List (List Int) → Option ((List (List Int)) × Int)
 | 0, _, _, _, _, _, _, _ => none
 | k + 1, x1, x2, x9, x10, x11, x215000, x215001 => if x11 < (x9.length : Int) then ((spec_l01Ends.f x215000 x215001 x11).bind fun bt223 => (if bt223.1 = x1 then (spec_WalksFrom.l1 k x1 x2 x9 x10 x11 0 x215000 x215001) else (spec_WalksFrom.l0 k x1 x2 x9 x10 (wrap64 (x11 + 1)) x215000 x215001))) else (if x10 > 400 then (some (([] : List (List Int)), 3)) else ((spec_l03List.f k x215000 x215001 x1 x2).bind fun t220 => (some (t220, 0))))
def spec_WalksFrom.l1 : Nat → Int → Int → List (List Int) → Int → Int → Int → Int → List (List Int) → Option ((List (List Int)) × Int)
 | 0, _, _, _, _, _, _, _, _ => none
 | k + 1, x1, x2, x9, x10, x11, x14, x215000, x215001 => if x14 < (x9.length : Int) then (if 0 ≤ x11 then (if x11 < (x9.length : Int) then (if 0 ≤ x14 then (if x14 < ((rd_L1 x9 x11).length : Int) then (spec_WalksFrom.l1 k x1 x2 x9 (wrap64 (x10 + (rd (rd_L1 x9 x11) x14))) x11 (wrap64 (x14 + 1)) x215000 x215001) else (none)) else (none)) else (none)) else (none)) else (spec_WalksFrom.l0 k x1 x2 x9 x10 (wrap64 (x11 + 1)) x215000 x215001)
end
def spec_WalksFrom.f (k : Nat) (a0_0 : Int) (l0_1 : List (List Int)) (a1 : Int) (a2 : Int) : Option ((List (List Int)) × Int) := (spec_l03Length.f k a0_0 l0_1 a2 1).bind fun t215 => (if t215 = 0 then ((spec_l01In.f a1 0 (wrap64 (a0_0 - 1))).bind fun t216 => (spec_WalksFrom.j0 k a1 a2 t215 (!t216) a0_0 l0_1)) else (spec_WalksFrom.j0 k a1 a2 t215 false a0_0 l0_1))
set_option maxHeartbeats 8000000 in
set_option maxRecDepth 100000 in
theorem spec_WalksFrom.calls (k : Nat) (a0_0 : Int) (A0_1 : Option Addr) (c0_1 : Nat) (l0_1 : List (List Int)) (a1 : Int) (a2 : Int) (r1 : List (List Int)) (r2 : Int) (w : World) (hr0_1 : Kd.C (Kd.slice 2 (Kd.int .i64)) w A0_1 l0_1.length l0_1) (hc0_1 : l0_1.length ≤ c0_1) (h : spec_WalksFrom.f k a0_0 l0_1 a1 a2 = some (r1, r2)) :
  Calls Try.prog 24 #[.agg #[.int .i64 a0_0, .slice A0_1 l0_1.length c0_1], .int .i64 a1, .int .i64 a2] w fun e w' => ∃ v0_ : Value, e = .returned (.tuple #[v0_, .int .i64 r2]) ∧ Kd.S (Kd.slice 2 (Kd.int .i64)) 26 w' w.heap.size (fun _ => True) v0_ r1 ∧ Below w.heap.size w w' := by
 have hu29 := Try.underlying29
 have HR0_1 := Aside0.mk hr0_1
 have HC0_1 := Aside0.mk hc0_1
 clear hr0_1 hc0_1
 have HB := Aside0.mk (Below.refl w.heap.size w)
 have H : ((spec_l03Length.f k a0_0 l0_1 a2 1).bind fun t215 => (if t215 = 0 then ((spec_l01In.f a1 0 (wrap64 (a0_0 - 1))).bind fun t216 => (spec_WalksFrom.j0 k a1 a2 t215 (!t216) a0_0 l0_1)) else (spec_WalksFrom.j0 k a1 a2 t215 false a0_0 l0_1))) = some (r1, r2) := h
 clear h
 obtain ⟨t215, A4, H⟩ := bnd_ H
 have HC5 := Aside0.mk H
 clear H
 go_enter Try.func24, Try.ntmps24
 go_upto_region 2 with (first | ((with_reducible refine gate_dst (N := 3) rfl ?_); refine box_event ?hg (N := 3) ?hd (cs := #[.int .i64 a0_0, .slice A0_1 l0_1.length c0_1]) (t := 29) ?hr ?_; (case hd => rfl); (case hg => rfl); (case hr => first | (go_simp; done) | (go_simp; rfl)); intro gb214 hg w6 hbox hb; have BK214 := Aside0.mk (hbox); have GW214 := Aside0.mk ((by rw [hg]; exact (below_size hb_) : w.heap.size ≤ gb214)); have GE214 := Aside0.mk ((by rw [hg]; exact (below_size hb_) : w.heap.size ≤ gb214)); replace HB := Aside0.mk (below_step hb_ hb); clear hb hbox hg; have hcz7_0 : w6.cell? ⟨gb214, 0, none⟩ = some (.int .i64 a0_0) := (blk_cell BK214.out 0).trans rfl; have hcz7_1 : w6.cell? ⟨gb214, 1, none⟩ = some (.slice A0_1 l0_1.length c0_1) := (blk_cell BK214.out 1).trans rfl; have hfz7_0 := blk_frozen BK214.out 0; have hfz7_1 := blk_frozen BK214.out 1) | ((with_reducible refine gate_callee (f := 61) rfl ?_); refine goesL_ (some 17) rfl rfl Try.func61 (by kernel_rfl) rfl #[.agg #[.int .i64 a0_0, .slice A0_1 l0_1.length c0_1], .int .i64 a2, .int .i64 1] rfl arg_ ?_; (with_reducible refine (spec_l03Length.calls k a0_0 _ _ l0_1 a2 1 t215 _ ?side1 ?side2 A4.out).mono ?_); (case side1 => exact Kd.C_below (Kd.C_below HR0_1.out HB.out) bgo_); (case side2 => exact HC0_1.out); rintro e w8 ⟨rfl, hb⟩; refine ⟨_, rfl, ?_⟩; replace BK214 := Aside0.mk (blk_below (g := gb214) (o := .cells #[.int .i64 a0_0, .slice A0_1 l0_1.length c0_1] 29 (0, 0)) (blk_below BK214.out bgo_) hb); replace HB := Aside0.mk (below_step hbs_ hb); (try clear hb); (try clear hb2); (try clear hk); (try clear hi)))
 (try simp only [Act.put, List.setIfInBounds_toArray, List.set_cons_zero, List.set_cons_succ])
 go_cut [27] (fun v27 wc => ∃ (kq : Nat) (x27_4 : Bool), v27 = .bool x27_4 ∧ Aside0 (spec_WalksFrom.j0 kq a1 a2 t215 x27_4 a0_0 l0_1 = some (r1, r2)) ∧ Aside0 (kq ≤ k) ∧ Aside0 (wc.heap[gb214]? = some (.cells #[.int .i64 a0_0, (.slice A0_1 l0_1.length c0_1)] 29 (0, 0))) ∧ Aside0 (Below w.heap.size w wc))
 case first =>
  have H := HC5.out
  clear HC5
  by_cases c9 : t215 = 0
  ·rw [if_pos c9] at H
   have c9b0 : (t215 == 0) = true := beq_iff_eq.mpr c9
   have c9b1 : (t215 != 0) = false := bne_eq_false_iff_eq.mpr c9
   clear c9
   (first | rw [c9b0] | (simp only [i64_w, i32_w]; rw [c9b0]) | skip)
   obtain ⟨t216, A10, H⟩ := bnd_ H
   have H' := Aside0.mk H
   clear H
   have hcz11_0 : w8.cell? ⟨gb214, 0, none⟩ = some (.int .i64 a0_0) := (blk_cell BK214.out 0).trans rfl
   have hcz11_1 : w8.cell? ⟨gb214, 1, none⟩ = some (.slice A0_1 l0_1.length c0_1) := (blk_cell BK214.out 1).trans rfl
   have hfz11_0 := blk_frozen BK214.out 0
   have hfz11_1 := blk_frozen BK214.out 1
   go_wp2_with (first | (go_at_call 62; (with_reducible refine (spec_l01In.calls a1 0 (wrap64 (a0_0 - 1)) t216 _ A10.out).mono ?_); rintro e w' ⟨rfl, ⟨nd, rfl⟩⟩))
   go_meet
   case rel => exact ⟨_, (!t216), es_, H', ⟨by first | omega | exact Nat.le_refl _⟩, ⟨blk_below BK214.out bgo_⟩, ⟨hbs_⟩⟩
  ·rw [if_neg c9] at H
   have c9b0 : (t215 == 0) = false := beq_eq_false_iff_ne.mpr c9
   have c9b1 : (t215 != 0) = true := bne_iff_ne.mpr c9
   (first | rw [c9b0] | (simp only [i64_w, i32_w]; rw [c9b0]) | skip)
   have H' := Aside0.mk H
   clear H
   go_wp2
   go_meet
   case rel => exact ⟨_, (false), es_, H', ⟨by first | omega | exact Nat.le_refl _⟩, ⟨blk_below BK214.out bgo_⟩, ⟨hbs_⟩⟩
 case rest =>
  clear HC5
  obtain ⟨kq, x27_4, rfl, HA, HJ4, BK214, HB⟩ := hcut
  cases kq with
  | zero => exact absurd HA.out (by simp [spec_WalksFrom.j0])
  | succ kj4 =>
   have H := HA.out
   clear HA
   simp only [spec_WalksFrom.j0] at H
   have HC12 := Aside0.mk H
   clear H
   go_upto_if 27 with (fail)
   go_cut [8] (fun v8 wc => ∃ (kq : Nat) (x8_11 : Int), v8 = .int .i64 x8_11 ∧ Aside0 (spec_WalksFrom.j1 kq a1 a2 x8_11 a0_0 l0_1 = some (r1, r2)) ∧ Aside0 (kq ≤ kj4) ∧ Aside0 (wc.heap[gb214]? = some (.cells #[.int .i64 a0_0, (.slice A0_1 l0_1.length c0_1)] 29 (0, 0))) ∧ Aside0 (Below w.heap.size w wc))
   case first =>
    have H := HC12.out
    clear HC12
    by_cases c13 : x27_4 = true
    ·subst c13
     have H1 : (spec_WalksFrom.j1 kj4 a1 a2 2 a0_0 l0_1) = some (r1, r2) := by rw [if_pos rfl] at H; exact H
     clear H
     have H := H1
     clear H1
     have H' := Aside0.mk H
     clear H
     go_wp2
     go_meet
     case rel => exact ⟨_, (2), es_, H', ⟨by have := HJ4.out; first | omega | exact Nat.le_refl _⟩, ⟨blk_below BK214.out bgo_⟩, ⟨hbs_⟩⟩
    ·replace c13 := Bool.eq_false_iff.mpr c13
     subst c13
     have H1 : (spec_WalksFrom.j1 kj4 a1 a2 t215 a0_0 l0_1) = some (r1, r2) := by rw [if_neg (show ¬ (false = true) by decide)] at H; exact H
     clear H
     have H := H1
     clear H1
     have H' := Aside0.mk H
     clear H
     go_wp2
     go_meet
     case rel => exact ⟨_, (t215), es_, H', ⟨by have := HJ4.out; first | omega | exact Nat.le_refl _⟩, ⟨blk_below BK214.out bgo_⟩, ⟨hbs_⟩⟩
   case rest =>
    clear HC12
    obtain ⟨kq, x8_11, rfl, HA, HJ11, BK214, HB⟩ := hcut
    cases kq with
    | zero => exact absurd HA.out (by simp [spec_WalksFrom.j1])
    | succ kj11 =>
     have H := HA.out
     clear HA
     simp only [spec_WalksFrom.j1] at H
     by_cases c14 : x8_11 = 0
     ·rw [if_pos c14] at H
      have c14b0 : (x8_11 == 0) = true := beq_iff_eq.mpr c14
      have c14b1 : (x8_11 != 0) = false := bne_eq_false_iff_eq.mpr c14
      clear c14
      obtain ⟨t217, A15, H⟩ := bnd_ H
      have H' := Aside0.mk H
      clear H
      have hcz16_0 : wc.cell? ⟨gb214, 0, none⟩ = some (.int .i64 a0_0) := (blk_cell BK214.out 0).trans rfl
      have hcz16_1 : wc.cell? ⟨gb214, 1, none⟩ = some (.slice A0_1 l0_1.length c0_1) := (blk_cell BK214.out 1).trans rfl
      have hfz16_0 := blk_frozen BK214.out 0
      have hfz16_1 := blk_frozen BK214.out 1
      go_wp2_with (first | ((with_reducible refine gate_callee (f := 63) rfl ?_); refine goesL_ (some 33) rfl rfl Try.func63 (by kernel_rfl) rfl #[.agg #[.int .i64 a0_0, .slice A0_1 l0_1.length c0_1], .int .i64 a2] rfl arg_ ?_; (with_reducible refine (spec_l03Rows.calls kj11 a0_0 _ _ l0_1 a2 t217 _ ?side1 ?side2 A15.out).mono ?_); (case side1 => exact Kd.C_below (Kd.C_below HR0_1.out HB.out) bgo_); (case side2 => exact HC0_1.out); rintro e w17 ⟨v218, rfl, ho0, hb⟩; refine ⟨_, rfl, ?_⟩; have HO219 := Aside0.mk (Kd.S_lower ho0 (below_size hbs_)); replace BK214 := Aside0.mk (blk_below (g := gb214) (o := .cells #[.int .i64 a0_0, .slice A0_1 l0_1.length c0_1] 29 (0, 0)) (blk_below BK214.out bgo_) hb); replace HB := Aside0.mk (below_step hbs_ hb); (try clear hb); (try clear hb2); (try clear hk); (try clear hi); (try clear ho0)))
      go_loopg [10, 11] kj11 (fun kq v10 v11 w' => ∃ (x10_3 : Int) (x11_3 : Int), v10 = .int .i64 x10_3 ∧ v11 = .int .i64 x11_3 ∧ Aside0 (spec_WalksFrom.l0 kq a1 a2 t217 x10_3 x11_3 a0_0 l0_1 = some (r1, r2)) ∧ Aside0 (kq ≤ kj11) ∧ Aside0 (Kd.S (Kd.slice 2 (Kd.int .i64)) 26 w' w.heap.size (fun _ => True) v218 t217) ∧ Aside0 (w'.heap[gb214]? = some (.cells #[.int .i64 a0_0, (.slice A0_1 l0_1.length c0_1)] 29 (0, 0))) ∧ Aside0 (Below w.heap.size w w'))
      case atStart => exact ⟨(0), (0), es_, es_, H', ⟨Nat.le_refl _⟩, ⟨Kd.S_below HO219.out bgo_⟩, ⟨blk_below BK214.out bgo_⟩, ⟨hbs_⟩⟩
      case round =>
       clear H'
       obtain ⟨x10_3, x11_3, rfl, rfl, HA, HK3, HO_9, BK214, HB⟩ := hrel
       cases gk with
       | zero => exact absurd HA.out (by simp [spec_WalksFrom.l0])
       | succ k3 =>
        have H := HA.out
        clear HA
        simp only [spec_WalksFrom.l0] at H
        by_cases c18 : x11_3 < (t217.length : Int)
        ·rw [if_pos c18] at H
         have c18b0 := decide_eq_true c18
         clear c18
         obtain ⟨⟨t223, t224⟩, A19, H⟩ := bnd_ H
         dsimp only at H
         by_cases c20 : t223 = a1
         ·rw [if_pos c20] at H
          have c20b0 : (t223 == a1) = true := beq_iff_eq.mpr c20
          have c20b1 : (t223 != a1) = false := bne_eq_false_iff_eq.mpr c20
          clear c20
          have H' := Aside0.mk H
          clear H
          obtain ⟨Ao21, co21, eo21⟩ := Kd.S_slice HO_9.out
          subst eo21
          have hcz22_0 : wr.cell? ⟨gb214, 0, none⟩ = some (.int .i64 a0_0) := (blk_cell BK214.out 0).trans rfl
          have hcz22_1 : wr.cell? ⟨gb214, 1, none⟩ = some (.slice A0_1 l0_1.length c0_1) := (blk_cell BK214.out 1).trans rfl
          have hfz22_0 := blk_frozen BK214.out 0
          have hfz22_1 := blk_frozen BK214.out 1
          go_wp2_with (first | ((with_reducible refine gate_callee (f := 64) rfl ?_); refine goesL_ (some 43) rfl rfl Try.func64 (by kernel_rfl) rfl #[.agg #[.int .i64 a0_0, .slice A0_1 l0_1.length c0_1], .int .i64 x11_3] rfl arg_ ?_; (with_reducible refine (spec_l01Ends.calls a0_0 _ _ l0_1 x11_3 t223 t224 _ ?side1 ?side2 A19.out).mono ?_); (case side1 => exact Kd.C_below (Kd.C_below HR0_1.out HB.out) bgo_); (case side2 => exact HC0_1.out); rintro e w23 ⟨rfl, hb⟩; refine ⟨_, rfl, ?_⟩; replace HO_9 := Aside0.mk (Kd.S_below (Kd.S_below HO_9.out bgo_) hb); replace BK214 := Aside0.mk (blk_below (g := gb214) (o := .cells #[.int .i64 a0_0, .slice A0_1 l0_1.length c0_1] 29 (0, 0)) (blk_below BK214.out bgo_) hb); replace HB := Aside0.mk (below_step hbs_ hb); (try clear hb); (try clear hb2); (try clear hk); (try clear hi)))
          go_loopg [10, 14] k3 (fun kq v10 v14 w' => ∃ (x10_4 : Int) (x14_4 : Int), v10 = .int .i64 x10_4 ∧ v14 = .int .i64 x14_4 ∧ Aside0 (spec_WalksFrom.l1 kq a1 a2 t217 x10_4 x11_3 x14_4 a0_0 l0_1 = some (r1, r2)) ∧ Aside0 (kq ≤ k3) ∧ Aside0 (Kd.S (Kd.slice 2 (Kd.int .i64)) 26 w' w.heap.size (fun _ => True) (.slice Ao21 t217.length co21) t217) ∧ Aside0 (w'.heap[gb214]? = some (.cells #[.int .i64 a0_0, (.slice A0_1 l0_1.length c0_1)] 29 (0, 0))) ∧ Aside0 (Below w.heap.size w w'))
          case atStart => exact ⟨(x10_3), (0), es_, es_, H', ⟨Nat.le_refl _⟩, ⟨Kd.S_below HO_9.out bgo_⟩, ⟨blk_below BK214.out bgo_⟩, ⟨hbs_⟩⟩
          case round =>
           clear H'
           obtain ⟨x10_4, x14_4, rfl, rfl, HA, HK4, HO_9, BK214, HB⟩ := hrel
           cases gk with
           | zero => exact absurd HA.out (by simp [spec_WalksFrom.l1])
           | succ k4 =>
            have H := HA.out
            clear HA
            simp only [spec_WalksFrom.l1] at H
            by_cases c24 : x14_4 < (t217.length : Int)
            ·rw [if_pos c24] at H
             have c24b0 := decide_eq_true c24
             clear c24
             obtain ⟨c25, H⟩ := itn_ H
             have c25b0 := decide_eq_true c25
             clear c25
             obtain ⟨c26, H⟩ := itn_ H
             have c26b0 := decide_eq_true c26
             clear c26
             obtain ⟨c27, H⟩ := itn_ H
             have c27b0 := decide_eq_true c27
             clear c27
             obtain ⟨c28, H⟩ := itn_ H
             have c28b0 := decide_eq_true c28
             clear c28
             have H' := Aside0.mk H
             clear H
             have p225 : 0 ≤ (x11_3 : Int) := od_
             have q225 : x11_3 < (t217.length : Int) := od_
             obtain ⟨ad225, A225_0, c225_0, e225, hx225_0, hl225_0, hi225_0⟩ := at_L1 (Kd.S_reads' HO_9.out).2.2 x11_3 p225 q225
             cases e225
             obtain ⟨ce225, hce225, hMe225, hcc225⟩ := Kd.S_get HO_9.out [] x11_3 p225 (by first | exact q225 | exact od_ | (have e_ := (Kd.S_reads' HO_9.out).1; omega))
             obtain ⟨ve225_0, rfl, ge225_0⟩ := hMe225
             have hv225_0 := hcc225 0 _ rfl
             rw [Nat.add_zero, show ((Kd.slice 2 (Kd.int .i64))).sz = 1 from rfl, Nat.mul_one] at hv225_0
             replace hv225_0 := Option.some.inj (hv225_0.symm.trans hx225_0)
             rw [hv225_0] at ge225_0
             have HL225_0 := Aside0.mk (show Kd.R (Kd.int .i64) 2 _ _ _ _ (rd_L1 t217 x11_3) from ge225_0)
             clear hv225_0 ge225_0
             clear hcc225 hce225
             have HR225_0 := Aside0.mk hi225_0
             have HC225_0 := Aside0.mk hl225_0
             clear hi225_0 hl225_0
             replace p225 := eq_true p225
             replace q225 := eq_true q225
             have p226 : 0 ≤ (x14_4 : Int) := od_
             have q226 : x14_4 < ((rd_L1 t217 x11_3).length : Int) := od_
             obtain ⟨ad226, e226, hx226_0⟩ := Kd.at_int (by repeat (first | (with_reducible exact HR225_0.out) | (with_reducible refine Kd.C_alloc ?_ _) | (with_reducible refine Kd.C_drewN ?_ _) | (with_reducible refine Kd.C_drew ?_) | exact HR225_0.out)) x14_4 p226 q226
             cases e226
             replace p226 := eq_true p226
             replace q226 := eq_true q226
             go_wp2
             first | go_roundg k4 | (refine Handed.intro k4 ?measure ?_; rotate_left; go_step; (try simp only [add_plain]); (repeat apply Exists.intro); refine ⟨?rel, rfl⟩)
             case measure => have := HJ4.out; have := HJ11.out; have := HK3.out; have := HK4.out; omega
             case rel => exact ⟨(wrap64 (x10_4 + (rd (rd_L1 t217 x11_3) x14_4))), (wrap64 (x14_4 + 1)), es_, es_, H', ⟨by have := HJ4.out; have := HJ11.out; have := HK3.out; have := HK4.out; omega⟩, ⟨Kd.S_below HO_9.out bgo_⟩, ⟨blk_below BK214.out bgo_⟩, ⟨hbs_⟩⟩
            ·rw [if_neg c24] at H
             have c24b0 := decide_eq_false c24
             clear c24
             have H' := Aside0.mk H
             clear H
             go_wp2
             first | go_roundg k4 | (refine Handed.intro k4 ?measure ?_; rotate_left; go_step; (try simp only [add_plain]); (repeat apply Exists.intro); refine ⟨?rel, rfl⟩)
             case measure => have := HJ4.out; have := HJ11.out; have := HK3.out; have := HK4.out; omega
             case rel => exact ⟨(x10_4), (wrap64 (x11_3 + 1)), es_, es_, H', ⟨by have := HJ4.out; have := HJ11.out; have := HK3.out; have := HK4.out; omega⟩, ⟨Kd.S_below HO_9.out bgo_⟩, ⟨blk_below BK214.out bgo_⟩, ⟨hbs_⟩⟩
         ·rw [if_neg c20] at H
          have c20b0 : (t223 == a1) = false := beq_eq_false_iff_ne.mpr c20
          have c20b1 : (t223 != a1) = true := bne_iff_ne.mpr c20
          have H' := Aside0.mk H
          clear H
          obtain ⟨Ao29, co29, eo29⟩ := Kd.S_slice HO_9.out
          subst eo29
          have hcz30_0 : wr.cell? ⟨gb214, 0, none⟩ = some (.int .i64 a0_0) := (blk_cell BK214.out 0).trans rfl
          have hcz30_1 : wr.cell? ⟨gb214, 1, none⟩ = some (.slice A0_1 l0_1.length c0_1) := (blk_cell BK214.out 1).trans rfl
          have hfz30_0 := blk_frozen BK214.out 0
          have hfz30_1 := blk_frozen BK214.out 1
          go_wp2_with (first | ((with_reducible refine gate_callee (f := 64) rfl ?_); refine goesL_ (some 43) rfl rfl Try.func64 (by kernel_rfl) rfl #[.agg #[.int .i64 a0_0, .slice A0_1 l0_1.length c0_1], .int .i64 x11_3] rfl arg_ ?_; (with_reducible refine (spec_l01Ends.calls a0_0 _ _ l0_1 x11_3 t223 t224 _ ?side1 ?side2 A19.out).mono ?_); (case side1 => exact Kd.C_below (Kd.C_below HR0_1.out HB.out) bgo_); (case side2 => exact HC0_1.out); rintro e w31 ⟨rfl, hb⟩; refine ⟨_, rfl, ?_⟩; replace HO_9 := Aside0.mk (Kd.S_below (Kd.S_below HO_9.out bgo_) hb); replace BK214 := Aside0.mk (blk_below (g := gb214) (o := .cells #[.int .i64 a0_0, .slice A0_1 l0_1.length c0_1] 29 (0, 0)) (blk_below BK214.out bgo_) hb); replace HB := Aside0.mk (below_step hbs_ hb); (try clear hb); (try clear hb2); (try clear hk); (try clear hi)))
          first | go_roundg k3 | (refine Handed.intro k3 ?measure ?_; rotate_left; go_step; (try simp only [add_plain]); (repeat apply Exists.intro); refine ⟨?rel, rfl⟩)
          case measure => have := HJ4.out; have := HJ11.out; have := HK3.out; omega
          case rel => exact ⟨(x10_3), (wrap64 (x11_3 + 1)), es_, es_, H', ⟨by have := HJ4.out; have := HJ11.out; have := HK3.out; omega⟩, ⟨Kd.S_below HO_9.out bgo_⟩, ⟨blk_below BK214.out bgo_⟩, ⟨hbs_⟩⟩
        ·rw [if_neg c18] at H
         have c18b0 := decide_eq_false c18
         clear c18
         by_cases c32 : x10_3 > 400
         ·rw [if_pos c32] at H
          have c32b0 := decide_eq_true c32
          clear c32
          simp only [Option.some.injEq, Prod.mk.injEq] at H
          obtain ⟨rfl, rfl⟩ := H
          obtain ⟨Ao33, co33, eo33⟩ := Kd.S_slice HO_9.out
          subst eo33
          go_wp2
          go_ret2
          exact ⟨_, er_, by first | exact Kd.S_nil _ _ _ _ _ | exact Kd.N_nil _ _ _ _ _ | exact Kd.V_nil _ _ _ _ _ | exact Kd.Q_nil _ _ _ _ _ | exact Kd.R_nil _ _ _ _ _, hbs_⟩
         ·rw [if_neg c32] at H
          have c32b0 := decide_eq_false c32
          clear c32
          obtain ⟨t220, A34, H⟩ := bnd_ H
          simp only [Option.some.injEq, Prod.mk.injEq] at H
          obtain ⟨rfl, rfl⟩ := H
          obtain ⟨Ao35, co35, eo35⟩ := Kd.S_slice HO_9.out
          subst eo35
          have hcz36_0 : wr.cell? ⟨gb214, 0, none⟩ = some (.int .i64 a0_0) := (blk_cell BK214.out 0).trans rfl
          have hcz36_1 : wr.cell? ⟨gb214, 1, none⟩ = some (.slice A0_1 l0_1.length c0_1) := (blk_cell BK214.out 1).trans rfl
          have hfz36_0 := blk_frozen BK214.out 0
          have hfz36_1 := blk_frozen BK214.out 1
          go_wp2_with (first | ((with_reducible refine gate_callee (f := 65) rfl ?_); refine goesL_ (some 69) rfl rfl Try.func65 (by kernel_rfl) rfl #[.agg #[.int .i64 a0_0, .slice A0_1 l0_1.length c0_1], .int .i64 a1, .int .i64 a2] rfl arg_ ?_; (with_reducible refine (spec_l03List.calls k3 a0_0 _ _ l0_1 a1 a2 t220 _ ?side1 ?side2 A34.out).mono ?_); (case side1 => exact Kd.C_below (Kd.C_below HR0_1.out HB.out) bgo_); (case side2 => exact HC0_1.out); rintro e w37 ⟨v221, rfl, ho0, hb⟩; refine ⟨_, rfl, ?_⟩; have HO222 := Aside0.mk (Kd.S_lower (Kd.S_new' ho0 (Kd.S_lt (Kd.S_below HO_9.out bgo_))) (below_size hbs_)); replace HO_9 := Aside0.mk (Kd.S_elder' (Kd.S_below HO_9.out bgo_) (Kd.S_base ho0) hb); replace BK214 := Aside0.mk (blk_below (g := gb214) (o := .cells #[.int .i64 a0_0, .slice A0_1 l0_1.length c0_1] 29 (0, 0)) (blk_below BK214.out bgo_) hb); replace HB := Aside0.mk (below_step hbs_ hb); (try clear hb); (try clear hb2); (try clear hk); (try clear hi); (try clear ho0)))
          go_ret2
          exact ⟨_, er_, by (with_reducible repeat (first | apply Kd.S_alloc | apply Kd.S_drewN | apply Kd.S_drew)); exact Kd.S_mono HO222.out (fun _ hk => trivial), hbs_⟩
     ·rw [if_neg c14] at H
      have c14b0 : (x8_11 == 0) = false := beq_eq_false_iff_ne.mpr c14
      have c14b1 : (x8_11 != 0) = true := bne_iff_ne.mpr c14
      simp only [Option.some.injEq, Prod.mk.injEq] at H
      obtain ⟨rfl, rfl⟩ := H
      go_wp2
      go_ret2
      exact ⟨_, er_, by first | exact Kd.S_nil _ _ _ _ _ | exact Kd.N_nil _ _ _ _ _ | exact Kd.V_nil _ _ _ _ _ | exact Kd.Q_nil _ _ _ _ _ | exact Kd.R_nil _ _ _ _ _, hbs_⟩

/-! ### impl_within: function 58 -/
def impl_within.f (a0 : Int) (a1 : Int) (a2 : Int) : Option (Bool) := if a0 ≥ a1 then (some (decide (a0 ≤ a2))) else (some false)
set_option maxHeartbeats 8000000 in
set_option maxRecDepth 100000 in
theorem impl_within.calls (a0 : Int) (a1 : Int) (a2 : Int) (r : Bool) (w : World) (h : impl_within.f a0 a1 a2 = some r) :
  Calls Try.prog 58 #[.int .i64 a0, .int .i64 a1, .int .i64 a2] w fun e w' => e = .returned (.bool r) ∧ Drawn0 w w' := by
 have H : (if a0 ≥ a1 then (some (decide (a0 ≤ a2))) else (some false)) = some r := h
 clear h
 by_cases c4 : a0 ≥ a1
 ·rw [if_pos c4] at H
  have c4b0 := decide_eq_true c4
  clear c4
  obtain rfl := Option.some.inj H
  go_enter Try.func58, Try.ntmps58
  go_wp2
  go_ret
  exact ⟨es_, by repeat (first | exact Drawn0.refl _ | apply Drawn0.step)⟩
 ·rw [if_neg c4] at H
  have c4b0 := decide_eq_false c4
  clear c4
  obtain rfl := Option.some.inj H
  go_enter Try.func58, Try.ntmps58
  go_wp2
  go_ret
  exact ⟨es_, by repeat (first | exact Drawn0.refl _ | apply Drawn0.step)⟩

/-! ### impl_IsGraph: function 46 -/
def impl_IsGraph.l0 : Nat → List (List Int) → Int → Int → Int → List (List Int) → Option (Bool)
 | 0, _, _, _, _, _ => none
 | k + 1, x6, x7, x8, x228000, x228001 => if x8 < x7 then (if 0 ≤ x8 then (if x8 < (x6.length : Int) then (if ((rd_L1 x6 x8).length : Int) = 2 then (if 0 < ((rd_L1 x6 x8).length : Int) then ((impl_within.f (rd (rd_L1 x6 x8) 0) 0 (wrap64 (x228000 - 1))).bind fun t231 => (if t231 = true then (if 1 < ((rd_L1 x6 x8).length : Int) then ((impl_within.f (rd (rd_L1 x6 x8) 1) 0 (wrap64 (x228000 - 1))).bind fun t233 => (if t233 = true then (impl_IsGraph.l0 k x6 x7 (wrap64 (x8 + 1)) x228000 x228001) else (some false))) else (none)) else (some false))) else (none)) else (some false)) else (none)) else (none)) else ((impl_within.f x228000 1 8).bind fun t228 => (if t228 = true then (some (decide ((x228001.length : Int) ≤ 10))) else (some false)))
def impl_IsGraph.f (k : Nat) (a0_0 : Int) (l0_1 : List (List Int)) : Option (Bool) := impl_IsGraph.l0 k l0_1 (l0_1.length : Int) 0 a0_0 l0_1
set_option maxHeartbeats 8000000 in
set_option maxRecDepth 100000 in
theorem impl_IsGraph.calls (k : Nat) (a0_0 : Int) (A0_1 : Option Addr) (c0_1 : Nat) (l0_1 : List (List Int)) (r : Bool) (w : World) (hr0_1 : Kd.C (Kd.slice 2 (Kd.int .i64)) w A0_1 l0_1.length l0_1) (hc0_1 : l0_1.length ≤ c0_1) (h : impl_IsGraph.f k a0_0 l0_1 = some r) :
  Calls Try.prog 46 #[.agg #[.int .i64 a0_0, .slice A0_1 l0_1.length c0_1]] w fun e w' => e = .returned (.bool r) ∧ Below w.heap.size w w' := by
 have hu29 := Try.underlying29
 have HR0_1 := Aside0.mk hr0_1
 have HC0_1 := Aside0.mk hc0_1
 clear hr0_1 hc0_1
 have HB := Aside0.mk (Below.refl w.heap.size w)
 have H : (impl_IsGraph.l0 k l0_1 (l0_1.length : Int) 0 a0_0 l0_1) = some r := h
 clear h
 have H' := Aside0.mk H
 clear H
 go_enter Try.func46, Try.ntmps46
 go_wp2_with (first | ((with_reducible refine gate_dst (N := 1) rfl ?_); (try (refine gate_guard (by rfl) ?_; dsimp only)); refine box_event ?hg (N := 1) ?hd (cs := #[.int .i64 a0_0, .slice A0_1 l0_1.length c0_1]) (t := 29) ?hr ?_; (case hd => rfl); (case hg => rfl); (case hr => first | (go_simp; done) | (go_simp; rfl)); intro gb227 hg w2 hbox hb; have BK227 := Aside0.mk (hbox); have GW227 := Aside0.mk ((by rw [hg]; exact (below_size hb_) : w.heap.size ≤ gb227)); have GE227 := Aside0.mk ((by rw [hg]; exact (below_size hb_) : w.heap.size ≤ gb227)); replace HB := Aside0.mk (below_step hb_ hb); clear hb hbox hg; have hcz3_0 : w2.cell? ⟨gb227, 0, none⟩ = some (.int .i64 a0_0) := (blk_cell BK227.out 0).trans rfl; have hcz3_1 : w2.cell? ⟨gb227, 1, none⟩ = some (.slice A0_1 l0_1.length c0_1) := (blk_cell BK227.out 1).trans rfl; have hfz3_0 := blk_frozen BK227.out 0; have hfz3_1 := blk_frozen BK227.out 1))
 repeat (go_quiet (first | ((with_reducible refine gate_dst (N := 1) rfl ?_); (try (refine gate_guard (by rfl) ?_; dsimp only)); refine box_event ?hg (N := 1) ?hd (cs := #[.int .i64 a0_0, .slice A0_1 l0_1.length c0_1]) (t := 29) ?hr ?_; (case hd => rfl); (case hg => rfl); (case hr => first | (go_simp; done) | (go_simp; rfl)); intro gb227 hg w2 hbox hb; have BK227 := Aside0.mk (hbox); have GW227 := Aside0.mk ((by rw [hg]; exact (below_size hb_) : w.heap.size ≤ gb227)); have GE227 := Aside0.mk ((by rw [hg]; exact (below_size hb_) : w.heap.size ≤ gb227)); replace HB := Aside0.mk (below_step hb_ hb); clear hb hbox hg; have hcz3_0 : w2.cell? ⟨gb227, 0, none⟩ = some (.int .i64 a0_0) := (blk_cell BK227.out 0).trans rfl; have hcz3_1 : w2.cell? ⟨gb227, 1, none⟩ = some (.slice A0_1 l0_1.length c0_1) := (blk_cell BK227.out 1).trans rfl; have hfz3_0 := blk_frozen BK227.out 0; have hfz3_1 := blk_frozen BK227.out 1)); try go_wp2_with (first | ((with_reducible refine gate_dst (N := 1) rfl ?_); (try (refine gate_guard (by rfl) ?_; dsimp only)); refine box_event ?hg (N := 1) ?hd (cs := #[.int .i64 a0_0, .slice A0_1 l0_1.length c0_1]) (t := 29) ?hr ?_; (case hd => rfl); (case hg => rfl); (case hr => first | (go_simp; done) | (go_simp; rfl)); intro gb227 hg w2 hbox hb; have BK227 := Aside0.mk (hbox); have GW227 := Aside0.mk ((by rw [hg]; exact (below_size hb_) : w.heap.size ≤ gb227)); have GE227 := Aside0.mk ((by rw [hg]; exact (below_size hb_) : w.heap.size ≤ gb227)); replace HB := Aside0.mk (below_step hb_ hb); clear hb hbox hg; have hcz3_0 : w2.cell? ⟨gb227, 0, none⟩ = some (.int .i64 a0_0) := (blk_cell BK227.out 0).trans rfl; have hcz3_1 : w2.cell? ⟨gb227, 1, none⟩ = some (.slice A0_1 l0_1.length c0_1) := (blk_cell BK227.out 1).trans rfl; have hfz3_0 := blk_frozen BK227.out 0; have hfz3_1 := blk_frozen BK227.out 1)))
 go_loopg [8] k (fun kq v8 w' => ∃ (x8_1 : Int), v8 = .int .i64 x8_1 ∧ Aside0 (impl_IsGraph.l0 kq l0_1 (l0_1.length : Int) x8_1 a0_0 l0_1 = some r) ∧ Aside0 (kq ≤ k) ∧ Aside0 (w'.heap[gb227]? = some (.cells #[.int .i64 a0_0, (.slice A0_1 l0_1.length c0_1)] 29 (0, 0))) ∧ Aside0 (Below w.heap.size w w'))
 case atStart => exact ⟨(0), es_, H', ⟨Nat.le_refl _⟩, ⟨blk_below BK227.out bgo_⟩, ⟨hbs_⟩⟩
 case round =>
  clear H'
  obtain ⟨x8_1, rfl, HA, HK1, BK227, HB⟩ := hrel
  cases gk with
  | zero => exact absurd HA.out (by simp [impl_IsGraph.l0])
  | succ k1 =>
   have H := HA.out
   clear HA
   simp only [impl_IsGraph.l0] at H
   by_cases c4 : x8_1 < (l0_1.length : Int)
   ·rw [if_pos c4] at H
    have c4b0 := decide_eq_true c4
    clear c4
    obtain ⟨c5, H⟩ := itn_ H
    have c5b0 := decide_eq_true c5
    clear c5
    obtain ⟨c6, H⟩ := itn_ H
    have c6b0 := decide_eq_true c6
    clear c6
    by_cases c7 : ((rd_L1 l0_1 x8_1).length : Int) = 2
    ·rw [if_pos c7] at H
     have c7b0 : (((rd_L1 l0_1 x8_1).length : Int) == 2) = true := beq_iff_eq.mpr c7
     have c7b1 : (((rd_L1 l0_1 x8_1).length : Int) != 2) = false := bne_eq_false_iff_eq.mpr c7
     clear c7
     obtain ⟨c8, H⟩ := itn_ H
     have c8b0 := decide_eq_true c8
     have c8b1 : decide (0 < (rd_L1 l0_1 x8_1).length) = true := decide_eq_true (by omega)
     clear c8
     obtain ⟨t231, A9, H⟩ := bnd_ H
     by_cases c10 : t231 = true
     ·subst c10
      have H1 : (if 1 < ((rd_L1 l0_1 x8_1).length : Int) then ((impl_within.f (rd (rd_L1 l0_1 x8_1) 1) 0 (wrap64 (a0_0 - 1))).bind fun t233 => (if t233 = true then (impl_IsGraph.l0 k1 l0_1 (l0_1.length : Int) (wrap64 (x8_1 + 1)) a0_0 l0_1) else (some false))) else (none)) = some r := by rw [if_pos rfl] at H; exact H
      clear H
      have H := H1
      clear H1
      obtain ⟨c11, H⟩ := itn_ H
      have c11b0 := decide_eq_true c11
      have c11b1 : decide (1 < (rd_L1 l0_1 x8_1).length) = true := decide_eq_true (by omega)
      clear c11
      obtain ⟨t233, A12, H⟩ := bnd_ H
      by_cases c13 : t233 = true
      ·subst c13
       have H1 : (impl_IsGraph.l0 k1 l0_1 (l0_1.length : Int) (wrap64 (x8_1 + 1)) a0_0 l0_1) = some r := by rw [if_pos rfl] at H; exact H
       clear H
       have H := H1
       clear H1
       have H' := Aside0.mk H
       clear H
       have p229 : 0 ≤ (x8_1 : Int) := od_
       have q229 : x8_1 < (l0_1.length : Int) := od_
       obtain ⟨ad229, A229_0, c229_0, e229, hx229_0, hl229_0, hi229_0⟩ := at_L1 HR0_1.out x8_1 p229 q229
       cases e229
       (try replace hx229_0 := (HB.out.cell (World.block_lt_of_cell? w _ hx229_0)).trans hx229_0)
       have HR229_0 := Aside0.mk hi229_0
       have HC229_0 := Aside0.mk hl229_0
       clear hi229_0 hl229_0
       replace p229 := eq_true p229
       replace q229 := eq_true q229
       have p230 : 0 ≤ (0 : Int) := (by omega)
       have q230 : 0 < ((rd_L1 l0_1 x8_1).length : Int) := od_
       obtain ⟨ad230, e230, hx230_0⟩ := Kd.at_int HR229_0.out 0 p230 q230
       cases e230
       have qi230 : (0 < (rd_L1 l0_1 x8_1).length) = True := eq_true (by omega)
       (try rw [show ((0 : Int)).toNat = 0 from rfl] at hx230_0)
       (try rw [Addr.add_zero'] at hx230_0)
       (try replace hx230_0 := (HB.out.cell (World.block_lt_of_cell? w _ hx230_0)).trans hx230_0)
       replace p230 := eq_true p230
       replace q230 := eq_true q230
       have hcz14_0 : wr.cell? ⟨gb227, 0, none⟩ = some (.int .i64 a0_0) := (blk_cell BK227.out 0).trans rfl
       have hcz14_1 : wr.cell? ⟨gb227, 1, none⟩ = some (.slice (some ad229) l0_1.length c0_1) := (blk_cell BK227.out 1).trans rfl
       have hfz14_0 := blk_frozen BK227.out 0
       have hfz14_1 := blk_frozen BK227.out 1
       have p232 : 0 ≤ (1 : Int) := (by omega)
       have q232 : 1 < ((rd_L1 l0_1 x8_1).length : Int) := od_
       obtain ⟨ad232, e232, hx232_0⟩ := Kd.at_int HR229_0.out 1 p232 q232
       obtain rfl : ad230 = ad232 := (by injection e232)
       (try simp only [show (1 : Int).toNat = 1 from rfl, Nat.reduceMul, Nat.reduceEqDiff, Go.Addr.add, ↓reduceIte] at hx232_0)
       have qi232 : (1 < (rd_L1 l0_1 x8_1).length) = True := eq_true (by omega)
       (try rw [show ((1 : Int)).toNat = 1 from rfl] at hx232_0)
       (try replace hx232_0 := (HB.out.cell (World.block_lt_of_cell? w _ hx232_0)).trans hx232_0)
       replace p232 := eq_true p232
       replace q232 := eq_true q232
       go_wp2_with (first | (go_at_call 58; (with_reducible refine (impl_within.calls (rd (rd_L1 l0_1 x8_1) 0) 0 (wrap64 (a0_0 - 1)) true _ A9.out).mono ?_); rintro e w' ⟨rfl, ⟨nd, rfl⟩⟩; (try first | exact ⟨rfl, _, World.drewN_drewN _ _ _⟩ | exact ⟨rfl, _, Eq.trans (World.drewN_drewN _ _ _) (congrArg (World.drewN _) (Nat.add_assoc _ _ _))⟩)) | (go_at_call 58; (with_reducible refine (impl_within.calls (rd (rd_L1 l0_1 x8_1) 1) 0 (wrap64 (a0_0 - 1)) true _ A12.out).mono ?_); rintro e w' ⟨rfl, ⟨nd, rfl⟩⟩; (try first | exact ⟨rfl, _, World.drewN_drewN _ _ _⟩ | exact ⟨rfl, _, Eq.trans (World.drewN_drewN _ _ _) (congrArg (World.drewN _) (Nat.add_assoc _ _ _))⟩)))
       repeat (go_quiet (first | (go_at_call 58; (with_reducible refine (impl_within.calls (rd (rd_L1 l0_1 x8_1) 0) 0 (wrap64 (a0_0 - 1)) true _ A9.out).mono ?_); rintro e w' ⟨rfl, ⟨nd, rfl⟩⟩; (try first | exact ⟨rfl, _, World.drewN_drewN _ _ _⟩ | exact ⟨rfl, _, Eq.trans (World.drewN_drewN _ _ _) (congrArg (World.drewN _) (Nat.add_assoc _ _ _))⟩)) | (go_at_call 58; (with_reducible refine (impl_within.calls (rd (rd_L1 l0_1 x8_1) 1) 0 (wrap64 (a0_0 - 1)) true _ A12.out).mono ?_); rintro e w' ⟨rfl, ⟨nd, rfl⟩⟩; (try first | exact ⟨rfl, _, World.drewN_drewN _ _ _⟩ | exact ⟨rfl, _, Eq.trans (World.drewN_drewN _ _ _) (congrArg (World.drewN _) (Nat.add_assoc _ _ _))⟩))); try go_wp2_with (first | (go_at_call 58; (with_reducible refine (impl_within.calls (rd (rd_L1 l0_1 x8_1) 0) 0 (wrap64 (a0_0 - 1)) true _ A9.out).mono ?_); rintro e w' ⟨rfl, ⟨nd, rfl⟩⟩; (try first | exact ⟨rfl, _, World.drewN_drewN _ _ _⟩ | exact ⟨rfl, _, Eq.trans (World.drewN_drewN _ _ _) (congrArg (World.drewN _) (Nat.add_assoc _ _ _))⟩)) | (go_at_call 58; (with_reducible refine (impl_within.calls (rd (rd_L1 l0_1 x8_1) 1) 0 (wrap64 (a0_0 - 1)) true _ A12.out).mono ?_); rintro e w' ⟨rfl, ⟨nd, rfl⟩⟩; (try first | exact ⟨rfl, _, World.drewN_drewN _ _ _⟩ | exact ⟨rfl, _, Eq.trans (World.drewN_drewN _ _ _) (congrArg (World.drewN _) (Nat.add_assoc _ _ _))⟩))))
       go_roundg k1
       case measure => have := HK1.out; omega
       case rel => exact ⟨(wrap64 (x8_1 + 1)), es_, H', ⟨by have := HK1.out; omega⟩, ⟨blk_below BK227.out bgo_⟩, ⟨hbs_⟩⟩
      ·replace c13 := Bool.eq_false_iff.mpr c13
       subst c13
       have H1 : (some false) = some r := by rw [if_neg (show ¬ (false = true) by decide)] at H; exact H
       clear H
       have H := H1
       clear H1
       obtain rfl := Option.some.inj H
       have p229 : 0 ≤ (x8_1 : Int) := od_
       have q229 : x8_1 < (l0_1.length : Int) := od_
       obtain ⟨ad229, A229_0, c229_0, e229, hx229_0, hl229_0, hi229_0⟩ := at_L1 HR0_1.out x8_1 p229 q229
       cases e229
       (try replace hx229_0 := (HB.out.cell (World.block_lt_of_cell? w _ hx229_0)).trans hx229_0)
       have HR229_0 := Aside0.mk hi229_0
       have HC229_0 := Aside0.mk hl229_0
       clear hi229_0 hl229_0
       replace p229 := eq_true p229
       replace q229 := eq_true q229
       have p230 : 0 ≤ (0 : Int) := (by omega)
       have q230 : 0 < ((rd_L1 l0_1 x8_1).length : Int) := od_
       obtain ⟨ad230, e230, hx230_0⟩ := Kd.at_int HR229_0.out 0 p230 q230
       cases e230
       have qi230 : (0 < (rd_L1 l0_1 x8_1).length) = True := eq_true (by omega)
       (try rw [show ((0 : Int)).toNat = 0 from rfl] at hx230_0)
       (try rw [Addr.add_zero'] at hx230_0)
       (try replace hx230_0 := (HB.out.cell (World.block_lt_of_cell? w _ hx230_0)).trans hx230_0)
       replace p230 := eq_true p230
       replace q230 := eq_true q230
       have hcz15_0 : wr.cell? ⟨gb227, 0, none⟩ = some (.int .i64 a0_0) := (blk_cell BK227.out 0).trans rfl
       have hcz15_1 : wr.cell? ⟨gb227, 1, none⟩ = some (.slice (some ad229) l0_1.length c0_1) := (blk_cell BK227.out 1).trans rfl
       have hfz15_0 := blk_frozen BK227.out 0
       have hfz15_1 := blk_frozen BK227.out 1
       have p232 : 0 ≤ (1 : Int) := (by omega)
       have q232 : 1 < ((rd_L1 l0_1 x8_1).length : Int) := od_
       obtain ⟨ad232, e232, hx232_0⟩ := Kd.at_int HR229_0.out 1 p232 q232
       obtain rfl : ad230 = ad232 := (by injection e232)
       (try simp only [show (1 : Int).toNat = 1 from rfl, Nat.reduceMul, Nat.reduceEqDiff, Go.Addr.add, ↓reduceIte] at hx232_0)
       have qi232 : (1 < (rd_L1 l0_1 x8_1).length) = True := eq_true (by omega)
       (try rw [show ((1 : Int)).toNat = 1 from rfl] at hx232_0)
       (try replace hx232_0 := (HB.out.cell (World.block_lt_of_cell? w _ hx232_0)).trans hx232_0)
       replace p232 := eq_true p232
       replace q232 := eq_true q232
       go_wp2_with (first | (go_at_call 58; (with_reducible refine (impl_within.calls (rd (rd_L1 l0_1 x8_1) 0) 0 (wrap64 (a0_0 - 1)) true _ A9.out).mono ?_); rintro e w' ⟨rfl, ⟨nd, rfl⟩⟩; (try first | exact ⟨rfl, _, World.drewN_drewN _ _ _⟩ | exact ⟨rfl, _, Eq.trans (World.drewN_drewN _ _ _) (congrArg (World.drewN _) (Nat.add_assoc _ _ _))⟩)) | (go_at_call 58; (with_reducible refine (impl_within.calls (rd (rd_L1 l0_1 x8_1) 1) 0 (wrap64 (a0_0 - 1)) false _ A12.out).mono ?_); rintro e w' ⟨rfl, ⟨nd, rfl⟩⟩; (try first | exact ⟨rfl, _, World.drewN_drewN _ _ _⟩ | exact ⟨rfl, _, Eq.trans (World.drewN_drewN _ _ _) (congrArg (World.drewN _) (Nat.add_assoc _ _ _))⟩)))
       repeat (go_quiet (first | (go_at_call 58; (with_reducible refine (impl_within.calls (rd (rd_L1 l0_1 x8_1) 0) 0 (wrap64 (a0_0 - 1)) true _ A9.out).mono ?_); rintro e w' ⟨rfl, ⟨nd, rfl⟩⟩; (try first | exact ⟨rfl, _, World.drewN_drewN _ _ _⟩ | exact ⟨rfl, _, Eq.trans (World.drewN_drewN _ _ _) (congrArg (World.drewN _) (Nat.add_assoc _ _ _))⟩)) | (go_at_call 58; (with_reducible refine (impl_within.calls (rd (rd_L1 l0_1 x8_1) 1) 0 (wrap64 (a0_0 - 1)) false _ A12.out).mono ?_); rintro e w' ⟨rfl, ⟨nd, rfl⟩⟩; (try first | exact ⟨rfl, _, World.drewN_drewN _ _ _⟩ | exact ⟨rfl, _, Eq.trans (World.drewN_drewN _ _ _) (congrArg (World.drewN _) (Nat.add_assoc _ _ _))⟩))); try go_wp2_with (first | (go_at_call 58; (with_reducible refine (impl_within.calls (rd (rd_L1 l0_1 x8_1) 0) 0 (wrap64 (a0_0 - 1)) true _ A9.out).mono ?_); rintro e w' ⟨rfl, ⟨nd, rfl⟩⟩; (try first | exact ⟨rfl, _, World.drewN_drewN _ _ _⟩ | exact ⟨rfl, _, Eq.trans (World.drewN_drewN _ _ _) (congrArg (World.drewN _) (Nat.add_assoc _ _ _))⟩)) | (go_at_call 58; (with_reducible refine (impl_within.calls (rd (rd_L1 l0_1 x8_1) 1) 0 (wrap64 (a0_0 - 1)) false _ A12.out).mono ?_); rintro e w' ⟨rfl, ⟨nd, rfl⟩⟩; (try first | exact ⟨rfl, _, World.drewN_drewN _ _ _⟩ | exact ⟨rfl, _, Eq.trans (World.drewN_drewN _ _ _) (congrArg (World.drewN _) (Nat.add_assoc _ _ _))⟩))))
       go_ret
       exact ⟨er_, hbs_⟩
     ·replace c10 := Bool.eq_false_iff.mpr c10
      subst c10
      have H1 : (some false) = some r := by rw [if_neg (show ¬ (false = true) by decide)] at H; exact H
      clear H
      have H := H1
      clear H1
      obtain rfl := Option.some.inj H
      have p229 : 0 ≤ (x8_1 : Int) := od_
      have q229 : x8_1 < (l0_1.length : Int) := od_
      obtain ⟨ad229, A229_0, c229_0, e229, hx229_0, hl229_0, hi229_0⟩ := at_L1 HR0_1.out x8_1 p229 q229
      cases e229
      (try replace hx229_0 := (HB.out.cell (World.block_lt_of_cell? w _ hx229_0)).trans hx229_0)
      have HR229_0 := Aside0.mk hi229_0
      have HC229_0 := Aside0.mk hl229_0
      clear hi229_0 hl229_0
      replace p229 := eq_true p229
      replace q229 := eq_true q229
      have p230 : 0 ≤ (0 : Int) := (by omega)
      have q230 : 0 < ((rd_L1 l0_1 x8_1).length : Int) := od_
      obtain ⟨ad230, e230, hx230_0⟩ := Kd.at_int HR229_0.out 0 p230 q230
      cases e230
      have qi230 : (0 < (rd_L1 l0_1 x8_1).length) = True := eq_true (by omega)
      (try rw [show ((0 : Int)).toNat = 0 from rfl] at hx230_0)
      (try rw [Addr.add_zero'] at hx230_0)
      (try replace hx230_0 := (HB.out.cell (World.block_lt_of_cell? w _ hx230_0)).trans hx230_0)
      replace p230 := eq_true p230
      replace q230 := eq_true q230
      have hcz16_0 : wr.cell? ⟨gb227, 0, none⟩ = some (.int .i64 a0_0) := (blk_cell BK227.out 0).trans rfl
      have hcz16_1 : wr.cell? ⟨gb227, 1, none⟩ = some (.slice (some ad229) l0_1.length c0_1) := (blk_cell BK227.out 1).trans rfl
      have hfz16_0 := blk_frozen BK227.out 0
      have hfz16_1 := blk_frozen BK227.out 1
      go_wp2_with (first | (go_at_call 58; (with_reducible refine (impl_within.calls (rd (rd_L1 l0_1 x8_1) 0) 0 (wrap64 (a0_0 - 1)) false _ A9.out).mono ?_); rintro e w' ⟨rfl, ⟨nd, rfl⟩⟩; (try first | exact ⟨rfl, _, World.drewN_drewN _ _ _⟩ | exact ⟨rfl, _, Eq.trans (World.drewN_drewN _ _ _) (congrArg (World.drewN _) (Nat.add_assoc _ _ _))⟩)))
      repeat (go_quiet (first | (go_at_call 58; (with_reducible refine (impl_within.calls (rd (rd_L1 l0_1 x8_1) 0) 0 (wrap64 (a0_0 - 1)) false _ A9.out).mono ?_); rintro e w' ⟨rfl, ⟨nd, rfl⟩⟩; (try first | exact ⟨rfl, _, World.drewN_drewN _ _ _⟩ | exact ⟨rfl, _, Eq.trans (World.drewN_drewN _ _ _) (congrArg (World.drewN _) (Nat.add_assoc _ _ _))⟩))); try go_wp2_with (first | (go_at_call 58; (with_reducible refine (impl_within.calls (rd (rd_L1 l0_1 x8_1) 0) 0 (wrap64 (a0_0 - 1)) false _ A9.out).mono ?_); rintro e w' ⟨rfl, ⟨nd, rfl⟩⟩; (try first | exact ⟨rfl, _, World.drewN_drewN _ _ _⟩ | exact ⟨rfl, _, Eq.trans (World.drewN_drewN _ _ _) (congrArg (World.drewN _) (Nat.add_assoc _ _ _))⟩))))
      go_ret
      exact ⟨er_, hbs_⟩
    ·rw [if_neg c7] at H
     have c7b0 : (((rd_L1 l0_1 x8_1).length : Int) == 2) = false := beq_eq_false_iff_ne.mpr c7
     have c7b1 : (((rd_L1 l0_1 x8_1).length : Int) != 2) = true := bne_iff_ne.mpr c7
     obtain rfl := Option.some.inj H
     have p229 : 0 ≤ (x8_1 : Int) := od_
     have q229 : x8_1 < (l0_1.length : Int) := od_
     obtain ⟨ad229, A229_0, c229_0, e229, hx229_0, hl229_0, hi229_0⟩ := at_L1 HR0_1.out x8_1 p229 q229
     cases e229
     (try replace hx229_0 := (HB.out.cell (World.block_lt_of_cell? w _ hx229_0)).trans hx229_0)
     have HR229_0 := Aside0.mk hi229_0
     have HC229_0 := Aside0.mk hl229_0
     clear hi229_0 hl229_0
     replace p229 := eq_true p229
     replace q229 := eq_true q229
     go_wp2
     repeat (go_quiet (fail); try go_wp2)
     go_ret
     exact ⟨er_, hbs_⟩
   ·rw [if_neg c4] at H
    have c4b0 := decide_eq_false c4
    clear c4
    obtain ⟨t228, A17, H⟩ := bnd_ H
    by_cases c18 : t228 = true
    ·subst c18
     have H1 : (some (decide ((l0_1.length : Int) ≤ 10))) = some r := by rw [if_pos rfl] at H; exact H
     clear H
     have H := H1
     clear H1
     obtain rfl := Option.some.inj H
     have hcz19_0 : wr.cell? ⟨gb227, 0, none⟩ = some (.int .i64 a0_0) := (blk_cell BK227.out 0).trans rfl
     have hcz19_1 : wr.cell? ⟨gb227, 1, none⟩ = some (.slice A0_1 l0_1.length c0_1) := (blk_cell BK227.out 1).trans rfl
     have hfz19_0 := blk_frozen BK227.out 0
     have hfz19_1 := blk_frozen BK227.out 1
     go_wp2_with (first | (go_at_call 58; (with_reducible refine (impl_within.calls a0_0 1 8 true _ A17.out).mono ?_); rintro e w' ⟨rfl, ⟨nd, rfl⟩⟩; (try first | exact ⟨rfl, _, World.drewN_drewN _ _ _⟩ | exact ⟨rfl, _, Eq.trans (World.drewN_drewN _ _ _) (congrArg (World.drewN _) (Nat.add_assoc _ _ _))⟩)))
     repeat (go_quiet (first | (go_at_call 58; (with_reducible refine (impl_within.calls a0_0 1 8 true _ A17.out).mono ?_); rintro e w' ⟨rfl, ⟨nd, rfl⟩⟩; (try first | exact ⟨rfl, _, World.drewN_drewN _ _ _⟩ | exact ⟨rfl, _, Eq.trans (World.drewN_drewN _ _ _) (congrArg (World.drewN _) (Nat.add_assoc _ _ _))⟩))); try go_wp2_with (first | (go_at_call 58; (with_reducible refine (impl_within.calls a0_0 1 8 true _ A17.out).mono ?_); rintro e w' ⟨rfl, ⟨nd, rfl⟩⟩; (try first | exact ⟨rfl, _, World.drewN_drewN _ _ _⟩ | exact ⟨rfl, _, Eq.trans (World.drewN_drewN _ _ _) (congrArg (World.drewN _) (Nat.add_assoc _ _ _))⟩))))
     go_ret
     exact ⟨er_, hbs_⟩
    ·replace c18 := Bool.eq_false_iff.mpr c18
     subst c18
     have H1 : (some false) = some r := by rw [if_neg (show ¬ (false = true) by decide)] at H; exact H
     clear H
     have H := H1
     clear H1
     obtain rfl := Option.some.inj H
     have hcz20_0 : wr.cell? ⟨gb227, 0, none⟩ = some (.int .i64 a0_0) := (blk_cell BK227.out 0).trans rfl
     have hcz20_1 : wr.cell? ⟨gb227, 1, none⟩ = some (.slice A0_1 l0_1.length c0_1) := (blk_cell BK227.out 1).trans rfl
     have hfz20_0 := blk_frozen BK227.out 0
     have hfz20_1 := blk_frozen BK227.out 1
     go_wp2_with (first | (go_at_call 58; (with_reducible refine (impl_within.calls a0_0 1 8 false _ A17.out).mono ?_); rintro e w' ⟨rfl, ⟨nd, rfl⟩⟩; (try first | exact ⟨rfl, _, World.drewN_drewN _ _ _⟩ | exact ⟨rfl, _, Eq.trans (World.drewN_drewN _ _ _) (congrArg (World.drewN _) (Nat.add_assoc _ _ _))⟩)))
     repeat (go_quiet (first | (go_at_call 58; (with_reducible refine (impl_within.calls a0_0 1 8 false _ A17.out).mono ?_); rintro e w' ⟨rfl, ⟨nd, rfl⟩⟩; (try first | exact ⟨rfl, _, World.drewN_drewN _ _ _⟩ | exact ⟨rfl, _, Eq.trans (World.drewN_drewN _ _ _) (congrArg (World.drewN _) (Nat.add_assoc _ _ _))⟩))); try go_wp2_with (first | (go_at_call 58; (with_reducible refine (impl_within.calls a0_0 1 8 false _ A17.out).mono ?_); rintro e w' ⟨rfl, ⟨nd, rfl⟩⟩; (try first | exact ⟨rfl, _, World.drewN_drewN _ _ _⟩ | exact ⟨rfl, _, Eq.trans (World.drewN_drewN _ _ _) (congrArg (World.drewN _) (Nat.add_assoc _ _ _))⟩))))
     go_ret
     exact ⟨er_, hbs_⟩

-- NOT PRINTED: function 50 (impl_graphCode)

/-! ### impl_isLength: function 67 -/
def impl_isLength.f (a0 : Int) : Option (Bool) := (impl_within.f a0 1 12).bind fun t234 => (some t234)
set_option maxHeartbeats 8000000 in
set_option maxRecDepth 100000 in
theorem impl_isLength.calls (a0 : Int) (r : Bool) (w : World) (h : impl_isLength.f a0 = some r) :
  Calls Try.prog 67 #[.int .i64 a0] w fun e w' => e = .returned (.bool r) ∧ Drawn0 w w' := by
 have H : ((impl_within.f a0 1 12).bind fun t234 => (some t234)) = some r := h
 clear h
 obtain ⟨t234, A2, H⟩ := bnd_ H
 obtain rfl := Option.some.inj H
 go_enter Try.func67, Try.ntmps67
 go_wp2_with (first | ((with_reducible refine gate_callee (f := 58) rfl ?_); refine goesL_ (some 4) rfl rfl Try.func58 (by kernel_rfl) rfl #[.int .i64 a0, .int .i64 1, .int .i64 12] rfl arg_ ?_; (with_reducible refine (impl_within.calls a0 1 12 t234 _ A2.out).mono ?_); rintro e w' ⟨rfl, ⟨nd, rfl⟩⟩; refine ⟨_, rfl, ?_⟩))
 go_ret
 exact ⟨es_, by repeat (first | exact Drawn0.refl _ | apply Drawn0.step)⟩

-- NOT PRINTED: function 66 (impl_WalksFrom_1)

/-! ### impl_Graph_ends: function 71 -/
def impl_Graph_ends.f (a0_0 : Int) (l0_1 : List (List Int)) (a1 : Int) : Option (Int × Int) := if 0 ≤ (wrap64 (Int.tdiv a1 2)) then (if (wrap64 (Int.tdiv a1 2)) < (l0_1.length : Int) then (if 0 ≤ (Int.tmod a1 2) then (if (Int.tmod a1 2) < ((rd_L1 l0_1 (wrap64 (Int.tdiv a1 2))).length : Int) then (if 0 ≤ (wrap64 (1 - (Int.tmod a1 2))) then (if (wrap64 (1 - (Int.tmod a1 2))) < ((rd_L1 l0_1 (wrap64 (Int.tdiv a1 2))).length : Int) then (some (rd (rd_L1 l0_1 (wrap64 (Int.tdiv a1 2))) (Int.tmod a1 2), rd (rd_L1 l0_1 (wrap64 (Int.tdiv a1 2))) (wrap64 (1 - (Int.tmod a1 2))))) else (none)) else (none)) else (none)) else (none)) else (none)) else (none)
set_option maxHeartbeats 8000000 in
set_option maxRecDepth 100000 in
theorem impl_Graph_ends.calls (a0_0 : Int) (A0_1 : Option Addr) (c0_1 : Nat) (l0_1 : List (List Int)) (a1 : Int) (r1 : Int) (r2 : Int) (w : World) (hr0_1 : Kd.C (Kd.slice 2 (Kd.int .i64)) w A0_1 l0_1.length l0_1) (hc0_1 : l0_1.length ≤ c0_1) (h : impl_Graph_ends.f a0_0 l0_1 a1 = some (r1, r2)) :
  Calls Try.prog 71 #[.agg #[.int .i64 a0_0, .slice A0_1 l0_1.length c0_1], .int .i64 a1] w fun e w' => e = .returned (.tuple #[.int .i64 r1, .int .i64 r2]) ∧ Below w.heap.size w w' := by
 have hu29 := Try.underlying29
 have HR0_1 := Aside0.mk hr0_1
 have HC0_1 := Aside0.mk hc0_1
 clear hr0_1 hc0_1
 have HB := Aside0.mk (Below.refl w.heap.size w)
 have H : (if 0 ≤ (wrap64 (Int.tdiv a1 2)) then (if (wrap64 (Int.tdiv a1 2)) < (l0_1.length : Int) then (if 0 ≤ (Int.tmod a1 2) then (if (Int.tmod a1 2) < ((rd_L1 l0_1 (wrap64 (Int.tdiv a1 2))).length : Int) then (if 0 ≤ (wrap64 (1 - (Int.tmod a1 2))) then (if (wrap64 (1 - (Int.tmod a1 2))) < ((rd_L1 l0_1 (wrap64 (Int.tdiv a1 2))).length : Int) then (some (rd (rd_L1 l0_1 (wrap64 (Int.tdiv a1 2))) (Int.tmod a1 2), rd (rd_L1 l0_1 (wrap64 (Int.tdiv a1 2))) (wrap64 (1 - (Int.tmod a1 2))))) else (none)) else (none)) else (none)) else (none)) else (none)) else (none)) = some (r1, r2) := h
 clear h
 obtain ⟨ji3, hji3⟩ : ∃ j_ : Int, (wrap64 (Int.tdiv a1 2)) = j_ := ⟨_, rfl⟩
 (try rw [hji3])
 replace H : (if 0 ≤ (ji3) then (if (ji3) < (l0_1.length : Int) then (if 0 ≤ (Int.tmod a1 2) then (if (Int.tmod a1 2) < ((rd_L1 l0_1 (ji3)).length : Int) then (if 0 ≤ (wrap64 (1 - (Int.tmod a1 2))) then (if (wrap64 (1 - (Int.tmod a1 2))) < ((rd_L1 l0_1 (ji3)).length : Int) then (some (rd (rd_L1 l0_1 (ji3)) (Int.tmod a1 2), rd (rd_L1 l0_1 (ji3)) (wrap64 (1 - (Int.tmod a1 2))))) else (none)) else (none)) else (none)) else (none)) else (none)) else (none)) = some (r1, r2) := by first | (rw [hji3] at H; exact H) | (simp only [hji3] at H ⊢; exact H)
 have hji3w : (IntKind.i64.wrap (Int.tdiv a1 2)) = ji3 := (i64_w _).trans hji3
 by_cases c4 : 0 ≤ (ji3)
 ·rw [if_pos c4] at H
  have c4b0 := decide_eq_true c4
  clear c4
  obtain ⟨c5, H⟩ := itn_ H
  have c5b0 := decide_eq_true c5
  clear c5
  obtain ⟨ji6, hji6⟩ : ∃ j_ : Int, (Int.tmod a1 2) = j_ := ⟨_, rfl⟩
  (try rw [hji6])
  replace H : (if 0 ≤ (ji6) then (if (ji6) < ((rd_L1 l0_1 (ji3)).length : Int) then (if 0 ≤ (wrap64 (1 - (ji6))) then (if (wrap64 (1 - (ji6))) < ((rd_L1 l0_1 (ji3)).length : Int) then (some (rd (rd_L1 l0_1 (ji3)) (ji6), rd (rd_L1 l0_1 (ji3)) (wrap64 (1 - (ji6))))) else (none)) else (none)) else (none)) else (none)) = some (r1, r2) := by first | (rw [hji6] at H; exact H) | (simp only [hji6] at H ⊢; exact H)
  obtain ⟨c7, H⟩ := itn_ H
  have c7b0 := decide_eq_true c7
  clear c7
  obtain ⟨c8, H⟩ := itn_ H
  have c8b0 := decide_eq_true c8
  clear c8
  obtain ⟨ji9, hji9⟩ : ∃ j_ : Int, (wrap64 (1 - (ji6))) = j_ := ⟨_, rfl⟩
  (try rw [hji9])
  replace H : (if 0 ≤ (ji9) then (if (ji9) < ((rd_L1 l0_1 (ji3)).length : Int) then (some (rd (rd_L1 l0_1 (ji3)) (ji6), rd (rd_L1 l0_1 (ji3)) (ji9))) else (none)) else (none)) = some (r1, r2) := by first | (rw [hji9] at H; exact H) | (simp only [hji9] at H ⊢; exact H)
  have hji9w : (IntKind.i64.wrap (1 - (ji6))) = ji9 := (i64_w _).trans hji9
  obtain ⟨c10, H⟩ := itn_ H
  have c10b0 := decide_eq_true c10
  clear c10
  obtain ⟨c11, H⟩ := itn_ H
  have c11b0 := decide_eq_true c11
  clear c11
  simp only [Option.some.injEq, Prod.mk.injEq] at H
  obtain ⟨rfl, rfl⟩ := H
  go_enter Try.func71, Try.ntmps71
  go_wp2_with (first | ((with_reducible refine gate_dst (N := 2) rfl ?_); refine box_event ?hg (N := 2) ?hd (cs := #[.int .i64 a0_0, .slice A0_1 l0_1.length c0_1]) (t := 29) ?hr ?_; (case hd => rfl); (case hg => rfl); (case hr => first | (go_simp; done) | (go_simp; rfl)); intro gb235 hg w12 hbox hb; have BK235 := Aside0.mk (hbox); have GW235 := Aside0.mk ((by rw [hg]; exact (below_size hb_) : w.heap.size ≤ gb235)); have GE235 := Aside0.mk ((by rw [hg]; exact (below_size hb_) : w.heap.size ≤ gb235)); replace HB := Aside0.mk (below_step hb_ hb); clear hb hbox hg; have hcz13_0 : w12.cell? ⟨gb235, 0, none⟩ = some (.int .i64 a0_0) := (blk_cell BK235.out 0).trans rfl; have hcz13_1 : w12.cell? ⟨gb235, 1, none⟩ = some (.slice A0_1 l0_1.length c0_1) := (blk_cell BK235.out 1).trans rfl; have hfz13_0 := blk_frozen BK235.out 0; have hfz13_1 := blk_frozen BK235.out 1; have p236 : 0 ≤ ((ji3) : Int) := od_; have q236 : (ji3) < (l0_1.length : Int) := od_; obtain ⟨ad236, A236_0, c236_0, e236, hx236_0, hl236_0, hi236_0⟩ := at_L1 HR0_1.out (ji3) p236 q236; cases e236; replace hx236_0 := (HB.out.cell (World.block_lt_of_cell? w _ hx236_0)).trans hx236_0; have HR236_0 := Aside0.mk hi236_0; have HC236_0 := Aside0.mk hl236_0; clear hi236_0 hl236_0; replace p236 := eq_true p236; replace q236 := eq_true q236; have p237 : 0 ≤ ((ji6) : Int) := od_; have q237 : (ji6) < ((rd_L1 l0_1 (ji3)).length : Int) := od_; obtain ⟨ad237, e237, hx237_0⟩ := Kd.at_int HR236_0.out (ji6) p237 q237; cases e237; replace hx237_0 := (HB.out.cell (World.block_lt_of_cell? w _ hx237_0)).trans hx237_0; replace p237 := eq_true p237; replace q237 := eq_true q237; have p238 : 0 ≤ ((ji9) : Int) := od_; have q238 : (ji9) < ((rd_L1 l0_1 (ji3)).length : Int) := od_; obtain ⟨ad238, e238, hx238_0⟩ := Kd.at_int HR236_0.out (ji9) p238 q238; obtain rfl : ad237 = ad238 := (by injection e238); replace hx238_0 := (HB.out.cell (World.block_lt_of_cell? w _ hx238_0)).trans hx238_0; replace p238 := eq_true p238; replace q238 := eq_true q238))
  repeat (go_quiet (first | ((with_reducible refine gate_dst (N := 2) rfl ?_); refine box_event ?hg (N := 2) ?hd (cs := #[.int .i64 a0_0, .slice A0_1 l0_1.length c0_1]) (t := 29) ?hr ?_; (case hd => rfl); (case hg => rfl); (case hr => first | (go_simp; done) | (go_simp; rfl)); intro gb235 hg w12 hbox hb; have BK235 := Aside0.mk (hbox); have GW235 := Aside0.mk ((by rw [hg]; exact (below_size hb_) : w.heap.size ≤ gb235)); have GE235 := Aside0.mk ((by rw [hg]; exact (below_size hb_) : w.heap.size ≤ gb235)); replace HB := Aside0.mk (below_step hb_ hb); clear hb hbox hg; have hcz13_0 : w12.cell? ⟨gb235, 0, none⟩ = some (.int .i64 a0_0) := (blk_cell BK235.out 0).trans rfl; have hcz13_1 : w12.cell? ⟨gb235, 1, none⟩ = some (.slice A0_1 l0_1.length c0_1) := (blk_cell BK235.out 1).trans rfl; have hfz13_0 := blk_frozen BK235.out 0; have hfz13_1 := blk_frozen BK235.out 1; have p236 : 0 ≤ ((ji3) : Int) := od_; have q236 : (ji3) < (l0_1.length : Int) := od_; obtain ⟨ad236, A236_0, c236_0, e236, hx236_0, hl236_0, hi236_0⟩ := at_L1 HR0_1.out (ji3) p236 q236; cases e236; replace hx236_0 := (HB.out.cell (World.block_lt_of_cell? w _ hx236_0)).trans hx236_0; have HR236_0 := Aside0.mk hi236_0; have HC236_0 := Aside0.mk hl236_0; clear hi236_0 hl236_0; replace p236 := eq_true p236; replace q236 := eq_true q236; have p237 : 0 ≤ ((ji6) : Int) := od_; have q237 : (ji6) < ((rd_L1 l0_1 (ji3)).length : Int) := od_; obtain ⟨ad237, e237, hx237_0⟩ := Kd.at_int HR236_0.out (ji6) p237 q237; cases e237; replace hx237_0 := (HB.out.cell (World.block_lt_of_cell? w _ hx237_0)).trans hx237_0; replace p237 := eq_true p237; replace q237 := eq_true q237; have p238 : 0 ≤ ((ji9) : Int) := od_; have q238 : (ji9) < ((rd_L1 l0_1 (ji3)).length : Int) := od_; obtain ⟨ad238, e238, hx238_0⟩ := Kd.at_int HR236_0.out (ji9) p238 q238; obtain rfl : ad237 = ad238 := (by injection e238); replace hx238_0 := (HB.out.cell (World.block_lt_of_cell? w _ hx238_0)).trans hx238_0; replace p238 := eq_true p238; replace q238 := eq_true q238)); try go_wp2_with (first | ((with_reducible refine gate_dst (N := 2) rfl ?_); refine box_event ?hg (N := 2) ?hd (cs := #[.int .i64 a0_0, .slice A0_1 l0_1.length c0_1]) (t := 29) ?hr ?_; (case hd => rfl); (case hg => rfl); (case hr => first | (go_simp; done) | (go_simp; rfl)); intro gb235 hg w12 hbox hb; have BK235 := Aside0.mk (hbox); have GW235 := Aside0.mk ((by rw [hg]; exact (below_size hb_) : w.heap.size ≤ gb235)); have GE235 := Aside0.mk ((by rw [hg]; exact (below_size hb_) : w.heap.size ≤ gb235)); replace HB := Aside0.mk (below_step hb_ hb); clear hb hbox hg; have hcz13_0 : w12.cell? ⟨gb235, 0, none⟩ = some (.int .i64 a0_0) := (blk_cell BK235.out 0).trans rfl; have hcz13_1 : w12.cell? ⟨gb235, 1, none⟩ = some (.slice A0_1 l0_1.length c0_1) := (blk_cell BK235.out 1).trans rfl; have hfz13_0 := blk_frozen BK235.out 0; have hfz13_1 := blk_frozen BK235.out 1; have p236 : 0 ≤ ((ji3) : Int) := od_; have q236 : (ji3) < (l0_1.length : Int) := od_; obtain ⟨ad236, A236_0, c236_0, e236, hx236_0, hl236_0, hi236_0⟩ := at_L1 HR0_1.out (ji3) p236 q236; cases e236; replace hx236_0 := (HB.out.cell (World.block_lt_of_cell? w _ hx236_0)).trans hx236_0; have HR236_0 := Aside0.mk hi236_0; have HC236_0 := Aside0.mk hl236_0; clear hi236_0 hl236_0; replace p236 := eq_true p236; replace q236 := eq_true q236; have p237 : 0 ≤ ((ji6) : Int) := od_; have q237 : (ji6) < ((rd_L1 l0_1 (ji3)).length : Int) := od_; obtain ⟨ad237, e237, hx237_0⟩ := Kd.at_int HR236_0.out (ji6) p237 q237; cases e237; replace hx237_0 := (HB.out.cell (World.block_lt_of_cell? w _ hx237_0)).trans hx237_0; replace p237 := eq_true p237; replace q237 := eq_true q237; have p238 : 0 ≤ ((ji9) : Int) := od_; have q238 : (ji9) < ((rd_L1 l0_1 (ji3)).length : Int) := od_; obtain ⟨ad238, e238, hx238_0⟩ := Kd.at_int HR236_0.out (ji9) p238 q238; obtain rfl : ad237 = ad238 := (by injection e238); replace hx238_0 := (HB.out.cell (World.block_lt_of_cell? w _ hx238_0)).trans hx238_0; replace p238 := eq_true p238; replace q238 := eq_true q238)))
  go_ret2
  exact ⟨by first | rfl | (simp [errW_none, errW_some] <;> rfl) | (simp only [← hji3, ← hji6, ← hji9]; first | rfl | (simp [errW_none, errW_some] <;> rfl)) | (simp [*, errW_none, errW_some] <;> rfl), hbs_⟩
 ·rw [if_neg c4] at H
  exact absurd H (by simp)

/-! ### impl_square: function 95 -/
def impl_square.l0 : Nat → Int → List (List Int) → Int → Int → Option ((List (List Int)))
 | 0, _, _, _, _ => none
 | k + 1, x0, x3, x5, x6 => if x6 < x5 then (if 0 ≤ x0 then (if (x0 : Int).toNat ≤ 35184372088832 then (if x3.length < 5864062014805 then (impl_square.l0 k x0 (x3 ++ [(List.replicate (x0 : Int).toNat 0)]) x5 (wrap64 (x6 + 1))) else (none)) else (none)) else (none)) else (some x3)
def impl_square.f (k : Nat) (a0 : Int) : Option ((List (List Int))) := impl_square.l0 k a0 (([] : List (List Int))) a0 0
set_option maxHeartbeats 8000000 in
set_option maxRecDepth 100000 in
theorem impl_square.calls (k : Nat) (a0 : Int) (r : List (List Int)) (w : World) (h : impl_square.f k a0 = some r) :
  Calls Try.prog 95 #[.int .i64 a0] w fun e w' => ∃ v0_ : Value, e = .returned (v0_) ∧ Kd.S (Kd.slice 2 (Kd.int .i64)) 26 w' w.heap.size (fun _ => True) v0_ r ∧ Below w.heap.size w w' := by
 have HB := Aside0.mk (Below.refl w.heap.size w)
 have H : (impl_square.l0 k a0 (([] : List (List Int))) a0 0) = some r := h
 clear h
 obtain ⟨y239, Ny239, H⟩ : ∃ y239 : List (List Int), Aside0 (y239 = (([] : List (List Int)))) ∧ (impl_square.l0 k a0 y239 a0 0) = some r := ⟨_, ⟨rfl⟩, H⟩
 have H' := Aside0.mk H
 clear H
 go_enter Try.func95, Try.ntmps95
 go_wp2_with (first | ((with_reducible refine gate_dst (N := 4) rfl ?_); refine Kd.S_lit (Kd.slice 2 (Kd.int .i64)) _ 26 ?hg (N := 4) ?hd (xs := ([] : List (List Int))) (inner := []) (ok := fun _ => True) (okp := fun _ => True) ?hr ?hp (fun _ hk => hk) trivial (Below.refl _ _) (Nat.le_refl _) (by simp) ?_; (case hd => rfl); (case hg => rfl); (case hr => first | (go_simp; done) | (go_simp; rfl)); (case hp => exact (Reps.none _ _)); intro v240 w2 ho3 hb hg_ hnew_; clear hg_ hnew_; (first | rw [← Ny239.out] at ho3 | (simp only [Int.reduceToNat] at ho3; rw [← Ny239.out] at ho3)); have HO241 := Aside0.mk (Kd.S_lower ho3 (below_size hb_)); replace HB := Aside0.mk (below_step hb_ hb); clear hb ho3))
 go_loopg [3, 6] k (fun kq v3 v6 w' => ∃ (x3_1 : List (List Int)) (x6_1 : Int), v6 = .int .i64 x6_1 ∧ Aside0 (impl_square.l0 kq a0 x3_1 a0 x6_1 = some r) ∧ Aside0 (kq ≤ k) ∧ Aside0 (Kd.S (Kd.slice 2 (Kd.int .i64)) 26 w' w.heap.size (fun _ => True) v3 x3_1) ∧ Aside0 (Below w.heap.size w w'))
 case atStart => exact ⟨(y239), (0), es_, H', ⟨Nat.le_refl _⟩, ⟨Kd.S_below HO241.out bgo_⟩, ⟨hb_⟩⟩
 case round =>
  clear H'
  obtain ⟨x3_1, x6_1, rfl, HA, HK1, HO_3, HB⟩ := hrel
  cases gk with
  | zero => exact absurd HA.out (by simp [impl_square.l0])
  | succ k1 =>
   have H := HA.out
   clear HA
   simp only [impl_square.l0] at H
   by_cases c4 : x6_1 < a0
   ·rw [if_pos c4] at H
    have c4b0 := decide_eq_true c4
    clear c4
    obtain ⟨c5, H⟩ := itn_ H
    have c5b0 := eq_true c5
    have c5b1 := decide_eq_true c5
    clear c5
    obtain ⟨c6, H⟩ := itn_ H
    have c6b0 := eq_true c6
    have c6b1 := decide_eq_true c6
    clear c6
    obtain ⟨y242, Ny242, H⟩ : ∃ y242 : List Int, Aside0 (y242 = (List.replicate (a0 : Int).toNat 0)) ∧ (if x3_1.length < 5864062014805 then (impl_square.l0 k1 a0 (x3_1 ++ [y242]) a0 (wrap64 (x6_1 + 1))) else (none)) = some r := ⟨_, ⟨rfl⟩, H⟩
    obtain ⟨c7, H⟩ := itn_ H
    have LMc7 := Aside0.mk c7
    clear c7
    obtain ⟨y245, Ny245, H⟩ : ∃ y245 : List (List Int), Aside0 (y245 = (x3_1 ++ [y242])) ∧ (impl_square.l0 k1 a0 y245 a0 (wrap64 (x6_1 + 1))) = some r := ⟨_, ⟨rfl⟩, H⟩
    have H' := Aside0.mk H
    clear H
    go_wp2_with (first | ((with_reducible refine gate_dst (N := 10) rfl ?_); refine Kd.R_make (Kd.int .i64) _ 2 rfl (N := 10) rfl 26 _ _ rfl a0 rfl rfl Try.underlying26 (.int .i64 0) 8 info2 rfl (by decide) (by omega) 0 (ok := fun _ => True) (okp := fun _ => True) rfl (fun _ hk => hk) trivial (od_) (Nat.le_trans (Nat.mul_le_mul_right _ (od_ : a0.toNat ≤ 35184372088832)) (by omega)) (Below.refl _ _) (Nat.le_refl _) ?_; intro v243 w8 ho9 hb hg_ hnew_; clear hg_ hnew_; (first | rw [← Ny242.out] at ho9 | (simp only [Int.reduceToNat] at ho9; rw [← Ny242.out] at ho9)); replace HO_3 := Aside0.mk (Kd.S_elder' (Kd.S_below HO_3.out bgo_) (Kd.R_base ho9) hb); have HO244 := Aside0.mk (Kd.R_lower ho9 (below_size hb_)); replace HB := Aside0.mk (below_step hb_ hb); clear hb ho9; obtain ⟨Ao11, co11, eo11⟩ := Kd.R_slice HO244.out; subst eo11) | ((with_reducible refine gate_builtin (b := .append) (xs := #[.tmp 8, .tmp 11]) rfl ?_); at_builtin; refine Kd.S_append (Kd.slice 2 (Kd.int .i64)) (w0 := w) w.heap.size rfl (.tmp 8) (.tmp 11) 22 26 (.slice none 0 0) 24 rfl Try.underlying22 info26 rfl (by decide) (by omega) u3 x3_1 y242 [.slice Ao11 y242.length co11] (fun _ => True) (fun k_ => some k_ = (.slice Ao11 y242.length co11 : Value).ownBlock) rfl rfl ?aP (fun k_ hk_ => ((Kd.R_mono (ok' := fun k_ => ((fun _ => True)) k_ ∧ some k_ ≠ (u3 : Value).ownBlock) (Kd.R_apart' (HO244.out) (Kd.S_typed HO_3.out) (by decide)) (fun k_ hk => ⟨trivial, hk.2⟩))).1 k_ hk_.symm) ?aF ?aO ?aB ?aS ?aL ?_; (case aP => exact Kd.M_row (Kd.R_mono (Kd.R_tight rfl (Kd.R_mono (ok' := fun k_ => ((fun _ => True)) k_ ∧ some k_ ≠ (u3 : Value).ownBlock) (Kd.R_apart' (HO244.out) (Kd.S_typed HO_3.out) (by decide)) (fun k_ hk => ⟨trivial, hk.2⟩))) (fun _ h_ => h_))); (case aB => exact hb_); (case aF => exact (fun _ _ => trivial)); (case aO => exact (by (with_reducible repeat (first | apply Kd.S_alloc | apply Kd.S_drewN | apply Kd.S_drew)); exact Kd.S_mono HO_3.out (fun k_ hk => ⟨trivial, fun e_ => hk.2 e_⟩))); (case aS => exact (below_size hb_)); (case aL => have := LMc7.out; omega); intro v246 w10 ho hb hg hat; rw [← Ny245.out] at ho; replace HB := Aside0.mk (hb); have HO247 := Aside0.mk (ho); clear HO_3 HO244; clear ho hb hg hat))
    first | go_roundg k1 | (refine Handed.intro k1 ?measure ?_; rotate_left; go_step; (try simp only [add_plain]); (repeat apply Exists.intro); refine ⟨?rel, rfl⟩)
    case measure => have := HK1.out; omega
    case rel => exact ⟨(y245), (wrap64 (x6_1 + 1)), es_, H', ⟨by have := HK1.out; omega⟩, ⟨Kd.S_below HO247.out bgo_⟩, ⟨hb_⟩⟩
   ·rw [if_neg c4] at H
    have c4b0 := decide_eq_false c4
    clear c4
    obtain rfl := Option.some.inj H
    go_wp2
    go_ret
    exact ⟨_, er_, (Kd.S_below HO_3.out bgo_), hb_⟩

/-! ### impl_rowsTimes: function 96 -/
mutual
def impl_rowsTimes.l0 : Nat → List (List Int) → List (List Int) → List (List Int) → Int → Int → Option ((List (List Int)))
 | 0, _, _, _, _, _ => none
 | k + 1, x1, x5, x15, x16, x17 => if x17 < x16 then (if 0 ≤ x17 then (if x17 < (x15.length : Int) then (impl_rowsTimes.l1 k x1 x5 x17 x15 x16 x17 (rd_L1 x15 x17) ((rd_L1 x15 x17).length : Int) 0) else (none)) else (none)) else (some x5)
def impl_rowsTimes.l1 : Nat → List (List Int) → List (List Int) → Int → List (List Int) → Int → Int → List Int → Int → Int → Option ((List (List Int)))
 | 0, _, _, _, _, _, _, _, _, _ => none
 | k + 1, x1, x5, x6, x15, x16, x17, x22, x23, x24 => if x24 < x23 then (if 0 ≤ x24 then (if x24 < (x22.length : Int) then (if (rd x22 x24) = 0 then (impl_rowsTimes.l1 k x1 x5 x6 x15 x16 x17 x22 x23 (wrap64 (x24 + 1))) else (if x24 < (x1.length : Int) then (impl_rowsTimes.l2 k x1 x5 x6 (rd x22 x24) x15 x16 x17 x22 x23 x24 (rd_L1 x1 x24) ((rd_L1 x1 x24).length : Int) 0) else (none))) else (none)) else (none)) else (impl_rowsTimes.l0 k x1 x5 x15 x16 (wrap64 (x17 + 1)))
def impl_rowsTimes.l2 : Nat → List (List Int) → List (List Int) → Int → Int → List (List Int) → Int → Int → List Int → Int → Int → List Int → Int → Int → Option ((List (List Int)))
 | 0, _, _, _, _, _, _, _, _, _, _, _, _, _ => none
 | k + 1, x1, x5, x6, x9, x15, x16, x17, x22, x23, x24, x34, x35, x36 => if x36 < x35 then (if 0 ≤ x36 then (if x36 < (x34.length : Int) then (if 0 ≤ x6 then (if x6 < (x5.length : Int) then (if x36 < ((rd_L1 x5 x6).length : Int) then (impl_rowsTimes.l2 k x1 (x5.set (x6 : Int).toNat ((rd_L1 x5 x6).set (x36 : Int).toNat (wrap64 ((rd (rd_L1 x5 x6) x36) + (wrap64 (x9 * (rd x34 x36))))))) x6 x9 x15 x16 x17 x22 x23 x24 x34 x35 (wrap64 (x36 + 1))) else (none)) else (none)) else (none)) else (none)) else (none)) else (impl_rowsTimes.l1 k x1 x5 x6 x15 x16 x17 x22 x23 (wrap64 (x24 + 1)))
end
def impl_rowsTimes.f (k : Nat) (l0 : List (List Int)) (l1 : List (List Int)) : Option ((List (List Int))) := (impl_square.f k (l0.length : Int)).bind fun t248 => (impl_rowsTimes.l0 k l1 t248 l0 (l0.length : Int) 0)
set_option maxHeartbeats 8000000 in
set_option maxRecDepth 100000 in
theorem impl_rowsTimes.calls (k : Nat) (A0 : Option Addr) (c0 : Nat) (l0 : List (List Int)) (A1 : Option Addr) (c1 : Nat) (l1 : List (List Int)) (r : List (List Int)) (w : World) (hr0 : Kd.C (Kd.slice 2 (Kd.int .i64)) w A0 l0.length l0) (hc0 : l0.length ≤ c0) (hr1 : Kd.C (Kd.slice 2 (Kd.int .i64)) w A1 l1.length l1) (hc1 : l1.length ≤ c1) (h : impl_rowsTimes.f k l0 l1 = some r) :
  Calls Try.prog 96 #[.slice A0 l0.length c0, .slice A1 l1.length c1] w fun e w' => ∃ v0_ : Value, e = .returned (v0_) ∧ Kd.S (Kd.slice 2 (Kd.int .i64)) 26 w' w.heap.size (fun _ => True) v0_ r ∧ Below w.heap.size w w' := by
 have HR0 := Aside0.mk hr0
 have HC0 := Aside0.mk hc0
 clear hr0 hc0
 have HR1 := Aside0.mk hr1
 have HC1 := Aside0.mk hc1
 clear hr1 hc1
 have HB := Aside0.mk (Below.refl w.heap.size w)
 have H : ((impl_square.f k (l0.length : Int)).bind fun t248 => (impl_rowsTimes.l0 k l1 t248 l0 (l0.length : Int) 0)) = some r := h
 clear h
 obtain ⟨t248, A3, H⟩ := bnd_ H
 have H' := Aside0.mk H
 clear H
 go_enter Try.func96, Try.ntmps96
 go_wp2_with (first | ((with_reducible refine gate_callee (f := 95) rfl ?_); refine goesL_ (some 14) rfl rfl Try.func95 (by kernel_rfl) rfl #[.int .i64 (l0.length : Int)] rfl arg_ ?_; (with_reducible refine (impl_square.calls k (l0.length : Int) t248 _ A3.out).mono ?_); rintro e w4 ⟨v249, rfl, ho0, hb⟩; refine ⟨_, rfl, ?_⟩; have HO250 := Aside0.mk (Kd.S_lower ho0 (below_size hb_)); replace HB := Aside0.mk (below_step hb_ hb); (try clear hb); (try clear hb2); (try clear hk); (try clear hi); (try clear ho0)))
 go_loopg [17] k (fun kq v17 w' => ∃ (x5_1 : List (List Int)) (x17_1 : Int), v17 = .int .i64 x17_1 ∧ Aside0 (impl_rowsTimes.l0 kq l1 x5_1 l0 (l0.length : Int) x17_1 = some r) ∧ Aside0 (kq ≤ k) ∧ Aside0 (Kd.S (Kd.slice 2 (Kd.int .i64)) 26 w' w.heap.size (fun _ => True) v249 x5_1) ∧ Aside0 (Below w.heap.size w w'))
 case atStart => exact ⟨(t248), (0), es_, H', ⟨Nat.le_refl _⟩, ⟨Kd.S_below HO250.out bgo_⟩, ⟨hb_⟩⟩
 case round =>
  clear H'
  obtain ⟨x5_1, x17_1, rfl, HA, HK1, HO_5, HB⟩ := hrel
  cases gk with
  | zero => exact absurd HA.out (by simp [impl_rowsTimes.l0])
  | succ k1 =>
   have H := HA.out
   clear HA
   simp only [impl_rowsTimes.l0] at H
   by_cases c5 : x17_1 < (l0.length : Int)
   ·rw [if_pos c5] at H
    have c5b0 := decide_eq_true c5
    clear c5
    obtain ⟨c6, H⟩ := itn_ H
    have c6b0 := decide_eq_true c6
    clear c6
    obtain ⟨c7, H⟩ := itn_ H
    have c7b0 := decide_eq_true c7
    clear c7
    have H' := Aside0.mk H
    clear H
    have p251 : 0 ≤ (x17_1 : Int) := od_
    have q251 : x17_1 < (l0.length : Int) := od_
    obtain ⟨ad251, A251_0, c251_0, e251, hx251_0, hl251_0, hi251_0⟩ := at_L1 HR0.out x17_1 p251 q251
    cases e251
    (try replace hx251_0 := (HB.out.cell (World.block_lt_of_cell? w _ hx251_0)).trans hx251_0)
    have HR251_0 := Aside0.mk hi251_0
    have HC251_0 := Aside0.mk hl251_0
    clear hi251_0 hl251_0
    replace p251 := eq_true p251
    replace q251 := eq_true q251
    go_wp2
    go_loopg [24] k1 (fun kq v24 w' => ∃ (x5_2 : List (List Int)) (x24_2 : Int), v24 = .int .i64 x24_2 ∧ Aside0 (impl_rowsTimes.l1 kq l1 x5_2 x17_1 l0 (l0.length : Int) x17_1 (rd_L1 l0 x17_1) ((rd_L1 l0 x17_1).length : Int) x24_2 = some r) ∧ Aside0 (kq ≤ k1) ∧ Aside0 (Kd.S (Kd.slice 2 (Kd.int .i64)) 26 w' w.heap.size (fun _ => True) v249 x5_2) ∧ Aside0 (Below w.heap.size w w'))
    case atStart => exact ⟨(x5_1), (0), es_, H', ⟨Nat.le_refl _⟩, ⟨Kd.S_below HO_5.out bgo_⟩, ⟨hb_⟩⟩
    case round =>
     clear H'
     obtain ⟨x5_2, x24_2, rfl, HA, HK2, HO_5, HB⟩ := hrel
     cases gk with
     | zero => exact absurd HA.out (by simp [impl_rowsTimes.l1])
     | succ k2 =>
      have H := HA.out
      clear HA
      simp only [impl_rowsTimes.l1] at H
      by_cases c8 : x24_2 < ((rd_L1 l0 x17_1).length : Int)
      ·rw [if_pos c8] at H
       have c8b0 := decide_eq_true c8
       clear c8
       obtain ⟨c9, H⟩ := itn_ H
       have c9b0 := decide_eq_true c9
       clear c9
       obtain ⟨c10, H⟩ := itn_ H
       have c10b0 := decide_eq_true c10
       clear c10
       by_cases c11 : (rd (rd_L1 l0 x17_1) x24_2) = 0
       ·rw [if_pos c11] at H
        have c11b0 : ((rd (rd_L1 l0 x17_1) x24_2) == 0) = true := beq_iff_eq.mpr c11
        have c11b1 : ((rd (rd_L1 l0 x17_1) x24_2) != 0) = false := bne_eq_false_iff_eq.mpr c11
        clear c11
        have H' := Aside0.mk H
        clear H
        have p252 : 0 ≤ (x24_2 : Int) := od_
        have q252 : x24_2 < ((rd_L1 l0 x17_1).length : Int) := od_
        obtain ⟨ad252, e252, hx252_0⟩ := Kd.at_int HR251_0.out x24_2 p252 q252
        cases e252
        (try replace hx252_0 := (HB.out.cell (World.block_lt_of_cell? w _ hx252_0)).trans hx252_0)
        replace p252 := eq_true p252
        replace q252 := eq_true q252
        go_wp2
        first | go_roundg k2 | (refine Handed.intro k2 ?measure ?_; rotate_left; go_step; (try simp only [add_plain]); (repeat apply Exists.intro); refine ⟨?rel, rfl⟩)
        case measure => have := HK1.out; have := HK2.out; omega
        case rel => exact ⟨(x5_2), (wrap64 (x24_2 + 1)), es_, H', ⟨by have := HK1.out; have := HK2.out; omega⟩, ⟨Kd.S_below HO_5.out bgo_⟩, ⟨hb_⟩⟩
       ·rw [if_neg c11] at H
        have c11b0 : ((rd (rd_L1 l0 x17_1) x24_2) == 0) = false := beq_eq_false_iff_ne.mpr c11
        have c11b1 : ((rd (rd_L1 l0 x17_1) x24_2) != 0) = true := bne_iff_ne.mpr c11
        obtain ⟨c12, H⟩ := itn_ H
        have c12b0 := decide_eq_true c12
        clear c12
        have H' := Aside0.mk H
        clear H
        have p252 : 0 ≤ (x24_2 : Int) := od_
        have q252 : x24_2 < ((rd_L1 l0 x17_1).length : Int) := od_
        obtain ⟨ad252, e252, hx252_0⟩ := Kd.at_int HR251_0.out x24_2 p252 q252
        cases e252
        (try replace hx252_0 := (HB.out.cell (World.block_lt_of_cell? w _ hx252_0)).trans hx252_0)
        replace p252 := eq_true p252
        replace q252 := eq_true q252
        have p253 : 0 ≤ (x24_2 : Int) := od_
        have q253 : x24_2 < (l1.length : Int) := od_
        obtain ⟨ad253, A253_0, c253_0, e253, hx253_0, hl253_0, hi253_0⟩ := at_L1 HR1.out x24_2 p253 q253
        cases e253
        (try replace hx253_0 := (HB.out.cell (World.block_lt_of_cell? w _ hx253_0)).trans hx253_0)
        have HR253_0 := Aside0.mk hi253_0
        have HC253_0 := Aside0.mk hl253_0
        clear hi253_0 hl253_0
        replace p253 := eq_true p253
        replace q253 := eq_true q253
        go_wp2
        go_loopg [36] k2 (fun kq v36 w' => ∃ (x5_3 : List (List Int)) (x36_3 : Int), v36 = .int .i64 x36_3 ∧ Aside0 (impl_rowsTimes.l2 kq l1 x5_3 x17_1 (rd (rd_L1 l0 x17_1) x24_2) l0 (l0.length : Int) x17_1 (rd_L1 l0 x17_1) ((rd_L1 l0 x17_1).length : Int) x24_2 (rd_L1 l1 x24_2) ((rd_L1 l1 x24_2).length : Int) x36_3 = some r) ∧ Aside0 (kq ≤ k2) ∧ Aside0 (Kd.S (Kd.slice 2 (Kd.int .i64)) 26 w' w.heap.size (fun _ => True) v249 x5_3) ∧ Aside0 (Below w.heap.size w w'))
        case atStart => exact ⟨(x5_2), (0), es_, H', ⟨Nat.le_refl _⟩, ⟨Kd.S_below HO_5.out bgo_⟩, ⟨hb_⟩⟩
        case round =>
         clear H'
         obtain ⟨x5_3, x36_3, rfl, HA, HK3, HO_5, HB⟩ := hrel
         cases gk with
         | zero => exact absurd HA.out (by simp [impl_rowsTimes.l2])
         | succ k3 =>
          have H := HA.out
          clear HA
          simp only [impl_rowsTimes.l2] at H
          by_cases c13 : x36_3 < ((rd_L1 l1 x24_2).length : Int)
          ·rw [if_pos c13] at H
           have c13b0 := decide_eq_true c13
           clear c13
           obtain ⟨c14, H⟩ := itn_ H
           have c14b0 := decide_eq_true c14
           clear c14
           obtain ⟨c15, H⟩ := itn_ H
           have c15b0 := decide_eq_true c15
           clear c15
           obtain ⟨c16, H⟩ := itn_ H
           have c16b0 := decide_eq_true c16
           clear c16
           obtain ⟨c17, H⟩ := itn_ H
           have c17b0 := decide_eq_true c17
           clear c17
           obtain ⟨c18, H⟩ := itn_ H
           have c18b0 := decide_eq_true c18
           clear c18
           obtain ⟨y257, Ny257, H⟩ : ∃ y257 : List Int, Aside0 (y257 = ((rd_L1 x5_3 x17_1).set (x36_3 : Int).toNat (wrap64 ((rd (rd_L1 x5_3 x17_1) x36_3) + (wrap64 ((rd (rd_L1 l0 x17_1) x24_2) * (rd (rd_L1 l1 x24_2) x36_3))))))) ∧ (impl_rowsTimes.l2 k3 l1 (x5_3.set (x17_1 : Int).toNat y257) x17_1 (rd (rd_L1 l0 x17_1) x24_2) l0 (l0.length : Int) x17_1 (rd_L1 l0 x17_1) ((rd_L1 l0 x17_1).length : Int) x24_2 (rd_L1 l1 x24_2) ((rd_L1 l1 x24_2).length : Int) (wrap64 (x36_3 + 1))) = some r := ⟨_, ⟨rfl⟩, H⟩
           obtain ⟨y259, Ny259, H⟩ : ∃ y259 : List (List Int), Aside0 (y259 = (x5_3.set (x17_1 : Int).toNat y257)) ∧ (impl_rowsTimes.l2 k3 l1 y259 x17_1 (rd (rd_L1 l0 x17_1) x24_2) l0 (l0.length : Int) x17_1 (rd_L1 l0 x17_1) ((rd_L1 l0 x17_1).length : Int) x24_2 (rd_L1 l1 x24_2) ((rd_L1 l1 x24_2).length : Int) (wrap64 (x36_3 + 1))) = some r := ⟨_, ⟨rfl⟩, H⟩
           have H' := Aside0.mk H
           clear H
           have p254 : 0 ≤ (x36_3 : Int) := od_
           have q254 : x36_3 < ((rd_L1 l1 x24_2).length : Int) := od_
           obtain ⟨ad254, e254, hx254_0⟩ := Kd.at_int HR253_0.out x36_3 p254 q254
           cases e254
           (try replace hx254_0 := (HB.out.cell (World.block_lt_of_cell? w _ hx254_0)).trans hx254_0)
           replace p254 := eq_true p254
           replace q254 := eq_true q254
           obtain ⟨Ao20, co20, eo20⟩ := Kd.S_slice HO_5.out
           subst eo20
           have p255 : 0 ≤ (x17_1 : Int) := od_
           have q255 : x17_1 < (x5_3.length : Int) := od_
           obtain ⟨ad255, A255_0, c255_0, e255, hx255_0, hl255_0, hi255_0⟩ := at_L1 (Kd.S_reads' HO_5.out).2.2 x17_1 p255 q255
           cases e255
           obtain ⟨ce255, hce255, hMe255, hcc255⟩ := Kd.S_get HO_5.out [] x17_1 p255 (by first | exact q255 | exact od_ | (have e_ := (Kd.S_reads' HO_5.out).1; omega))
           obtain ⟨ve255_0, rfl, ge255_0⟩ := hMe255
           have hv255_0 := hcc255 0 _ rfl
           rw [Nat.add_zero, show ((Kd.slice 2 (Kd.int .i64))).sz = 1 from rfl, Nat.mul_one] at hv255_0
           replace hv255_0 := Option.some.inj (hv255_0.symm.trans hx255_0)
           rw [hv255_0] at ge255_0
           have HL255_0 := Aside0.mk (show Kd.R (Kd.int .i64) 2 _ _ _ _ (rd_L1 x5_3 x17_1) from ge255_0)
           clear hv255_0 ge255_0
           have HX255_0 := Aside0.mk hx255_0
           clear hcc255 hce255
           have HR255_0 := Aside0.mk hi255_0
           have HC255_0 := Aside0.mk hl255_0
           clear hi255_0 hl255_0
           replace p255 := eq_true p255
           replace q255 := eq_true q255
           have p256 : 0 ≤ (x36_3 : Int) := od_
           have q256 : x36_3 < ((rd_L1 x5_3 x17_1).length : Int) := od_
           obtain ⟨ad256, e256, hx256_0⟩ := Kd.at_int (by repeat (first | (with_reducible exact HR255_0.out) | (with_reducible refine Kd.C_alloc ?_ _) | (with_reducible refine Kd.C_drewN ?_ _) | (with_reducible refine Kd.C_drew ?_) | exact HR255_0.out)) x36_3 p256 q256
           cases e256
           replace p256 := eq_true p256
           replace q256 := eq_true q256
           have p19 : 0 ≤ (x36_3 : Int) := od_
           have q19 : (x36_3 : Int) < (((rd_L1 x5_3 x17_1).length : Int) : Int) := od_
           obtain ⟨go19, co19, eo19, gb19, gl19, cl19, HG19⟩ := Kd.R_form HL255_0.out (by omega)
           (first | cases eo19 | (injection eo19 with ea_ en_ ec_; (first | subst ea_ | (injection ea_ with ea_; subst ea_)); subst ec_; clear en_))
           have GB19 := Aside0.mk gb19
           have GG19 := Aside0.mk HG19
           clear gb19 gl19 HG19
           (first | simp only [add_plain] at hx256_0 | skip)
           obtain ⟨hx19_0, hf19_0⟩ := Kd.R_celln 0 HL255_0.out (x36_3 : Int) p19 q19
           replace p19 := eq_true p19
           replace q19 := eq_true q19
           have hq21 : (x17_1 : Int) < (x5_3.length : Int) := (by have h_ : (x17_1 : Int) < ((x5_3.length : Int) : Int) := od_; first | exact h_ | (have e_ := (Kd.S_reads' HO_5.out).1; omega) | simpa only [List.length_set, List.length_set] using h_)
           obtain ⟨oki21, ce21, hcl21, hM21, hcc21, hok21, hbk21⟩ := Kd.S_borrow HO_5.out [] (x17_1 : Int) (od_) (by first | exact hq21 | (have e_ := (Kd.S_reads' HO_5.out).1; have h_ := hq21; omega))
           obtain ⟨ve21_0, rfl, ge21_0⟩ := hM21
           have hv21 := hcc21 0 _ rfl
           rw [Nat.add_zero, show ((Kd.slice 2 (Kd.int .i64))).sz = 1 from rfl, Nat.mul_one] at hv21
           replace hv21 := Option.some.inj (hv21.symm.trans HX255_0.out)
           subst hv21
           clear hcc21 hcl21
           replace ge21_0 := (show Kd.R (Kd.int .i64) 2 _ _ _ _ (rd_L1 x5_3 x17_1) from ge21_0)
           have HP21 := Kd.R_putg ge21_0 (x36_3 : Int) (wrap64 ((rd (rd_L1 x5_3 x17_1) x36_3) + (wrap64 ((rd (rd_L1 l0 x17_1) x24_2) * (rd (rd_L1 l1 x24_2) x36_3)))))
           go_wp2_with (first | ((with_reducible refine gate_store (t := 2) (p := 52) rfl ?_); refine store_event (t := 2) (p := 52) (v := ?vo_w22) (w1 := (wr.setCell ⟨go19, (x36_3 : Int).toNat, none⟩ (.int .i64 (wrap64 ((rd (rd_L1 x5_3 x17_1) x36_3) + (wrap64 ((rd (rd_L1 l0 x17_1) x24_2) * (rd (rd_L1 l1 x24_2) x36_3)))))))) ?hg ?ho ?hn ?hr ?_; (case ho => rfl); (case hg => rfl); (case hn => rfl); (case hr => first | (go_simp; done) | (go_simp; rfl)); intro w22 hw; have hg : wr.grownBy w22 (some go19) := (by rw [hw]; exact HP21.2); have hz_ : Kd.R (Kd.int .i64) 2 w22 w.heap.size oki21 (.slice (some ⟨go19, 0, none⟩) (rd_L1 x5_3 x17_1).length c255_0) y257 := (by rw [hw, Ny257.out]; exact HP21.1); have hp_ : Kd.S (Kd.slice 2 (Kd.int .i64)) 26 w22 w.heap.size (fun _ => True) (.slice (some ad255) x5_3.length co20) y259 := (by rw [Ny259.out]; exact hbk21 hg (fun k_ e_ => by injection e_ with e_; subst e_; exact ge21_0.1 _ rfl) (Kd.M_row hz_)); have hm_ := Kd.R_mono hz_ hok21; clear HP21 hbk21; replace HO_5 := Aside0.mk (hp_); replace HB := Aside0.mk ((by rw [hw]; exact below_set (HB.out) GB19.out : Below w.heap.size w w22)); have HL260 := Aside0.mk (hm_); have HC258 := Aside0.mk ((Kd.R_reads' hm_).2.1); clear HL255_0; clear hg hw hp_ hz_ hm_ hok21))
           first | go_roundg k3 | (refine Handed.intro k3 ?measure ?_; rotate_left; go_step; (try simp only [add_plain]); (repeat apply Exists.intro); refine ⟨?rel, rfl⟩)
           case measure => have := HK1.out; have := HK2.out; have := HK3.out; omega
           case rel => exact ⟨(y259), (wrap64 (x36_3 + 1)), es_, H', ⟨by have := HK1.out; have := HK2.out; have := HK3.out; omega⟩, ⟨Kd.S_below HO_5.out bgo_⟩, ⟨hb_⟩⟩
          ·rw [if_neg c13] at H
           have c13b0 := decide_eq_false c13
           clear c13
           have H' := Aside0.mk H
           clear H
           go_wp2
           first | go_roundg k3 | (refine Handed.intro k3 ?measure ?_; rotate_left; go_step; (try simp only [add_plain]); (repeat apply Exists.intro); refine ⟨?rel, rfl⟩)
           case measure => have := HK1.out; have := HK2.out; have := HK3.out; omega
           case rel => exact ⟨(x5_3), (wrap64 (x24_2 + 1)), es_, H', ⟨by have := HK1.out; have := HK2.out; have := HK3.out; omega⟩, ⟨Kd.S_below HO_5.out bgo_⟩, ⟨hb_⟩⟩
      ·rw [if_neg c8] at H
       have c8b0 := decide_eq_false c8
       clear c8
       have H' := Aside0.mk H
       clear H
       go_wp2
       first | go_roundg k2 | (refine Handed.intro k2 ?measure ?_; rotate_left; go_step; (try simp only [add_plain]); (repeat apply Exists.intro); refine ⟨?rel, rfl⟩)
       case measure => have := HK1.out; have := HK2.out; omega
       case rel => exact ⟨(x5_2), (wrap64 (x17_1 + 1)), es_, H', ⟨by have := HK1.out; have := HK2.out; omega⟩, ⟨Kd.S_below HO_5.out bgo_⟩, ⟨hb_⟩⟩
   ·rw [if_neg c5] at H
    have c5b0 := decide_eq_false c5
    clear c5
    obtain rfl := Option.some.inj H
    go_wp2
    go_ret
    exact ⟨_, er_, (Kd.S_below HO_5.out bgo_), hb_⟩

/-! ### impl_Graph_size: function 104 -/
def impl_Graph_size.f (a0_0 : Int) (l0_1 : List (List Int)) : Option (Int) := some (l0_1.length : Int)
set_option maxHeartbeats 8000000 in
set_option maxRecDepth 100000 in
theorem impl_Graph_size.calls (a0_0 : Int) (A0_1 : Option Addr) (c0_1 : Nat) (l0_1 : List (List Int)) (r : Int) (w : World) (hr0_1 : Kd.C (Kd.slice 2 (Kd.int .i64)) w A0_1 l0_1.length l0_1) (hc0_1 : l0_1.length ≤ c0_1) (h : impl_Graph_size.f a0_0 l0_1 = some r) :
  Calls Try.prog 104 #[.agg #[.int .i64 a0_0, .slice A0_1 l0_1.length c0_1]] w fun e w' => e = .returned (.int .i64 r) ∧ Below w.heap.size w w' := by
 have hu29 := Try.underlying29
 have HR0_1 := Aside0.mk hr0_1
 have HC0_1 := Aside0.mk hc0_1
 clear hr0_1 hc0_1
 have HB := Aside0.mk (Below.refl w.heap.size w)
 have H : (some (l0_1.length : Int)) = some r := h
 clear h
 obtain rfl := Option.some.inj H
 go_enter Try.func104, Try.ntmps104
 go_wp2_with (first | ((with_reducible refine gate_dst (N := 1) rfl ?_); refine box_event ?hg (N := 1) ?hd (cs := #[.int .i64 a0_0, .slice A0_1 l0_1.length c0_1]) (t := 29) ?hr ?_; (case hd => rfl); (case hg => rfl); (case hr => first | (go_simp; done) | (go_simp; rfl)); intro gb261 hg w2 hbox hb; have BK261 := Aside0.mk (hbox); have GW261 := Aside0.mk ((by rw [hg]; exact (below_size hb_) : w.heap.size ≤ gb261)); have GE261 := Aside0.mk ((by rw [hg]; exact (below_size hb_) : w.heap.size ≤ gb261)); replace HB := Aside0.mk (below_step hb_ hb); clear hb hbox hg; have hcz3_0 : w2.cell? ⟨gb261, 0, none⟩ = some (.int .i64 a0_0) := (blk_cell BK261.out 0).trans rfl; have hcz3_1 : w2.cell? ⟨gb261, 1, none⟩ = some (.slice A0_1 l0_1.length c0_1) := (blk_cell BK261.out 1).trans rfl; have hfz3_0 := blk_frozen BK261.out 0; have hfz3_1 := blk_frozen BK261.out 1))
 go_ret
 exact ⟨er_, hbs_⟩

/-! ### impl_Graph_edgeMatrix: function 99 -/
mutual
def impl_Graph_edgeMatrix.l0 : Nat → List (List Int) → Int → Int → Int → List (List Int) → Option ((List (List Int)))
 | 0, _, _, _, _, _ => none
 | k + 1, x3, x16, x17, x263000, x263001 => if x17 < x16 then ((impl_Graph_ends.f x263000 x263001 x17).bind fun bt268 => ((impl_Graph_size.f x263000 x263001).bind fun t270 => (impl_Graph_edgeMatrix.l1 k x3 x17 bt268.2 x16 x17 (wrap64 (2 * t270)) 0 x263000 x263001))) else (some x3)
def impl_Graph_edgeMatrix.l1 : Nat → List (List Int) → Int → Int → Int → Int → Int → Int → Int → List (List Int) → Option ((List (List Int)))
 | 0, _, _, _, _, _, _, _, _, _ => none
 | k + 1, x3, x4, x6, x16, x17, x28, x29, x263000, x263001 => if x29 < x28 then ((impl_Graph_ends.f x263000 x263001 x29).bind fun bt271 => (if bt271.1 = x6 then (if x29 = (Go.bits .xor .i64 x4 1) then (impl_Graph_edgeMatrix.l1 k x3 x4 x6 x16 x17 x28 (wrap64 (x29 + 1)) x263000 x263001) else (if 0 ≤ x4 then (if x4 < (x3.length : Int) then (if 0 ≤ x29 then (if x29 < ((rd_L1 x3 x4).length : Int) then (impl_Graph_edgeMatrix.l1 k (x3.set (x4 : Int).toNat ((rd_L1 x3 x4).set (x29 : Int).toNat 1)) x4 x6 x16 x17 x28 (wrap64 (x29 + 1)) x263000 x263001) else (none)) else (none)) else (none)) else (none))) else (impl_Graph_edgeMatrix.l1 k x3 x4 x6 x16 x17 x28 (wrap64 (x29 + 1)) x263000 x263001))) else (impl_Graph_edgeMatrix.l0 k x3 x16 (wrap64 (x17 + 1)) x263000 x263001)
end
def impl_Graph_edgeMatrix.f (k : Nat) (a0_0 : Int) (l0_1 : List (List Int)) : Option ((List (List Int))) := (impl_Graph_size.f a0_0 l0_1).bind fun t263 => ((impl_square.f k (wrap64 (2 * t263))).bind fun t264 => ((impl_Graph_size.f a0_0 l0_1).bind fun t267 => (impl_Graph_edgeMatrix.l0 k t264 (wrap64 (2 * t267)) 0 a0_0 l0_1)))
set_option maxHeartbeats 8000000 in
set_option maxRecDepth 100000 in
theorem impl_Graph_edgeMatrix.calls (k : Nat) (a0_0 : Int) (A0_1 : Option Addr) (c0_1 : Nat) (l0_1 : List (List Int)) (r : List (List Int)) (w : World) (hr0_1 : Kd.C (Kd.slice 2 (Kd.int .i64)) w A0_1 l0_1.length l0_1) (hc0_1 : l0_1.length ≤ c0_1) (h : impl_Graph_edgeMatrix.f k a0_0 l0_1 = some r) :
  Calls Try.prog 99 #[.agg #[.int .i64 a0_0, .slice A0_1 l0_1.length c0_1]] w fun e w' => ∃ v0_ : Value, e = .returned (v0_) ∧ Kd.S (Kd.slice 2 (Kd.int .i64)) 26 w' w.heap.size (fun _ => True) v0_ r ∧ Below w.heap.size w w' := by
 have hu29 := Try.underlying29
 have HR0_1 := Aside0.mk hr0_1
 have HC0_1 := Aside0.mk hc0_1
 clear hr0_1 hc0_1
 have HB := Aside0.mk (Below.refl w.heap.size w)
 have H : ((impl_Graph_size.f a0_0 l0_1).bind fun t263 => ((impl_square.f k (wrap64 (2 * t263))).bind fun t264 => ((impl_Graph_size.f a0_0 l0_1).bind fun t267 => (impl_Graph_edgeMatrix.l0 k t264 (wrap64 (2 * t267)) 0 a0_0 l0_1)))) = some r := h
 clear h
 obtain ⟨t263, A2, H⟩ := bnd_ H
 obtain ⟨t264, A3, H⟩ := bnd_ H
 obtain ⟨t267, A4, H⟩ := bnd_ H
 have H' := Aside0.mk H
 clear H
 go_enter Try.func99, Try.ntmps99
 go_wp2_with (first | ((with_reducible refine gate_dst (N := 1) rfl ?_); refine box_event ?hg (N := 1) ?hd (cs := #[.int .i64 a0_0, .slice A0_1 l0_1.length c0_1]) (t := 29) ?hr ?_; (case hd => rfl); (case hg => rfl); (case hr => first | (go_simp; done) | (go_simp; rfl)); intro gb262 hg w5 hbox hb; have BK262 := Aside0.mk (hbox); have GW262 := Aside0.mk ((by rw [hg]; exact (below_size hb_) : w.heap.size ≤ gb262)); have GE262 := Aside0.mk ((by rw [hg]; exact (below_size hb_) : w.heap.size ≤ gb262)); replace HB := Aside0.mk (below_step hb_ hb); clear hb hbox hg; have hcz6_0 : w5.cell? ⟨gb262, 0, none⟩ = some (.int .i64 a0_0) := (blk_cell BK262.out 0).trans rfl; have hcz6_1 : w5.cell? ⟨gb262, 1, none⟩ = some (.slice A0_1 l0_1.length c0_1) := (blk_cell BK262.out 1).trans rfl; have hfz6_0 := blk_frozen BK262.out 0; have hfz6_1 := blk_frozen BK262.out 1) | ((with_reducible refine gate_callee (f := 104) rfl ?_); refine goesL_ (some 11) rfl rfl Try.func104 (by kernel_rfl) rfl #[.agg #[.int .i64 a0_0, .slice A0_1 l0_1.length c0_1]] rfl arg_ ?_; (with_reducible refine (impl_Graph_size.calls a0_0 _ _ l0_1 t263 _ ?side1 ?side2 A2.out).mono ?_); (case side1 => exact Kd.C_below (Kd.C_below HR0_1.out HB.out) bgo_); (case side2 => exact HC0_1.out); rintro e w7 ⟨rfl, hb⟩; refine ⟨_, rfl, ?_⟩; replace BK262 := Aside0.mk (blk_below (g := gb262) (o := .cells #[.int .i64 a0_0, .slice A0_1 l0_1.length c0_1] 29 (0, 0)) (blk_below BK262.out bgo_) hb); replace HB := Aside0.mk (below_step hbs_ hb); (try clear hb); (try clear hb2); (try clear hk); (try clear hi)) | ((with_reducible refine gate_callee (f := 95) rfl ?_); refine goesL_ (some 13) rfl rfl Try.func95 (by kernel_rfl) rfl #[.int .i64 (wrap64 (2 * t263))] rfl arg_ ?_; (with_reducible refine (impl_square.calls k (wrap64 (2 * t263)) t264 _ A3.out).mono ?_); rintro e w8 ⟨v265, rfl, ho0, hb⟩; refine ⟨_, rfl, ?_⟩; have HO266 := Aside0.mk (Kd.S_lower ho0 (below_size hbs_)); replace BK262 := Aside0.mk (blk_below (g := gb262) (o := .cells #[.int .i64 a0_0, .slice A0_1 l0_1.length c0_1] 29 (0, 0)) (blk_below BK262.out bgo_) hb); replace HB := Aside0.mk (below_step hbs_ hb); (try clear hb); (try clear hb2); (try clear hk); (try clear hi); (try clear ho0); have hcz9_0 : w8.cell? ⟨gb262, 0, none⟩ = some (.int .i64 a0_0) := (blk_cell BK262.out 0).trans rfl; have hcz9_1 : w8.cell? ⟨gb262, 1, none⟩ = some (.slice A0_1 l0_1.length c0_1) := (blk_cell BK262.out 1).trans rfl; have hfz9_0 := blk_frozen BK262.out 0; have hfz9_1 := blk_frozen BK262.out 1) | ((with_reducible refine gate_callee (f := 104) rfl ?_); refine goesL_ (some 15) rfl rfl Try.func104 (by kernel_rfl) rfl #[.agg #[.int .i64 a0_0, .slice A0_1 l0_1.length c0_1]] rfl arg_ ?_; (with_reducible refine (impl_Graph_size.calls a0_0 _ _ l0_1 t267 _ ?side1 ?side2 A4.out).mono ?_); (case side1 => exact Kd.C_below (Kd.C_below HR0_1.out HB.out) bgo_); (case side2 => exact HC0_1.out); rintro e w10 ⟨rfl, hb⟩; refine ⟨_, rfl, ?_⟩; replace HO266 := Aside0.mk (Kd.S_below (Kd.S_below HO266.out bgo_) hb); replace BK262 := Aside0.mk (blk_below (g := gb262) (o := .cells #[.int .i64 a0_0, .slice A0_1 l0_1.length c0_1] 29 (0, 0)) (blk_below BK262.out bgo_) hb); replace HB := Aside0.mk (below_step hbs_ hb); (try clear hb); (try clear hb2); (try clear hk); (try clear hi)))
 go_loopg [17] k (fun kq v17 w' => ∃ (x3_1 : List (List Int)) (x17_1 : Int), v17 = .int .i64 x17_1 ∧ Aside0 (impl_Graph_edgeMatrix.l0 kq x3_1 (wrap64 (2 * t267)) x17_1 a0_0 l0_1 = some r) ∧ Aside0 (kq ≤ k) ∧ Aside0 (Kd.S (Kd.slice 2 (Kd.int .i64)) 26 w' w.heap.size (fun _ => True) v265 x3_1) ∧ Aside0 (w'.heap[gb262]? = some (.cells #[.int .i64 a0_0, (.slice A0_1 l0_1.length c0_1)] 29 (0, 0))) ∧ Aside0 (Below w.heap.size w w'))
 case atStart => exact ⟨(t264), (0), es_, H', ⟨Nat.le_refl _⟩, ⟨Kd.S_below HO266.out bgo_⟩, ⟨blk_below BK262.out bgo_⟩, ⟨hbs_⟩⟩
 case round =>
  clear H'
  obtain ⟨x3_1, x17_1, rfl, HA, HK1, HO_3, BK262, HB⟩ := hrel
  cases gk with
  | zero => exact absurd HA.out (by simp [impl_Graph_edgeMatrix.l0])
  | succ k1 =>
   have H := HA.out
   clear HA
   simp only [impl_Graph_edgeMatrix.l0] at H
   by_cases c11 : x17_1 < (wrap64 (2 * t267))
   ·rw [if_pos c11] at H
    have c11b0 := decide_eq_true c11
    clear c11
    obtain ⟨⟨t268, t269⟩, A12, H⟩ := bnd_ H
    dsimp only at H
    obtain ⟨t270, A13, H⟩ := bnd_ H
    have H' := Aside0.mk H
    clear H
    have hcz14_0 : wr.cell? ⟨gb262, 0, none⟩ = some (.int .i64 a0_0) := (blk_cell BK262.out 0).trans rfl
    have hcz14_1 : wr.cell? ⟨gb262, 1, none⟩ = some (.slice A0_1 l0_1.length c0_1) := (blk_cell BK262.out 1).trans rfl
    have hfz14_0 := blk_frozen BK262.out 0
    have hfz14_1 := blk_frozen BK262.out 1
    go_wp2_with (first | ((with_reducible refine gate_callee (f := 71) rfl ?_); refine goesL_ (some 23) rfl rfl Try.func71 (by kernel_rfl) rfl #[.agg #[.int .i64 a0_0, .slice A0_1 l0_1.length c0_1], .int .i64 x17_1] rfl arg_ ?_; (with_reducible refine (impl_Graph_ends.calls a0_0 _ _ l0_1 x17_1 t268 t269 _ ?side1 ?side2 A12.out).mono ?_); (case side1 => exact Kd.C_below (Kd.C_below HR0_1.out HB.out) bgo_); (case side2 => exact HC0_1.out); rintro e w15 ⟨rfl, hb⟩; refine ⟨_, rfl, ?_⟩; replace HO_3 := Aside0.mk (Kd.S_below (Kd.S_below HO_3.out bgo_) hb); replace BK262 := Aside0.mk (blk_below (g := gb262) (o := .cells #[.int .i64 a0_0, .slice A0_1 l0_1.length c0_1] 29 (0, 0)) (blk_below BK262.out bgo_) hb); replace HB := Aside0.mk (below_step hbs_ hb); (try clear hb); (try clear hb2); (try clear hk); (try clear hi); have hcz16_0 : w15.cell? ⟨gb262, 0, none⟩ = some (.int .i64 a0_0) := (blk_cell BK262.out 0).trans rfl; have hcz16_1 : w15.cell? ⟨gb262, 1, none⟩ = some (.slice A0_1 l0_1.length c0_1) := (blk_cell BK262.out 1).trans rfl; have hfz16_0 := blk_frozen BK262.out 0; have hfz16_1 := blk_frozen BK262.out 1) | ((with_reducible refine gate_callee (f := 104) rfl ?_); refine goesL_ (some 27) rfl rfl Try.func104 (by kernel_rfl) rfl #[.agg #[.int .i64 a0_0, .slice A0_1 l0_1.length c0_1]] rfl arg_ ?_; (with_reducible refine (impl_Graph_size.calls a0_0 _ _ l0_1 t270 _ ?side1 ?side2 A13.out).mono ?_); (case side1 => exact Kd.C_below (Kd.C_below HR0_1.out HB.out) bgo_); (case side2 => exact HC0_1.out); rintro e w17 ⟨rfl, hb⟩; refine ⟨_, rfl, ?_⟩; replace HO_3 := Aside0.mk (Kd.S_below (Kd.S_below HO_3.out bgo_) hb); replace BK262 := Aside0.mk (blk_below (g := gb262) (o := .cells #[.int .i64 a0_0, .slice A0_1 l0_1.length c0_1] 29 (0, 0)) (blk_below BK262.out bgo_) hb); replace HB := Aside0.mk (below_step hbs_ hb); (try clear hb); (try clear hb2); (try clear hk); (try clear hi)))
    go_loopg [29] k1 (fun kq v29 w' => ∃ (x3_2 : List (List Int)) (x29_2 : Int), v29 = .int .i64 x29_2 ∧ Aside0 (impl_Graph_edgeMatrix.l1 kq x3_2 x17_1 t269 (wrap64 (2 * t267)) x17_1 (wrap64 (2 * t270)) x29_2 a0_0 l0_1 = some r) ∧ Aside0 (kq ≤ k1) ∧ Aside0 (Kd.S (Kd.slice 2 (Kd.int .i64)) 26 w' w.heap.size (fun _ => True) v265 x3_2) ∧ Aside0 (w'.heap[gb262]? = some (.cells #[.int .i64 a0_0, (.slice A0_1 l0_1.length c0_1)] 29 (0, 0))) ∧ Aside0 (Below w.heap.size w w'))
    case atStart => exact ⟨(x3_1), (0), es_, H', ⟨Nat.le_refl _⟩, ⟨Kd.S_below HO_3.out bgo_⟩, ⟨blk_below BK262.out bgo_⟩, ⟨hbs_⟩⟩
    case round =>
     clear H'
     obtain ⟨x3_2, x29_2, rfl, HA, HK2, HO_3, BK262, HB⟩ := hrel
     cases gk with
     | zero => exact absurd HA.out (by simp [impl_Graph_edgeMatrix.l1])
     | succ k2 =>
      have H := HA.out
      clear HA
      simp only [impl_Graph_edgeMatrix.l1] at H
      by_cases c18 : x29_2 < (wrap64 (2 * t270))
      ·rw [if_pos c18] at H
       have c18b0 := decide_eq_true c18
       clear c18
       obtain ⟨⟨t271, t272⟩, A19, H⟩ := bnd_ H
       dsimp only at H
       by_cases c20 : t271 = t269
       ·rw [if_pos c20] at H
        have c20b0 : (t271 == t269) = true := beq_iff_eq.mpr c20
        have c20b1 : (t271 != t269) = false := bne_eq_false_iff_eq.mpr c20
        clear c20
        by_cases c21 : x29_2 = (Go.bits .xor .i64 x17_1 1)
        ·rw [if_pos c21] at H
         have c21b0 : (x29_2 == (Go.bits .xor .i64 x17_1 1)) = true := beq_iff_eq.mpr c21
         have c21b1 : (x29_2 != (Go.bits .xor .i64 x17_1 1)) = false := bne_eq_false_iff_eq.mpr c21
         clear c21
         have H' := Aside0.mk H
         clear H
         have hcz22_0 : wr.cell? ⟨gb262, 0, none⟩ = some (.int .i64 a0_0) := (blk_cell BK262.out 0).trans rfl
         have hcz22_1 : wr.cell? ⟨gb262, 1, none⟩ = some (.slice A0_1 l0_1.length c0_1) := (blk_cell BK262.out 1).trans rfl
         have hfz22_0 := blk_frozen BK262.out 0
         have hfz22_1 := blk_frozen BK262.out 1
         go_wp2_with (first | ((with_reducible refine gate_callee (f := 71) rfl ?_); refine goesL_ (some 35) rfl rfl Try.func71 (by kernel_rfl) rfl #[.agg #[.int .i64 a0_0, .slice A0_1 l0_1.length c0_1], .int .i64 x29_2] rfl arg_ ?_; (with_reducible refine (impl_Graph_ends.calls a0_0 _ _ l0_1 x29_2 t271 t272 _ ?side1 ?side2 A19.out).mono ?_); (case side1 => exact Kd.C_below (Kd.C_below HR0_1.out HB.out) bgo_); (case side2 => exact HC0_1.out); rintro e w23 ⟨rfl, hb⟩; refine ⟨_, rfl, ?_⟩; replace HO_3 := Aside0.mk (Kd.S_below (Kd.S_below HO_3.out bgo_) hb); replace BK262 := Aside0.mk (blk_below (g := gb262) (o := .cells #[.int .i64 a0_0, .slice A0_1 l0_1.length c0_1] 29 (0, 0)) (blk_below BK262.out bgo_) hb); replace HB := Aside0.mk (below_step hbs_ hb); (try clear hb); (try clear hb2); (try clear hk); (try clear hi)))
         first | go_roundg k2 | (refine Handed.intro k2 ?measure ?_; rotate_left; go_step; (try simp only [add_plain]); (repeat apply Exists.intro); refine ⟨?rel, rfl⟩)
         case measure => have := HK1.out; have := HK2.out; omega
         case rel => exact ⟨(x3_2), (wrap64 (x29_2 + 1)), es_, H', ⟨by have := HK1.out; have := HK2.out; omega⟩, ⟨Kd.S_below HO_3.out bgo_⟩, ⟨blk_below BK262.out bgo_⟩, ⟨hbs_⟩⟩
        ·rw [if_neg c21] at H
         have c21b0 : (x29_2 == (Go.bits .xor .i64 x17_1 1)) = false := beq_eq_false_iff_ne.mpr c21
         have c21b1 : (x29_2 != (Go.bits .xor .i64 x17_1 1)) = true := bne_iff_ne.mpr c21
         obtain ⟨c24, H⟩ := itn_ H
         have c24b0 := decide_eq_true c24
         clear c24
         obtain ⟨c25, H⟩ := itn_ H
         have c25b0 := decide_eq_true c25
         clear c25
         obtain ⟨c26, H⟩ := itn_ H
         have c26b0 := decide_eq_true c26
         clear c26
         obtain ⟨c27, H⟩ := itn_ H
         have c27b0 := decide_eq_true c27
         clear c27
         obtain ⟨y274, Ny274, H⟩ : ∃ y274 : List Int, Aside0 (y274 = ((rd_L1 x3_2 x17_1).set (x29_2 : Int).toNat 1)) ∧ (impl_Graph_edgeMatrix.l1 k2 (x3_2.set (x17_1 : Int).toNat y274) x17_1 t269 (wrap64 (2 * t267)) x17_1 (wrap64 (2 * t270)) (wrap64 (x29_2 + 1)) a0_0 l0_1) = some r := ⟨_, ⟨rfl⟩, H⟩
         obtain ⟨y276, Ny276, H⟩ : ∃ y276 : List (List Int), Aside0 (y276 = (x3_2.set (x17_1 : Int).toNat y274)) ∧ (impl_Graph_edgeMatrix.l1 k2 y276 x17_1 t269 (wrap64 (2 * t267)) x17_1 (wrap64 (2 * t270)) (wrap64 (x29_2 + 1)) a0_0 l0_1) = some r := ⟨_, ⟨rfl⟩, H⟩
         have H' := Aside0.mk H
         clear H
         have hcz29_0 : wr.cell? ⟨gb262, 0, none⟩ = some (.int .i64 a0_0) := (blk_cell BK262.out 0).trans rfl
         have hcz29_1 : wr.cell? ⟨gb262, 1, none⟩ = some (.slice A0_1 l0_1.length c0_1) := (blk_cell BK262.out 1).trans rfl
         have hfz29_0 := blk_frozen BK262.out 0
         have hfz29_1 := blk_frozen BK262.out 1
         go_wp2_with (first | ((with_reducible refine gate_callee (f := 71) rfl ?_); refine goesL_ (some 35) rfl rfl Try.func71 (by kernel_rfl) rfl #[.agg #[.int .i64 a0_0, .slice A0_1 l0_1.length c0_1], .int .i64 x29_2] rfl arg_ ?_; (with_reducible refine (impl_Graph_ends.calls a0_0 _ _ l0_1 x29_2 t271 t272 _ ?side1 ?side2 A19.out).mono ?_); (case side1 => exact Kd.C_below (Kd.C_below HR0_1.out HB.out) bgo_); (case side2 => exact HC0_1.out); rintro e w30 ⟨rfl, hb⟩; refine ⟨_, rfl, ?_⟩; replace HO_3 := Aside0.mk (Kd.S_below (Kd.S_below HO_3.out bgo_) hb); replace BK262 := Aside0.mk (blk_below (g := gb262) (o := .cells #[.int .i64 a0_0, .slice A0_1 l0_1.length c0_1] 29 (0, 0)) (blk_below BK262.out bgo_) hb); replace HB := Aside0.mk (below_step hbs_ hb); (try clear hb); (try clear hb2); (try clear hk); (try clear hi); obtain ⟨Ao31, co31, eo31⟩ := Kd.S_slice HO_3.out; subst eo31; have p273 : 0 ≤ (x17_1 : Int) := od_; have q273 : x17_1 < (x3_2.length : Int) := od_; obtain ⟨ad273, A273_0, c273_0, e273, hx273_0, hl273_0, hi273_0⟩ := at_L1 (Kd.S_reads' HO_3.out).2.2 x17_1 p273 q273; cases e273; obtain ⟨ce273, hce273, hMe273, hcc273⟩ := Kd.S_get HO_3.out [] x17_1 p273 (by first | exact q273 | exact od_ | (have e_ := (Kd.S_reads' HO_3.out).1; omega)); obtain ⟨ve273_0, rfl, ge273_0⟩ := hMe273; have hv273_0 := hcc273 0 _ rfl; rw [Nat.add_zero, show ((Kd.slice 2 (Kd.int .i64))).sz = 1 from rfl, Nat.mul_one] at hv273_0; replace hv273_0 := Option.some.inj (hv273_0.symm.trans hx273_0); rw [hv273_0] at ge273_0; have HL273_0 := Aside0.mk (show Kd.R (Kd.int .i64) 2 _ _ _ _ (rd_L1 x3_2 x17_1) from ge273_0); clear hv273_0 ge273_0; have HX273_0 := Aside0.mk hx273_0; clear hcc273 hce273; have HR273_0 := Aside0.mk hi273_0; have HC273_0 := Aside0.mk hl273_0; clear hi273_0 hl273_0; replace p273 := eq_true p273; replace q273 := eq_true q273; have p28 : 0 ≤ (x29_2 : Int) := od_; have q28 : (x29_2 : Int) < (((rd_L1 x3_2 x17_1).length : Int) : Int) := od_; obtain ⟨go28, co28, eo28, gb28, gl28, cl28, HG28⟩ := Kd.R_form HL273_0.out (by omega); (first | cases eo28 | (injection eo28 with ea_ en_ ec_; (first | subst ea_ | (injection ea_ with ea_; subst ea_)); subst ec_; clear en_)); have GB28 := Aside0.mk gb28; have GG28 := Aside0.mk HG28; clear gb28 gl28 HG28; obtain ⟨hx28_0, hf28_0⟩ := Kd.R_celln 0 HL273_0.out (x29_2 : Int) p28 q28; replace p28 := eq_true p28; replace q28 := eq_true q28; have hq32 : (x17_1 : Int) < (x3_2.length : Int) := (by have h_ : (x17_1 : Int) < ((x3_2.length : Int) : Int) := od_; first | exact h_ | (have e_ := (Kd.S_reads' HO_3.out).1; omega) | simpa only [List.length_set, List.length_set] using h_); obtain ⟨oki32, ce32, hcl32, hM32, hcc32, hok32, hbk32⟩ := Kd.S_borrow HO_3.out [] (x17_1 : Int) (od_) (by first | exact hq32 | (have e_ := (Kd.S_reads' HO_3.out).1; have h_ := hq32; omega)); obtain ⟨ve32_0, rfl, ge32_0⟩ := hM32; have hv32 := hcc32 0 _ rfl; rw [Nat.add_zero, show ((Kd.slice 2 (Kd.int .i64))).sz = 1 from rfl, Nat.mul_one] at hv32; replace hv32 := Option.some.inj (hv32.symm.trans HX273_0.out); subst hv32; clear hcc32 hcl32; replace ge32_0 := (show Kd.R (Kd.int .i64) 2 _ _ _ _ (rd_L1 x3_2 x17_1) from ge32_0); have HP32 := Kd.R_putg ge32_0 (x29_2 : Int) 1) | ((with_reducible refine gate_store (t := 2) (p := 52) rfl ?_); refine store_event (t := 2) (p := 52) (v := ?vo_w33) (w1 := (w30.setCell ⟨go28, (x29_2 : Int).toNat, none⟩ (.int .i64 1))) ?hg ?ho ?hn ?hr ?_; (case ho => rfl); (case hg => rfl); (case hn => rfl); (case hr => first | (go_simp; done) | (go_simp; rfl)); intro w33 hw; have hg : w30.grownBy w33 (some go28) := (by rw [hw]; exact HP32.2); have hz_ : Kd.R (Kd.int .i64) 2 w33 w.heap.size oki32 (.slice (some ⟨go28, 0, none⟩) (rd_L1 x3_2 x17_1).length c273_0) y274 := (by rw [hw, Ny274.out]; exact HP32.1); have hp_ : Kd.S (Kd.slice 2 (Kd.int .i64)) 26 w33 w.heap.size (fun _ => True) (.slice (some ad273) x3_2.length co31) y276 := (by rw [Ny276.out]; exact hbk32 hg (fun k_ e_ => by injection e_ with e_; subst e_; exact ge32_0.1 _ rfl) (Kd.M_row hz_)); have hm_ := Kd.R_mono hz_ hok32; clear HP32 hbk32; replace HO_3 := Aside0.mk (hp_); replace BK262 := Aside0.mk (blk_grown (g := gb262) (o := .cells #[.int .i64 a0_0, .slice A0_1 l0_1.length c0_1] 29 (0, 0)) (blk_below BK262.out bgo_) hg (Kd.R_ne HL273_0.out BK262.out (by decide))); replace HB := Aside0.mk ((by rw [hw]; exact below_set (HB.out) GB28.out : Below w.heap.size w w33)); have HL277 := Aside0.mk (hm_); have HC275 := Aside0.mk ((Kd.R_reads' hm_).2.1); clear HL273_0; clear hg hw hp_ hz_ hm_ hok32))
         first | go_roundg k2 | (refine Handed.intro k2 ?measure ?_; rotate_left; go_step; (try simp only [add_plain]); (repeat apply Exists.intro); refine ⟨?rel, rfl⟩)
         case measure => have := HK1.out; have := HK2.out; omega
         case rel => exact ⟨(y276), (wrap64 (x29_2 + 1)), es_, H', ⟨by have := HK1.out; have := HK2.out; omega⟩, ⟨Kd.S_below HO_3.out bgo_⟩, ⟨blk_below BK262.out bgo_⟩, ⟨hbs_⟩⟩
       ·rw [if_neg c20] at H
        have c20b0 : (t271 == t269) = false := beq_eq_false_iff_ne.mpr c20
        have c20b1 : (t271 != t269) = true := bne_iff_ne.mpr c20
        have H' := Aside0.mk H
        clear H
        have hcz34_0 : wr.cell? ⟨gb262, 0, none⟩ = some (.int .i64 a0_0) := (blk_cell BK262.out 0).trans rfl
        have hcz34_1 : wr.cell? ⟨gb262, 1, none⟩ = some (.slice A0_1 l0_1.length c0_1) := (blk_cell BK262.out 1).trans rfl
        have hfz34_0 := blk_frozen BK262.out 0
        have hfz34_1 := blk_frozen BK262.out 1
        go_wp2_with (first | ((with_reducible refine gate_callee (f := 71) rfl ?_); refine goesL_ (some 35) rfl rfl Try.func71 (by kernel_rfl) rfl #[.agg #[.int .i64 a0_0, .slice A0_1 l0_1.length c0_1], .int .i64 x29_2] rfl arg_ ?_; (with_reducible refine (impl_Graph_ends.calls a0_0 _ _ l0_1 x29_2 t271 t272 _ ?side1 ?side2 A19.out).mono ?_); (case side1 => exact Kd.C_below (Kd.C_below HR0_1.out HB.out) bgo_); (case side2 => exact HC0_1.out); rintro e w35 ⟨rfl, hb⟩; refine ⟨_, rfl, ?_⟩; replace HO_3 := Aside0.mk (Kd.S_below (Kd.S_below HO_3.out bgo_) hb); replace BK262 := Aside0.mk (blk_below (g := gb262) (o := .cells #[.int .i64 a0_0, .slice A0_1 l0_1.length c0_1] 29 (0, 0)) (blk_below BK262.out bgo_) hb); replace HB := Aside0.mk (below_step hbs_ hb); (try clear hb); (try clear hb2); (try clear hk); (try clear hi)))
        first | go_roundg k2 | (refine Handed.intro k2 ?measure ?_; rotate_left; go_step; (try simp only [add_plain]); (repeat apply Exists.intro); refine ⟨?rel, rfl⟩)
        case measure => have := HK1.out; have := HK2.out; omega
        case rel => exact ⟨(x3_2), (wrap64 (x29_2 + 1)), es_, H', ⟨by have := HK1.out; have := HK2.out; omega⟩, ⟨Kd.S_below HO_3.out bgo_⟩, ⟨blk_below BK262.out bgo_⟩, ⟨hbs_⟩⟩
      ·rw [if_neg c18] at H
       have c18b0 := decide_eq_false c18
       clear c18
       have H' := Aside0.mk H
       clear H
       go_wp2
       first | go_roundg k2 | (refine Handed.intro k2 ?measure ?_; rotate_left; go_step; (try simp only [add_plain]); (repeat apply Exists.intro); refine ⟨?rel, rfl⟩)
       case measure => have := HK1.out; have := HK2.out; omega
       case rel => exact ⟨(x3_2), (wrap64 (x17_1 + 1)), es_, H', ⟨by have := HK1.out; have := HK2.out; omega⟩, ⟨Kd.S_below HO_3.out bgo_⟩, ⟨blk_below BK262.out bgo_⟩, ⟨hbs_⟩⟩
   ·rw [if_neg c11] at H
    have c11b0 := decide_eq_false c11
    clear c11
    obtain rfl := Option.some.inj H
    go_wp2
    go_ret
    exact ⟨_, er_, (Kd.S_below HO_3.out bgo_), hbs_⟩

/-! ### impl_Graph_walkMatrix: function 68 -/
mutual
def impl_Graph_walkMatrix.l0 : Nat → List (List Int) → Int → Int → Option ((List (List Int)))
 | 0, _, _, _ => none
 | k + 1, x5, x24, x25 => if x25 < x24 then (if 0 ≤ x25 then (if x25 < (x5.length : Int) then (if x25 < ((rd_L1 x5 x25).length : Int) then (impl_Graph_walkMatrix.l0 k (x5.set (x25 : Int).toNat ((rd_L1 x5 x25).set (x25 : Int).toNat 1)) x24 (wrap64 (x25 + 1))) else (none)) else (none)) else (none)) else (some x5)
def impl_Graph_walkMatrix.l1 : Nat → Int → List (List Int) → List (List Int) → List (List Int) → Int → Int → Int → List (List Int) → Option ((List (List Int)))
 | 0, _, _, _, _, _, _, _, _ => none
 | k + 1, x1, x5, x7, x8, x43, x44, x911000, x911001 => if x44 < x43 then (if 0 ≤ x44 then (if x44 < (x8.length : Int) then (if x44 < ((rd_L1 x8 x44).length : Int) then (impl_Graph_walkMatrix.l1 k x1 x5 x7 (x8.set (x44 : Int).toNat ((rd_L1 x8 x44).set (x44 : Int).toNat 1)) x43 (wrap64 (x44 + 1)) x911000 x911001) else (none)) else (none)) else (none)) else (impl_Graph_walkMatrix.l2 k x5 x7 x8 (wrap64 (x1 - 1)) 0 x911000 x911001)
def impl_Graph_walkMatrix.l2 : Nat → List (List Int) → List (List Int) → List (List Int) → Int → Int → Int → List (List Int) → Option ((List (List Int)))
 | 0, _, _, _, _, _, _, _ => none
 | k + 1, x5, x7, x8, x55, x56, x911000, x911001 => if x56 < x55 then ((impl_rowsTimes.f k x8 x7).bind fun t929 => (impl_Graph_walkMatrix.l2 k x5 x7 t929 x55 (wrap64 (x56 + 1)) x911000 x911001)) else (impl_Graph_walkMatrix.l3 k x5 x8 (x8.length : Int) 0 x911000 x911001)
def impl_Graph_walkMatrix.l3 : Nat → List (List Int) → List (List Int) → Int → Int → Int → List (List Int) → Option ((List (List Int)))
 | 0, _, _, _, _, _, _ => none
 | k + 1, x5, x8, x63, x64, x911000, x911001 => if x64 < x63 then (if 0 ≤ x64 then (if x64 < (x8.length : Int) then ((impl_Graph_ends.f x911000 x911001 x64).bind fun bt933 => (impl_Graph_walkMatrix.l4 k x5 x8 bt933.1 x63 x64 (rd_L1 x8 x64) ((rd_L1 x8 x64).length : Int) 0 x911000 x911001)) else (none)) else (none)) else (some x5)
def impl_Graph_walkMatrix.l4 : Nat → List (List Int) → List (List Int) → Int → Int → Int → List Int → Int → Int → Int → List (List Int) → Option ((List (List Int)))
 | 0, _, _, _, _, _, _, _, _, _, _ => none
 | k + 1, x5, x8, x12, x63, x64, x75, x76, x77, x911000, x911001 => if x77 < x76 then (if 0 ≤ x77 then (if x77 < (x75.length : Int) then ((impl_Graph_ends.f x911000 x911001 x77).bind fun bt936 => (if 0 ≤ x12 then (if x12 < (x5.length : Int) then (if 0 ≤ bt936.2 then (if bt936.2 < ((rd_L1 x5 x12).length : Int) then (impl_Graph_walkMatrix.l4 k (x5.set (x12 : Int).toNat ((rd_L1 x5 x12).set (bt936.2 : Int).toNat (wrap64 ((rd (rd_L1 x5 x12) bt936.2) + (rd x75 x77))))) x8 x12 x63 x64 x75 x76 (wrap64 (x77 + 1)) x911000 x911001) else (none)) else (none)) else (none)) else (none))) else (none)) else (none)) else (impl_Graph_walkMatrix.l3 k x5 x8 x63 (wrap64 (x64 + 1)) x911000 x911001)
end
def impl_Graph_walkMatrix.f (k : Nat) (a0_0 : Int) (l0_1 : List (List Int)) (a1 : Int) : Option ((List (List Int))) := (impl_square.f k a0_0).bind fun t911 => (if a1 = 0 then (impl_Graph_walkMatrix.l0 k t911 (t911.length : Int) 0) else ((impl_Graph_edgeMatrix.f k a0_0 l0_1).bind fun t918 => ((impl_Graph_size.f a0_0 l0_1).bind fun t921 => ((impl_square.f k (wrap64 (2 * t921))).bind fun t922 => (impl_Graph_walkMatrix.l1 k a1 t911 t918 t922 (t922.length : Int) 0 a0_0 l0_1)))))
set_option maxHeartbeats 8000000 in
set_option maxRecDepth 100000 in
theorem impl_Graph_walkMatrix.calls (k : Nat) (a0_0 : Int) (A0_1 : Option Addr) (c0_1 : Nat) (l0_1 : List (List Int)) (a1 : Int) (r : List (List Int)) (w : World) (hr0_1 : Kd.C (Kd.slice 2 (Kd.int .i64)) w A0_1 l0_1.length l0_1) (hc0_1 : l0_1.length ≤ c0_1) (h : impl_Graph_walkMatrix.f k a0_0 l0_1 a1 = some r) :
  Calls Try.prog 68 #[.agg #[.int .i64 a0_0, .slice A0_1 l0_1.length c0_1], .int .i64 a1] w fun e w' => ∃ v0_ : Value, e = .returned (v0_) ∧ Kd.S (Kd.slice 2 (Kd.int .i64)) 26 w' w.heap.size (fun _ => True) v0_ r ∧ Below w.heap.size w w' := by
 have hu29 := Try.underlying29
 have HR0_1 := Aside0.mk hr0_1
 have HC0_1 := Aside0.mk hc0_1
 clear hr0_1 hc0_1
 have HB := Aside0.mk (Below.refl w.heap.size w)
 have H : ((impl_square.f k a0_0).bind fun t911 => (if a1 = 0 then (impl_Graph_walkMatrix.l0 k t911 (t911.length : Int) 0) else ((impl_Graph_edgeMatrix.f k a0_0 l0_1).bind fun t918 => ((impl_Graph_size.f a0_0 l0_1).bind fun t921 => ((impl_square.f k (wrap64 (2 * t921))).bind fun t922 => (impl_Graph_walkMatrix.l1 k a1 t911 t918 t922 (t922.length : Int) 0 a0_0 l0_1)))))) = some r := h
 clear h
 obtain ⟨t911, A3, H⟩ := bnd_ H
 by_cases c4 : a1 = 0
 ·rw [if_pos c4] at H
  have c4b0 : (a1 == 0) = true := beq_iff_eq.mpr c4
  have c4b1 : (a1 != 0) = false := bne_eq_false_iff_eq.mpr c4
  clear c4
  have H' := Aside0.mk H
  clear H
  go_enter Try.func68, Try.ntmps68
  go_wp2_with (first | ((with_reducible refine gate_dst (N := 2) rfl ?_); refine box_event ?hg (N := 2) ?hd (cs := #[.int .i64 a0_0, .slice A0_1 l0_1.length c0_1]) (t := 29) ?hr ?_; (case hd => rfl); (case hg => rfl); (case hr => first | (go_simp; done) | (go_simp; rfl)); intro gb910 hg w5 hbox hb; have BK910 := Aside0.mk (hbox); have GW910 := Aside0.mk ((by rw [hg]; exact (below_size hb_) : w.heap.size ≤ gb910)); have GE910 := Aside0.mk ((by rw [hg]; exact (below_size hb_) : w.heap.size ≤ gb910)); replace HB := Aside0.mk (below_step hb_ hb); clear hb hbox hg; have hcz6_0 : w5.cell? ⟨gb910, 0, none⟩ = some (.int .i64 a0_0) := (blk_cell BK910.out 0).trans rfl; have hcz6_1 : w5.cell? ⟨gb910, 1, none⟩ = some (.slice A0_1 l0_1.length c0_1) := (blk_cell BK910.out 1).trans rfl; have hfz6_0 := blk_frozen BK910.out 0; have hfz6_1 := blk_frozen BK910.out 1) | ((with_reducible refine gate_callee (f := 95) rfl ?_); refine goesL_ (some 20) rfl rfl Try.func95 (by kernel_rfl) rfl #[.int .i64 a0_0] rfl arg_ ?_; (with_reducible refine (impl_square.calls k a0_0 t911 _ A3.out).mono ?_); rintro e w7 ⟨v912, rfl, ho0, hb⟩; refine ⟨_, rfl, ?_⟩; have HO913 := Aside0.mk (Kd.S_lower ho0 (below_size hbs_)); replace BK910 := Aside0.mk (blk_below (g := gb910) (o := .cells #[.int .i64 a0_0, .slice A0_1 l0_1.length c0_1] 29 (0, 0)) (blk_below BK910.out bgo_) hb); replace HB := Aside0.mk (below_step hbs_ hb); (try clear hb); (try clear hb2); (try clear hk); (try clear hi); (try clear ho0); obtain ⟨Ao8, co8, eo8⟩ := Kd.S_slice HO913.out; subst eo8))
  go_loopg [25] k (fun kq v25 w' => ∃ (x5_1 : List (List Int)) (x25_1 : Int), v25 = .int .i64 x25_1 ∧ Aside0 (impl_Graph_walkMatrix.l0 kq x5_1 (t911.length : Int) x25_1 = some r) ∧ Aside0 (kq ≤ k) ∧ Aside0 (Kd.S (Kd.slice 2 (Kd.int .i64)) 26 w' w.heap.size (fun _ => True) (.slice Ao8 t911.length co8) x5_1) ∧ Aside0 (w'.heap[gb910]? = some (.cells #[.int .i64 a0_0, (.slice A0_1 l0_1.length c0_1)] 29 (0, 0))) ∧ Aside0 (Below w.heap.size w w'))
  case atStart => exact ⟨(t911), (0), es_, H', ⟨Nat.le_refl _⟩, ⟨Kd.S_below HO913.out bgo_⟩, ⟨blk_below BK910.out bgo_⟩, ⟨hbs_⟩⟩
  case round =>
   clear H'
   obtain ⟨x5_1, x25_1, rfl, HA, HK1, HO_5, BK910, HB⟩ := hrel
   have hl5_1 := (Kd.S_reads' HO_5.out).1
   rw [hl5_1] at HO_5
   (try simp only [hl5_1])
   (try simp only [hl5_1] at BK910)
   cases gk with
   | zero => exact absurd HA.out (by simp [impl_Graph_walkMatrix.l0])
   | succ k1 =>
    have H := HA.out
    clear HA
    simp only [impl_Graph_walkMatrix.l0] at H
    by_cases c9 : x25_1 < (t911.length : Int)
    ·rw [if_pos c9] at H
     have c9b0 := decide_eq_true c9
     (try (have c9z0 := c9b0; simp only [hl5_1] at c9z0))
     clear c9
     obtain ⟨c10, H⟩ := itn_ H
     have c10b0 := decide_eq_true c10
     clear c10
     obtain ⟨c11, H⟩ := itn_ H
     have c11b0 := decide_eq_true c11
     (try (have c11z0 := c11b0; simp only [hl5_1] at c11z0))
     clear c11
     obtain ⟨c12, H⟩ := itn_ H
     have c12b0 := decide_eq_true c12
     (try (have c12z0 := c12b0; simp only [hl5_1] at c12z0))
     clear c12
     obtain ⟨y915, Ny915, H⟩ : ∃ y915 : List Int, Aside0 (y915 = ((rd_L1 x5_1 x25_1).set (x25_1 : Int).toNat 1)) ∧ (impl_Graph_walkMatrix.l0 k1 (x5_1.set (x25_1 : Int).toNat y915) (t911.length : Int) (wrap64 (x25_1 + 1))) = some r := ⟨_, ⟨rfl⟩, H⟩
     obtain ⟨y917, Ny917, H⟩ : ∃ y917 : List (List Int), Aside0 (y917 = (x5_1.set (x25_1 : Int).toNat y915)) ∧ (impl_Graph_walkMatrix.l0 k1 y917 (t911.length : Int) (wrap64 (x25_1 + 1))) = some r := ⟨_, ⟨rfl⟩, H⟩
     have H' := Aside0.mk H
     clear H
     have p914 : 0 ≤ (x25_1 : Int) := od_
     have q914 : x25_1 < (x5_1.length : Int) := od_
     obtain ⟨ad914, A914_0, c914_0, e914, hx914_0, hl914_0, hi914_0⟩ := at_L1 (Kd.S_reads' HO_5.out).2.2 x25_1 p914 q914
     cases e914
     obtain ⟨ce914, hce914, hMe914, hcc914⟩ := Kd.S_get HO_5.out [] x25_1 p914 (by first | exact q914 | exact od_ | (have e_ := (Kd.S_reads' HO_5.out).1; omega))
     obtain ⟨ve914_0, rfl, ge914_0⟩ := hMe914
     have hv914_0 := hcc914 0 _ rfl
     rw [Nat.add_zero, show ((Kd.slice 2 (Kd.int .i64))).sz = 1 from rfl, Nat.mul_one] at hv914_0
     replace hv914_0 := Option.some.inj (hv914_0.symm.trans hx914_0)
     rw [hv914_0] at ge914_0
     have HL914_0 := Aside0.mk (show Kd.R (Kd.int .i64) 2 _ _ _ _ (rd_L1 x5_1 x25_1) from ge914_0)
     clear hv914_0 ge914_0
     have HX914_0 := Aside0.mk hx914_0
     clear hcc914 hce914
     have HR914_0 := Aside0.mk hi914_0
     have HC914_0 := Aside0.mk hl914_0
     clear hi914_0 hl914_0
     replace p914 := eq_true p914
     replace q914 := eq_true q914
     have p13 : 0 ≤ (x25_1 : Int) := od_
     have q13 : (x25_1 : Int) < (((rd_L1 x5_1 x25_1).length : Int) : Int) := od_
     obtain ⟨go13, co13, eo13, gb13, gl13, cl13, HG13⟩ := Kd.R_form HL914_0.out (by omega)
     (first | cases eo13 | (injection eo13 with ea_ en_ ec_; (first | subst ea_ | (injection ea_ with ea_; subst ea_)); subst ec_; clear en_))
     have GB13 := Aside0.mk gb13
     have GG13 := Aside0.mk HG13
     clear gb13 gl13 HG13
     obtain ⟨hx13_0, hf13_0⟩ := Kd.R_celln 0 HL914_0.out (x25_1 : Int) p13 q13
     replace p13 := eq_true p13
     replace q13 := eq_true q13
     have hq14 : (x25_1 : Int) < (x5_1.length : Int) := (by have h_ : (x25_1 : Int) < ((x5_1.length : Int) : Int) := od_; first | exact h_ | (have e_ := (Kd.S_reads' HO_5.out).1; omega) | simpa only [List.length_set, List.length_set] using h_)
     obtain ⟨oki14, ce14, hcl14, hM14, hcc14, hok14, hbk14⟩ := Kd.S_borrow HO_5.out [] (x25_1 : Int) (od_) (by first | exact hq14 | (have e_ := (Kd.S_reads' HO_5.out).1; have h_ := hq14; omega))
     obtain ⟨ve14_0, rfl, ge14_0⟩ := hM14
     have hv14 := hcc14 0 _ rfl
     rw [Nat.add_zero, show ((Kd.slice 2 (Kd.int .i64))).sz = 1 from rfl, Nat.mul_one] at hv14
     replace hv14 := Option.some.inj (hv14.symm.trans HX914_0.out)
     subst hv14
     clear hcc14 hcl14
     replace ge14_0 := (show Kd.R (Kd.int .i64) 2 _ _ _ _ (rd_L1 x5_1 x25_1) from ge14_0)
     have HP14 := Kd.R_putg ge14_0 (x25_1 : Int) 1
     go_wp2_with (first | ((with_reducible refine gate_store (t := 2) (p := 33) rfl ?_); refine store_event (t := 2) (p := 33) (v := ?vo_w15) (w1 := (wr.setCell ⟨go13, (x25_1 : Int).toNat, none⟩ (.int .i64 1))) ?hg ?ho ?hn ?hr ?_; (case ho => rfl); (case hg => rfl); (case hn => rfl); (case hr => first | (go_simp; done) | (go_simp; rfl)); intro w15 hw; have hg : wr.grownBy w15 (some go13) := (by rw [hw]; exact HP14.2); have hz_ : Kd.R (Kd.int .i64) 2 w15 w.heap.size oki14 (.slice (some ⟨go13, 0, none⟩) (rd_L1 x5_1 x25_1).length c914_0) y915 := (by rw [hw, Ny915.out]; exact HP14.1); have hp_ : Kd.S (Kd.slice 2 (Kd.int .i64)) 26 w15 w.heap.size (fun _ => True) (.slice (some ad914) x5_1.length co8) y917 := (by rw [Ny917.out]; exact hbk14 hg (fun k_ e_ => by injection e_ with e_; subst e_; exact ge14_0.1 _ rfl) (Kd.M_row hz_)); have hm_ := Kd.R_mono hz_ hok14; clear HP14 hbk14; replace HO_5 := Aside0.mk (hp_); replace BK910 := Aside0.mk (blk_grown (g := gb910) (o := .cells #[.int .i64 a0_0, .slice A0_1 l0_1.length c0_1] 29 (0, 0)) (blk_below BK910.out bgo_) hg (Kd.R_ne HL914_0.out BK910.out (by decide))); replace HB := Aside0.mk ((by rw [hw]; exact below_set (HB.out) GB13.out : Below w.heap.size w w15)); have HL943 := Aside0.mk (hm_); have HC916 := Aside0.mk ((Kd.R_reads' hm_).2.1); clear HL914_0; clear hg hw hp_ hz_ hm_ hok14))
     (try simp only [← hl5_1])
     first | go_roundg k1 | (refine Handed.intro k1 ?measure ?_; rotate_left; go_step; (try simp only [add_plain]); (repeat apply Exists.intro); refine ⟨?rel, rfl⟩)
     case measure => have := HK1.out; omega
     case rel => exact ⟨(y917), (wrap64 (x25_1 + 1)), es_, H', ⟨by have := HK1.out; omega⟩, ⟨by (try simp only [hl5_1]); (with_reducible repeat (first | apply Kd.S_alloc | apply Kd.S_drewN | apply Kd.S_drew)); exact HO_5.out⟩, ⟨by (try simp only [hl5_1]); (with_reducible repeat (first | refine blk_drewN ?_ _ | refine blk_drew ?_ | refine blk_alloc ?_ _)); exact BK910.out⟩, ⟨hbs_⟩⟩
    ·rw [if_neg c9] at H
     have c9b0 := decide_eq_false c9
     (try (have c9z0 := c9b0; simp only [hl5_1] at c9z0))
     clear c9
     obtain rfl := Option.some.inj H
     go_wp2
     go_ret
     exact ⟨_, er_, (Kd.S_below HO_5.out bgo_), hbs_⟩
 ·rw [if_neg c4] at H
  have c4b0 : (a1 == 0) = false := beq_eq_false_iff_ne.mpr c4
  have c4b1 : (a1 != 0) = true := bne_iff_ne.mpr c4
  obtain ⟨t918, A16, H⟩ := bnd_ H
  obtain ⟨t921, A17, H⟩ := bnd_ H
  obtain ⟨t922, A18, H⟩ := bnd_ H
  have H' := Aside0.mk H
  clear H
  go_enter Try.func68, Try.ntmps68
  go_wp2_with (first | ((with_reducible refine gate_dst (N := 2) rfl ?_); refine box_event ?hg (N := 2) ?hd (cs := #[.int .i64 a0_0, .slice A0_1 l0_1.length c0_1]) (t := 29) ?hr ?_; (case hd => rfl); (case hg => rfl); (case hr => first | (go_simp; done) | (go_simp; rfl)); intro gb910 hg w19 hbox hb; have BK910 := Aside0.mk (hbox); have GW910 := Aside0.mk ((by rw [hg]; exact (below_size hb_) : w.heap.size ≤ gb910)); have GE910 := Aside0.mk ((by rw [hg]; exact (below_size hb_) : w.heap.size ≤ gb910)); replace HB := Aside0.mk (below_step hb_ hb); clear hb hbox hg; have hcz20_0 : w19.cell? ⟨gb910, 0, none⟩ = some (.int .i64 a0_0) := (blk_cell BK910.out 0).trans rfl; have hcz20_1 : w19.cell? ⟨gb910, 1, none⟩ = some (.slice A0_1 l0_1.length c0_1) := (blk_cell BK910.out 1).trans rfl; have hfz20_0 := blk_frozen BK910.out 0; have hfz20_1 := blk_frozen BK910.out 1) | ((with_reducible refine gate_callee (f := 95) rfl ?_); refine goesL_ (some 20) rfl rfl Try.func95 (by kernel_rfl) rfl #[.int .i64 a0_0] rfl arg_ ?_; (with_reducible refine (impl_square.calls k a0_0 t911 _ A3.out).mono ?_); rintro e w21 ⟨v912, rfl, ho0, hb⟩; refine ⟨_, rfl, ?_⟩; have HO913 := Aside0.mk (Kd.S_lower ho0 (below_size hbs_)); replace BK910 := Aside0.mk (blk_below (g := gb910) (o := .cells #[.int .i64 a0_0, .slice A0_1 l0_1.length c0_1] 29 (0, 0)) (blk_below BK910.out bgo_) hb); replace HB := Aside0.mk (below_step hbs_ hb); (try clear hb); (try clear hb2); (try clear hk); (try clear hi); (try clear ho0); have hcz22_0 : w21.cell? ⟨gb910, 0, none⟩ = some (.int .i64 a0_0) := (blk_cell BK910.out 0).trans rfl; have hcz22_1 : w21.cell? ⟨gb910, 1, none⟩ = some (.slice A0_1 l0_1.length c0_1) := (blk_cell BK910.out 1).trans rfl; have hfz22_0 := blk_frozen BK910.out 0; have hfz22_1 := blk_frozen BK910.out 1) | ((with_reducible refine gate_callee (f := 99) rfl ?_); refine goesL_ (some 37) rfl rfl Try.func99 (by kernel_rfl) rfl #[.agg #[.int .i64 a0_0, .slice A0_1 l0_1.length c0_1]] rfl arg_ ?_; (with_reducible refine (impl_Graph_edgeMatrix.calls k a0_0 _ _ l0_1 t918 _ ?side1 ?side2 A16.out).mono ?_); (case side1 => exact Kd.C_below (Kd.C_below HR0_1.out HB.out) bgo_); (case side2 => exact HC0_1.out); rintro e w23 ⟨v919, rfl, ho0, hb⟩; refine ⟨_, rfl, ?_⟩; have HO920 := Aside0.mk (Kd.S_lower (Kd.S_new' ho0 (Kd.S_lt (Kd.S_below HO913.out bgo_))) (below_size hbs_)); replace HO913 := Aside0.mk (Kd.S_elder' (Kd.S_below HO913.out bgo_) (Kd.S_base ho0) hb); replace BK910 := Aside0.mk (blk_below (g := gb910) (o := .cells #[.int .i64 a0_0, .slice A0_1 l0_1.length c0_1] 29 (0, 0)) (blk_below BK910.out bgo_) hb); replace HB := Aside0.mk (below_step hbs_ hb); (try clear hb); (try clear hb2); (try clear hk); (try clear hi); (try clear ho0); have hcz24_0 : w23.cell? ⟨gb910, 0, none⟩ = some (.int .i64 a0_0) := (blk_cell BK910.out 0).trans rfl; have hcz24_1 : w23.cell? ⟨gb910, 1, none⟩ = some (.slice A0_1 l0_1.length c0_1) := (blk_cell BK910.out 1).trans rfl; have hfz24_0 := blk_frozen BK910.out 0; have hfz24_1 := blk_frozen BK910.out 1) | ((with_reducible refine gate_callee (f := 104) rfl ?_); refine goesL_ (some 39) rfl rfl Try.func104 (by kernel_rfl) rfl #[.agg #[.int .i64 a0_0, .slice A0_1 l0_1.length c0_1]] rfl arg_ ?_; (with_reducible refine (impl_Graph_size.calls a0_0 _ _ l0_1 t921 _ ?side1 ?side2 A17.out).mono ?_); (case side1 => exact Kd.C_below (Kd.C_below HR0_1.out HB.out) bgo_); (case side2 => exact HC0_1.out); rintro e w25 ⟨rfl, hb⟩; refine ⟨_, rfl, ?_⟩; replace HO913 := Aside0.mk (Kd.S_below (Kd.S_below HO913.out bgo_) hb); replace HO920 := Aside0.mk (Kd.S_below (Kd.S_below HO920.out bgo_) hb); replace BK910 := Aside0.mk (blk_below (g := gb910) (o := .cells #[.int .i64 a0_0, .slice A0_1 l0_1.length c0_1] 29 (0, 0)) (blk_below BK910.out bgo_) hb); replace HB := Aside0.mk (below_step hbs_ hb); (try clear hb); (try clear hb2); (try clear hk); (try clear hi)) | ((with_reducible refine gate_callee (f := 95) rfl ?_); refine goesL_ (some 41) rfl rfl Try.func95 (by kernel_rfl) rfl #[.int .i64 (wrap64 (2 * t921))] rfl arg_ ?_; (with_reducible refine (impl_square.calls k (wrap64 (2 * t921)) t922 _ A18.out).mono ?_); rintro e w26 ⟨v923, rfl, ho0, hb⟩; refine ⟨_, rfl, ?_⟩; obtain ⟨bm9, hbm9⟩ : ∃ b_ : Nat, w25.heap.size = b_ := ⟨_, rfl⟩; have HBM := Aside0.mk hbm9; have HSZ := Aside0.mk (show bm9 ≤ w26.heap.size from by have h_ := hb.size; omega); clear hbm9; have HO924 := Aside0.mk (Kd.S_lower (Kd.S_new' (Kd.S_new' (Kd.S_mono (ok' := fun k_ => bm9 ≤ k_) (Kd.S_bound ho0) (fun k_ hk_ => by have h_ := hk_.2.1; have e_ := HBM.out; omega)) (Kd.S_lt (Kd.S_below HO913.out bgo_))) (Kd.S_lt (Kd.S_below HO920.out bgo_))) (below_size hbs_)); replace HO913 := Aside0.mk (Kd.S_elder' (ok := fun k_ => k_ < bm9) (by (with_reducible repeat (first | apply Kd.S_alloc | apply Kd.S_drewN | apply Kd.S_drew)); exact Kd.S_mono (Kd.S_bound HO913.out) (fun k_ hk_ => by have h_ := hk_.2.2.1; have e_ := HBM.out; omega)) (Kd.S_base ho0) hb); replace HO920 := Aside0.mk (Kd.S_elder' (ok := fun k_ => k_ < bm9) (by (with_reducible repeat (first | apply Kd.S_alloc | apply Kd.S_drewN | apply Kd.S_drew)); exact Kd.S_mono (Kd.S_bound HO920.out) (fun k_ hk_ => by have h_ := hk_.2.2.1; have e_ := HBM.out; omega)) (Kd.S_base ho0) hb); replace BK910 := Aside0.mk (blk_below (g := gb910) (o := .cells #[.int .i64 a0_0, .slice A0_1 l0_1.length c0_1] 29 (0, 0)) (blk_below BK910.out bgo_) hb); replace HB := Aside0.mk (below_step hbs_ hb); (try clear hb); (try clear hb2); (try clear hk); (try clear hi); (try clear ho0); obtain ⟨Ao27, co27, eo27⟩ := Kd.S_slice HO924.out; subst eo27))
  go_loopg [44] k (fun kq v44 w' => ∃ (x8_1 : List (List Int)) (x44_1 : Int), v44 = .int .i64 x44_1 ∧ Aside0 (impl_Graph_walkMatrix.l1 kq a1 t911 t918 x8_1 (t922.length : Int) x44_1 a0_0 l0_1 = some r) ∧ Aside0 (kq ≤ k) ∧ Aside0 (Kd.S (Kd.slice 2 (Kd.int .i64)) 26 w' w.heap.size (fun k_ => k_ < bm9) v912 t911) ∧ Aside0 (Kd.S (Kd.slice 2 (Kd.int .i64)) 26 w' w.heap.size (fun k_ => k_ < bm9) v919 t918) ∧ Aside0 (Kd.S (Kd.slice 2 (Kd.int .i64)) 26 w' w.heap.size (fun k_ => bm9 ≤ k_) (.slice Ao27 t922.length co27) x8_1) ∧ Aside0 (w'.heap[gb910]? = some (.cells #[.int .i64 a0_0, (.slice A0_1 l0_1.length c0_1)] 29 (0, 0))) ∧ Aside0 (Below w.heap.size w w') ∧ Aside0 (bm9 ≤ w'.heap.size))
  case atStart => exact ⟨(t922), (0), es_, H', ⟨Nat.le_refl _⟩, ⟨by (with_reducible repeat (first | apply Kd.S_alloc | apply Kd.S_drewN | apply Kd.S_drew)); exact Kd.S_mono HO913.out (fun _ hk => hk.1)⟩, ⟨by (with_reducible repeat (first | apply Kd.S_alloc | apply Kd.S_drewN | apply Kd.S_drew)); exact Kd.S_mono HO920.out (fun _ hk => hk.1)⟩, ⟨by (with_reducible repeat (first | apply Kd.S_alloc | apply Kd.S_drewN | apply Kd.S_drew)); exact Kd.S_mono HO924.out (fun _ hk => hk.1.1)⟩, ⟨blk_below BK910.out bgo_⟩, ⟨hbs_⟩, HSZ⟩
  case round =>
   clear H'
   obtain ⟨x8_1, x44_1, rfl, HA, HK1, HO_5, HO_7, HO_8, BK910, HB, HSZ⟩ := hrel
   have hl8_1 := (Kd.S_reads' HO_8.out).1
   rw [hl8_1] at HO_8
   (try simp only [hl8_1])
   (try simp only [hl8_1] at BK910)
   (try simp only [hl8_1] at HO_5)
   (try simp only [hl8_1] at HO_7)
   cases gk with
   | zero => exact absurd HA.out (by simp [impl_Graph_walkMatrix.l1])
   | succ k1 =>
    have H := HA.out
    clear HA
    simp only [impl_Graph_walkMatrix.l1] at H
    by_cases c28 : x44_1 < (t922.length : Int)
    ·rw [if_pos c28] at H
     have c28b0 := decide_eq_true c28
     (try (have c28z0 := c28b0; simp only [hl8_1] at c28z0))
     clear c28
     obtain ⟨c29, H⟩ := itn_ H
     have c29b0 := decide_eq_true c29
     clear c29
     obtain ⟨c30, H⟩ := itn_ H
     have c30b0 := decide_eq_true c30
     (try (have c30z0 := c30b0; simp only [hl8_1] at c30z0))
     clear c30
     obtain ⟨c31, H⟩ := itn_ H
     have c31b0 := decide_eq_true c31
     (try (have c31z0 := c31b0; simp only [hl8_1] at c31z0))
     clear c31
     obtain ⟨y926, Ny926, H⟩ : ∃ y926 : List Int, Aside0 (y926 = ((rd_L1 x8_1 x44_1).set (x44_1 : Int).toNat 1)) ∧ (impl_Graph_walkMatrix.l1 k1 a1 t911 t918 (x8_1.set (x44_1 : Int).toNat y926) (t922.length : Int) (wrap64 (x44_1 + 1)) a0_0 l0_1) = some r := ⟨_, ⟨rfl⟩, H⟩
     obtain ⟨y928, Ny928, H⟩ : ∃ y928 : List (List Int), Aside0 (y928 = (x8_1.set (x44_1 : Int).toNat y926)) ∧ (impl_Graph_walkMatrix.l1 k1 a1 t911 t918 y928 (t922.length : Int) (wrap64 (x44_1 + 1)) a0_0 l0_1) = some r := ⟨_, ⟨rfl⟩, H⟩
     have H' := Aside0.mk H
     clear H
     have p925 : 0 ≤ (x44_1 : Int) := od_
     have q925 : x44_1 < (x8_1.length : Int) := od_
     obtain ⟨ad925, A925_0, c925_0, e925, hx925_0, hl925_0, hi925_0⟩ := at_L1 (Kd.S_reads' HO_8.out).2.2 x44_1 p925 q925
     cases e925
     obtain ⟨ce925, hce925, hMe925, hcc925⟩ := Kd.S_get HO_8.out [] x44_1 p925 (by first | exact q925 | exact od_ | (have e_ := (Kd.S_reads' HO_8.out).1; omega))
     obtain ⟨ve925_0, rfl, ge925_0⟩ := hMe925
     have hv925_0 := hcc925 0 _ rfl
     rw [Nat.add_zero, show ((Kd.slice 2 (Kd.int .i64))).sz = 1 from rfl, Nat.mul_one] at hv925_0
     replace hv925_0 := Option.some.inj (hv925_0.symm.trans hx925_0)
     rw [hv925_0] at ge925_0
     have HL925_0 := Aside0.mk (show Kd.R (Kd.int .i64) 2 _ _ _ _ (rd_L1 x8_1 x44_1) from ge925_0)
     clear hv925_0 ge925_0
     have HX925_0 := Aside0.mk hx925_0
     clear hcc925 hce925
     have HR925_0 := Aside0.mk hi925_0
     have HC925_0 := Aside0.mk hl925_0
     clear hi925_0 hl925_0
     replace p925 := eq_true p925
     replace q925 := eq_true q925
     have p32 : 0 ≤ (x44_1 : Int) := od_
     have q32 : (x44_1 : Int) < (((rd_L1 x8_1 x44_1).length : Int) : Int) := od_
     obtain ⟨go32, co32, eo32, gb32, gl32, cl32, HG32⟩ := Kd.R_form HL925_0.out (by omega)
     (first | cases eo32 | (injection eo32 with ea_ en_ ec_; (first | subst ea_ | (injection ea_ with ea_; subst ea_)); subst ec_; clear en_))
     have GB32 := Aside0.mk gb32
     have GG32 := Aside0.mk HG32
     clear gb32 gl32 HG32
     obtain ⟨hx32_0, hf32_0⟩ := Kd.R_celln 0 HL925_0.out (x44_1 : Int) p32 q32
     replace p32 := eq_true p32
     replace q32 := eq_true q32
     have hq33 : (x44_1 : Int) < (x8_1.length : Int) := (by have h_ : (x44_1 : Int) < ((x8_1.length : Int) : Int) := od_; first | exact h_ | (have e_ := (Kd.S_reads' HO_8.out).1; omega) | simpa only [List.length_set, List.length_set] using h_)
     obtain ⟨oki33, ce33, hcl33, hM33, hcc33, hok33, hbk33⟩ := Kd.S_borrow HO_8.out [] (x44_1 : Int) (od_) (by first | exact hq33 | (have e_ := (Kd.S_reads' HO_8.out).1; have h_ := hq33; omega))
     obtain ⟨ve33_0, rfl, ge33_0⟩ := hM33
     have hv33 := hcc33 0 _ rfl
     rw [Nat.add_zero, show ((Kd.slice 2 (Kd.int .i64))).sz = 1 from rfl, Nat.mul_one] at hv33
     replace hv33 := Option.some.inj (hv33.symm.trans HX925_0.out)
     subst hv33
     clear hcc33 hcl33
     replace ge33_0 := (show Kd.R (Kd.int .i64) 2 _ _ _ _ (rd_L1 x8_1 x44_1) from ge33_0)
     have HP33 := Kd.R_putg ge33_0 (x44_1 : Int) 1
     go_wp2_with (first | ((with_reducible refine gate_store (t := 2) (p := 52) rfl ?_); refine store_event (t := 2) (p := 52) (v := ?vo_w34) (w1 := (wr.setCell ⟨go32, (x44_1 : Int).toNat, none⟩ (.int .i64 1))) ?hg ?ho ?hn ?hr ?_; (case ho => rfl); (case hg => rfl); (case hn => rfl); (case hr => first | (go_simp; done) | (go_simp; rfl)); intro w34 hw; have hg : wr.grownBy w34 (some go32) := (by rw [hw]; exact HP33.2); have hz_ : Kd.R (Kd.int .i64) 2 w34 w.heap.size oki33 (.slice (some ⟨go32, 0, none⟩) (rd_L1 x8_1 x44_1).length c925_0) y926 := (by rw [hw, Ny926.out]; exact HP33.1); have hp_ : Kd.S (Kd.slice 2 (Kd.int .i64)) 26 w34 w.heap.size (fun k_ => bm9 ≤ k_) (.slice (some ad925) x8_1.length co27) y928 := (by rw [Ny928.out]; exact hbk33 hg (fun k_ e_ => by injection e_ with e_; subst e_; exact ge33_0.1 _ rfl) (Kd.M_row hz_)); have hm_ := Kd.R_mono hz_ hok33; clear HP33 hbk33; replace HO_5 := Aside0.mk (Kd.S_grown (Kd.S_below HO_5.out bgo_) hg (fun k_ hk e_ => by injection e_ with e_; subst e_; have h1_ := (hok33 _ (ge33_0.1 _ rfl)).1; have h2_ := hk; have h3_ := HBM.out; (try dsimp only at h1_ h2_); omega)); replace HO_7 := Aside0.mk (Kd.S_grown (Kd.S_below HO_7.out bgo_) hg (fun k_ hk e_ => by injection e_ with e_; subst e_; have h1_ := (hok33 _ (ge33_0.1 _ rfl)).1; have h2_ := hk; have h3_ := HBM.out; (try dsimp only at h1_ h2_); omega)); replace HO_8 := Aside0.mk (hp_); replace BK910 := Aside0.mk (blk_grown (g := gb910) (o := .cells #[.int .i64 a0_0, .slice A0_1 l0_1.length c0_1] 29 (0, 0)) (blk_below BK910.out bgo_) hg (Kd.R_ne HL925_0.out BK910.out (by decide))); replace HB := Aside0.mk ((by rw [hw]; exact below_set (HB.out) GB32.out : Below w.heap.size w w34)); have HL944 := Aside0.mk (hm_); have HC927 := Aside0.mk ((Kd.R_reads' hm_).2.1); clear HL925_0; have HSZ2 := Aside0.mk (Nat.le_trans HSZ.out hg.size); clear HSZ; have HSZ := HSZ2; clear HSZ2; clear hg hw hp_ hz_ hm_ hok33))
     (try simp only [← hl8_1])
     first | go_roundg k1 | (refine Handed.intro k1 ?measure ?_; rotate_left; go_step; (try simp only [add_plain]); (repeat apply Exists.intro); refine ⟨?rel, rfl⟩)
     case measure => have := HK1.out; omega
     case rel => exact ⟨(y928), (wrap64 (x44_1 + 1)), es_, H', ⟨by have := HK1.out; omega⟩, ⟨by (try simp only [hl8_1]); (with_reducible repeat (first | apply Kd.S_alloc | apply Kd.S_drewN | apply Kd.S_drew)); exact HO_5.out⟩, ⟨by (try simp only [hl8_1]); (with_reducible repeat (first | apply Kd.S_alloc | apply Kd.S_drewN | apply Kd.S_drew)); exact HO_7.out⟩, ⟨by (try simp only [hl8_1]); (with_reducible repeat (first | apply Kd.S_alloc | apply Kd.S_drewN | apply Kd.S_drew)); exact HO_8.out⟩, ⟨by (try simp only [hl8_1]); (with_reducible repeat (first | refine blk_drewN ?_ _ | refine blk_drew ?_ | refine blk_alloc ?_ _)); exact BK910.out⟩, ⟨hbs_⟩, HSZ⟩
    ·rw [if_neg c28] at H
     have c28b0 := decide_eq_false c28
     (try (have c28z0 := c28b0; simp only [hl8_1] at c28z0))
     clear c28
     have H' := Aside0.mk H
     clear H
     go_wp2
     go_loopg [8, 56] k1 (fun kq v8 v56 w' => ∃ (x8_2 : List (List Int)) (x56_2 : Int), v56 = .int .i64 x56_2 ∧ Aside0 (impl_Graph_walkMatrix.l2 kq t911 t918 x8_2 (wrap64 (a1 - 1)) x56_2 a0_0 l0_1 = some r) ∧ Aside0 (kq ≤ k1) ∧ Aside0 (Kd.S (Kd.slice 2 (Kd.int .i64)) 26 w' w.heap.size (fun k_ => k_ < bm9) v912 t911) ∧ Aside0 (Kd.S (Kd.slice 2 (Kd.int .i64)) 26 w' w.heap.size (fun k_ => k_ < bm9) v919 t918) ∧ Aside0 (Kd.S (Kd.slice 2 (Kd.int .i64)) 26 w' w.heap.size (fun k_ => bm9 ≤ k_) v8 x8_2) ∧ Aside0 (w'.heap[gb910]? = some (.cells #[.int .i64 a0_0, (.slice A0_1 l0_1.length c0_1)] 29 (0, 0))) ∧ Aside0 (Below w.heap.size w w') ∧ Aside0 (bm9 ≤ w'.heap.size))
     case atStart => exact ⟨(x8_1), (0), es_, H', ⟨Nat.le_refl _⟩, ⟨by (try simp only [hl8_1]); (with_reducible repeat (first | apply Kd.S_alloc | apply Kd.S_drewN | apply Kd.S_drew)); exact HO_5.out⟩, ⟨by (try simp only [hl8_1]); (with_reducible repeat (first | apply Kd.S_alloc | apply Kd.S_drewN | apply Kd.S_drew)); exact HO_7.out⟩, ⟨by (try simp only [hl8_1]); (with_reducible repeat (first | apply Kd.S_alloc | apply Kd.S_drewN | apply Kd.S_drew)); exact HO_8.out⟩, ⟨by (try simp only [hl8_1]); (with_reducible repeat (first | refine blk_drewN ?_ _ | refine blk_drew ?_ | refine blk_alloc ?_ _)); exact BK910.out⟩, ⟨hbs_⟩, HSZ⟩
     case round =>
      clear H'
      obtain ⟨x8_2, x56_2, rfl, HA, HK2, HO_5, HO_7, HO_8, BK910, HB, HSZ⟩ := hrel
      cases gk with
      | zero => exact absurd HA.out (by simp [impl_Graph_walkMatrix.l2])
      | succ k2 =>
       have H := HA.out
       clear HA
       simp only [impl_Graph_walkMatrix.l2] at H
       by_cases c35 : x56_2 < (wrap64 (a1 - 1))
       ·rw [if_pos c35] at H
        have c35b0 := decide_eq_true c35
        clear c35
        obtain ⟨t929, A36, H⟩ := bnd_ H
        have H' := Aside0.mk H
        clear H
        obtain ⟨Ao37, co37, eo37⟩ := Kd.S_slice HO_8.out
        subst eo37
        obtain ⟨Ao38, co38, eo38⟩ := Kd.S_slice HO_7.out
        subst eo38
        go_wp2_with (first | ((with_reducible refine gate_callee (f := 96) rfl ?_); refine goesL_ (some 60) rfl rfl Try.func96 (by kernel_rfl) rfl #[.slice Ao37 x8_2.length co37, .slice Ao38 t918.length co38] rfl arg_ ?_; (with_reducible refine (impl_rowsTimes.calls k2 _ _ x8_2 _ _ t918 t929 _ ?side1 ?side2 ?side3 ?side4 A36.out).mono ?_); (case side1 => exact Kd.C_below (Kd.S_reads' HO_8.out).2.2 bgo_); (case side2 => exact (Kd.S_reads' HO_8.out).2.1); (case side3 => exact Kd.C_below (Kd.S_reads' HO_7.out).2.2 bgo_); (case side4 => exact (Kd.S_reads' HO_7.out).2.1); rintro e w39 ⟨v930, rfl, ho0, hb⟩; refine ⟨_, rfl, ?_⟩; have HSZo := HSZ; clear HSZ; have HSZ := Aside0.mk (Nat.le_trans HSZo.out hb.size); have HO931 := Aside0.mk (Kd.S_lower (Kd.S_new' (Kd.S_new' (Kd.S_new' (Kd.S_mono (ok' := fun k_ => bm9 ≤ k_) (Kd.S_bound ho0) (fun k_ hk_ => by have h_ := hk_.2.1; have e_ := HSZo.out; omega)) (Kd.S_lt (Kd.S_below HO_5.out bgo_))) (Kd.S_lt (Kd.S_below HO_7.out bgo_))) (Kd.S_lt (Kd.S_below HO_8.out bgo_))) (below_size hbs_)); replace HO_5 := Aside0.mk (Kd.S_elder' (Kd.S_below HO_5.out bgo_) (Kd.S_base ho0) hb); replace HO_7 := Aside0.mk (Kd.S_elder' (Kd.S_below HO_7.out bgo_) (Kd.S_base ho0) hb); replace HO_8 := Aside0.mk (Kd.S_elder' (Kd.S_below HO_8.out bgo_) (Kd.S_base ho0) hb); replace BK910 := Aside0.mk (blk_below (g := gb910) (o := .cells #[.int .i64 a0_0, .slice A0_1 l0_1.length c0_1] 29 (0, 0)) (blk_below BK910.out bgo_) hb); replace HB := Aside0.mk (below_step hbs_ hb); (try clear hb); (try clear hb2); (try clear hk); (try clear hi); (try clear ho0)))
        first | go_roundg k2 | (refine Handed.intro k2 ?measure ?_; rotate_left; go_step; (try simp only [add_plain]); (repeat apply Exists.intro); refine ⟨?rel, rfl⟩)
        case measure => have := HK1.out; have := HK2.out; omega
        case rel => exact ⟨(t929), (wrap64 (x56_2 + 1)), es_, H', ⟨by have := HK1.out; have := HK2.out; omega⟩, ⟨by (try simp only [hl8_1]); (with_reducible repeat (first | apply Kd.S_alloc | apply Kd.S_drewN | apply Kd.S_drew)); exact Kd.S_mono HO_5.out (fun _ hk => hk.1)⟩, ⟨by (try simp only [hl8_1]); (with_reducible repeat (first | apply Kd.S_alloc | apply Kd.S_drewN | apply Kd.S_drew)); exact Kd.S_mono HO_7.out (fun _ hk => hk.1)⟩, ⟨by (try simp only [hl8_1]); (with_reducible repeat (first | apply Kd.S_alloc | apply Kd.S_drewN | apply Kd.S_drew)); exact Kd.S_mono HO931.out (fun _ hk => hk.1.1.1)⟩, ⟨by (try simp only [hl8_1]); (with_reducible repeat (first | refine blk_drewN ?_ _ | refine blk_drew ?_ | refine blk_alloc ?_ _)); exact BK910.out⟩, ⟨hbs_⟩, HSZ⟩
       ·rw [if_neg c35] at H
        have c35b0 := decide_eq_false c35
        clear c35
        have H' := Aside0.mk H
        clear H
        obtain ⟨Ao40, co40, eo40⟩ := Kd.S_slice HO_8.out
        subst eo40
        go_wp2
        go_loopg [64] k2 (fun kq v64 w' => ∃ (x5_3 : List (List Int)) (x64_3 : Int), v64 = .int .i64 x64_3 ∧ Aside0 (impl_Graph_walkMatrix.l3 kq x5_3 x8_2 (x8_2.length : Int) x64_3 a0_0 l0_1 = some r) ∧ Aside0 (kq ≤ k2) ∧ Aside0 (Kd.S (Kd.slice 2 (Kd.int .i64)) 26 w' w.heap.size (fun k_ => k_ < bm9) v912 x5_3) ∧ Aside0 (Kd.S (Kd.slice 2 (Kd.int .i64)) 26 w' w.heap.size (fun k_ => bm9 ≤ k_) (.slice Ao40 x8_2.length co40) x8_2) ∧ Aside0 (w'.heap[gb910]? = some (.cells #[.int .i64 a0_0, (.slice A0_1 l0_1.length c0_1)] 29 (0, 0))) ∧ Aside0 (Below w.heap.size w w'))
        case atStart => exact ⟨(t911), (0), es_, H', ⟨Nat.le_refl _⟩, ⟨by (try simp only [hl8_1]); (with_reducible repeat (first | apply Kd.S_alloc | apply Kd.S_drewN | apply Kd.S_drew)); exact HO_5.out⟩, ⟨by (try simp only [hl8_1]); (with_reducible repeat (first | apply Kd.S_alloc | apply Kd.S_drewN | apply Kd.S_drew)); exact HO_8.out⟩, ⟨by (try simp only [hl8_1]); (with_reducible repeat (first | refine blk_drewN ?_ _ | refine blk_drew ?_ | refine blk_alloc ?_ _)); exact BK910.out⟩, ⟨hbs_⟩⟩
        case round =>
         clear H'
         obtain ⟨x5_3, x64_3, rfl, HA, HK3, HO_5, HO_8, BK910, HB⟩ := hrel
         cases gk with
         | zero => exact absurd HA.out (by simp [impl_Graph_walkMatrix.l3])
         | succ k3 =>
          have H := HA.out
          clear HA
          simp only [impl_Graph_walkMatrix.l3] at H
          by_cases c41 : x64_3 < (x8_2.length : Int)
          ·rw [if_pos c41] at H
           have c41b0 := decide_eq_true c41
           (try (have c41z0 := c41b0; simp only [hl8_1] at c41z0))
           clear c41
           obtain ⟨c42, H⟩ := itn_ H
           have c42b0 := decide_eq_true c42
           clear c42
           obtain ⟨c43, H⟩ := itn_ H
           have c43b0 := decide_eq_true c43
           (try (have c43z0 := c43b0; simp only [hl8_1] at c43z0))
           clear c43
           obtain ⟨⟨t933, t934⟩, A44, H⟩ := bnd_ H
           dsimp only at H
           have H' := Aside0.mk H
           clear H
           have p932 : 0 ≤ (x64_3 : Int) := od_
           have q932 : x64_3 < (x8_2.length : Int) := od_
           obtain ⟨ad932, A932_0, c932_0, e932, hx932_0, hl932_0, hi932_0⟩ := at_L1 (Kd.S_reads' HO_8.out).2.2 x64_3 p932 q932
           cases e932
           obtain ⟨ce932, hce932, hMe932, hcc932⟩ := Kd.S_get HO_8.out [] x64_3 p932 (by first | exact q932 | exact od_ | (have e_ := (Kd.S_reads' HO_8.out).1; omega))
           obtain ⟨ve932_0, rfl, ge932_0⟩ := hMe932
           have hv932_0 := hcc932 0 _ rfl
           rw [Nat.add_zero, show ((Kd.slice 2 (Kd.int .i64))).sz = 1 from rfl, Nat.mul_one] at hv932_0
           replace hv932_0 := Option.some.inj (hv932_0.symm.trans hx932_0)
           rw [hv932_0] at ge932_0
           have HL932_0 := Aside0.mk (show Kd.R (Kd.int .i64) 2 _ _ _ _ (rd_L1 x8_2 x64_3) from ge932_0)
           clear hv932_0 ge932_0
           have HX932_0 := Aside0.mk hx932_0
           clear hcc932 hce932
           have HR932_0 := Aside0.mk hi932_0
           have HC932_0 := Aside0.mk hl932_0
           clear hi932_0 hl932_0
           replace p932 := eq_true p932
           replace q932 := eq_true q932
           have hcz45_0 : wr.cell? ⟨gb910, 0, none⟩ = some (.int .i64 a0_0) := (blk_cell BK910.out 0).trans rfl
           have hcz45_1 : wr.cell? ⟨gb910, 1, none⟩ = some (.slice A0_1 l0_1.length c0_1) := (blk_cell BK910.out 1).trans rfl
           have hfz45_0 := blk_frozen BK910.out 0
           have hfz45_1 := blk_frozen BK910.out 1
           go_wp2_with (first | ((with_reducible refine gate_callee (f := 71) rfl ?_); refine goesL_ (some 72) rfl rfl Try.func71 (by kernel_rfl) rfl #[.agg #[.int .i64 a0_0, .slice A0_1 l0_1.length c0_1], .int .i64 x64_3] rfl arg_ ?_; (with_reducible refine (impl_Graph_ends.calls a0_0 _ _ l0_1 x64_3 t933 t934 _ ?side1 ?side2 A44.out).mono ?_); (case side1 => exact Kd.C_below (Kd.C_below HR0_1.out HB.out) bgo_); (case side2 => exact HC0_1.out); rintro e w46 ⟨rfl, hb⟩; refine ⟨_, rfl, ?_⟩; replace HO_5 := Aside0.mk (Kd.S_below (Kd.S_below HO_5.out bgo_) hb); replace HO_8 := Aside0.mk (Kd.S_below (Kd.S_below HO_8.out bgo_) hb); replace HL932_0 := Aside0.mk (Kd.R_below (by (with_reducible repeat (first | apply Kd.R_alloc | apply Kd.R_drewN | apply Kd.R_drew)); exact HL932_0.out) hb); replace BK910 := Aside0.mk (blk_below (g := gb910) (o := .cells #[.int .i64 a0_0, .slice A0_1 l0_1.length c0_1] 29 (0, 0)) (blk_below BK910.out bgo_) hb); replace HR932_0 := Aside0.mk (Kd.C_below (by repeat (first | (with_reducible exact HR932_0.out) | (with_reducible refine Kd.C_alloc ?_ _) | (with_reducible refine Kd.C_drewN ?_ _) | (with_reducible refine Kd.C_drew ?_) | exact HR932_0.out)) hb); replace HX932_0 := Aside0.mk (pw_cell_below hb HX932_0.out); replace HB := Aside0.mk (below_step hbs_ hb); (try clear hb); (try clear hb2); (try clear hk); (try clear hi)))
           go_loopg [77] k3 (fun kq v77 w' => ∃ (x5_4 : List (List Int)) (x77_4 : Int), v77 = .int .i64 x77_4 ∧ Aside0 (impl_Graph_walkMatrix.l4 kq x5_4 x8_2 t933 (x8_2.length : Int) x64_3 (rd_L1 x8_2 x64_3) ((rd_L1 x8_2 x64_3).length : Int) x77_4 a0_0 l0_1 = some r) ∧ Aside0 (kq ≤ k3) ∧ Aside0 (Kd.S (Kd.slice 2 (Kd.int .i64)) 26 w' w.heap.size (fun k_ => k_ < bm9) v912 x5_4) ∧ Aside0 (Kd.S (Kd.slice 2 (Kd.int .i64)) 26 w' w.heap.size (fun k_ => bm9 ≤ k_) (.slice (some ad932) x8_2.length co40) x8_2) ∧ Aside0 (w'.heap[gb910]? = some (.cells #[.int .i64 a0_0, (.slice A0_1 l0_1.length c0_1)] 29 (0, 0))) ∧ Aside0 (Below w.heap.size w w') ∧ Aside0 (Kd.R (Kd.int .i64) 2 w' w.heap.size (fun k_ => bm9 ≤ k_) (.slice A932_0 (rd_L1 x8_2 x64_3).length c932_0) (rd_L1 x8_2 x64_3)))
           case atStart => exact ⟨(x5_3), (0), es_, H', ⟨Nat.le_refl _⟩, ⟨by (try simp only [hl8_1]); (with_reducible repeat (first | apply Kd.S_alloc | apply Kd.S_drewN | apply Kd.S_drew)); exact HO_5.out⟩, ⟨by (try simp only [hl8_1]); (with_reducible repeat (first | apply Kd.S_alloc | apply Kd.S_drewN | apply Kd.S_drew)); exact HO_8.out⟩, ⟨by (try simp only [hl8_1]); (with_reducible repeat (first | refine blk_drewN ?_ _ | refine blk_drew ?_ | refine blk_alloc ?_ _)); exact BK910.out⟩, ⟨hbs_⟩, ⟨Kd.R_mono (ok' := fun k_ => bm9 ≤ k_) HL932_0.out (fun k_ hk => by first | exact hk | exact hk.1)⟩⟩
           case round =>
            clear H'
            obtain ⟨x5_4, x77_4, rfl, HA, HK4, HO_5, HO_8, BK910, HB, HL9⟩ := hrel
            cases gk with
            | zero => exact absurd HA.out (by simp [impl_Graph_walkMatrix.l4])
            | succ k4 =>
             have H := HA.out
             clear HA
             simp only [impl_Graph_walkMatrix.l4] at H
             by_cases c47 : x77_4 < ((rd_L1 x8_2 x64_3).length : Int)
             ·rw [if_pos c47] at H
              have c47b0 := decide_eq_true c47
              (try (have c47z0 := c47b0; simp only [hl8_1] at c47z0))
              clear c47
              obtain ⟨c48, H⟩ := itn_ H
              have c48b0 := decide_eq_true c48
              clear c48
              obtain ⟨c49, H⟩ := itn_ H
              have c49b0 := decide_eq_true c49
              (try (have c49z0 := c49b0; simp only [hl8_1] at c49z0))
              clear c49
              obtain ⟨⟨t936, t937⟩, A50, H⟩ := bnd_ H
              dsimp only at H
              obtain ⟨c51, H⟩ := itn_ H
              have c51b0 := decide_eq_true c51
              clear c51
              obtain ⟨c52, H⟩ := itn_ H
              have c52b0 := decide_eq_true c52
              (try (have c52z0 := c52b0; simp only [hl8_1] at c52z0))
              clear c52
              obtain ⟨c53, H⟩ := itn_ H
              have c53b0 := decide_eq_true c53
              clear c53
              obtain ⟨c54, H⟩ := itn_ H
              have c54b0 := decide_eq_true c54
              (try (have c54z0 := c54b0; simp only [hl8_1] at c54z0))
              clear c54
              obtain ⟨y940, Ny940, H⟩ : ∃ y940 : List Int, Aside0 (y940 = ((rd_L1 x5_4 t933).set (t937 : Int).toNat (wrap64 ((rd (rd_L1 x5_4 t933) t937) + (rd (rd_L1 x8_2 x64_3) x77_4))))) ∧ (impl_Graph_walkMatrix.l4 k4 (x5_4.set (t933 : Int).toNat y940) x8_2 t933 (x8_2.length : Int) x64_3 (rd_L1 x8_2 x64_3) ((rd_L1 x8_2 x64_3).length : Int) (wrap64 (x77_4 + 1)) a0_0 l0_1) = some r := ⟨_, ⟨rfl⟩, H⟩
              obtain ⟨y942, Ny942, H⟩ : ∃ y942 : List (List Int), Aside0 (y942 = (x5_4.set (t933 : Int).toNat y940)) ∧ (impl_Graph_walkMatrix.l4 k4 y942 x8_2 t933 (x8_2.length : Int) x64_3 (rd_L1 x8_2 x64_3) ((rd_L1 x8_2 x64_3).length : Int) (wrap64 (x77_4 + 1)) a0_0 l0_1) = some r := ⟨_, ⟨rfl⟩, H⟩
              have H' := Aside0.mk H
              clear H
              have p935 : 0 ≤ (x77_4 : Int) := od_
              have q935 : x77_4 < ((rd_L1 x8_2 x64_3).length : Int) := od_
              obtain ⟨ad935, e935, hx935_0⟩ := Kd.at_int (Kd.R_reads' HL9.out).2.2 x77_4 p935 q935
              cases e935
              skip
              replace p935 := eq_true p935
              replace q935 := eq_true q935
              have hcz56_0 : wr.cell? ⟨gb910, 0, none⟩ = some (.int .i64 a0_0) := (blk_cell BK910.out 0).trans rfl
              have hcz56_1 : wr.cell? ⟨gb910, 1, none⟩ = some (.slice A0_1 l0_1.length c0_1) := (blk_cell BK910.out 1).trans rfl
              have hfz56_0 := blk_frozen BK910.out 0
              have hfz56_1 := blk_frozen BK910.out 1
              go_wp2_with (first | ((with_reducible refine gate_callee (f := 71) rfl ?_); refine goesL_ (some 85) rfl rfl Try.func71 (by kernel_rfl) rfl #[.agg #[.int .i64 a0_0, .slice A0_1 l0_1.length c0_1], .int .i64 x77_4] rfl arg_ ?_; (with_reducible refine (impl_Graph_ends.calls a0_0 _ _ l0_1 x77_4 t936 t937 _ ?side1 ?side2 A50.out).mono ?_); (case side1 => exact Kd.C_below (Kd.C_below HR0_1.out HB.out) bgo_); (case side2 => exact HC0_1.out); rintro e w57 ⟨rfl, hb⟩; refine ⟨_, rfl, ?_⟩; have HL9o := HL9; clear HL9; have HL9 := Aside0.mk (Kd.R_below HL9o.out hb); clear HL9o; replace HO_5 := Aside0.mk (Kd.S_below (Kd.S_below HO_5.out bgo_) hb); replace HO_8 := Aside0.mk (Kd.S_below (Kd.S_below HO_8.out bgo_) hb); replace BK910 := Aside0.mk (blk_below (g := gb910) (o := .cells #[.int .i64 a0_0, .slice A0_1 l0_1.length c0_1] 29 (0, 0)) (blk_below BK910.out bgo_) hb); replace HB := Aside0.mk (below_step hbs_ hb); (try clear hb); (try clear hb2); (try clear hk); (try clear hi); obtain ⟨Ao58, co58, eo58⟩ := Kd.S_slice HO_5.out; subst eo58; have p938 : 0 ≤ (t933 : Int) := od_; have q938 : t933 < (x5_4.length : Int) := od_; obtain ⟨ad938, A938_0, c938_0, e938, hx938_0, hl938_0, hi938_0⟩ := at_L1 (Kd.S_reads' HO_5.out).2.2 t933 p938 q938; cases e938; obtain ⟨ce938, hce938, hMe938, hcc938⟩ := Kd.S_get HO_5.out [] t933 p938 (by first | exact q938 | exact od_ | (have e_ := (Kd.S_reads' HO_5.out).1; omega)); obtain ⟨ve938_0, rfl, ge938_0⟩ := hMe938; have hv938_0 := hcc938 0 _ rfl; rw [Nat.add_zero, show ((Kd.slice 2 (Kd.int .i64))).sz = 1 from rfl, Nat.mul_one] at hv938_0; replace hv938_0 := Option.some.inj (hv938_0.symm.trans hx938_0); rw [hv938_0] at ge938_0; have HL938_0 := Aside0.mk (show Kd.R (Kd.int .i64) 2 _ _ _ _ (rd_L1 x5_4 t933) from ge938_0); clear hv938_0 ge938_0; have HX938_0 := Aside0.mk hx938_0; clear hcc938 hce938; have HR938_0 := Aside0.mk hi938_0; have HC938_0 := Aside0.mk hl938_0; clear hi938_0 hl938_0; replace p938 := eq_true p938; replace q938 := eq_true q938; have p939 : 0 ≤ (t937 : Int) := od_; have q939 : t937 < ((rd_L1 x5_4 t933).length : Int) := od_; obtain ⟨ad939, e939, hx939_0⟩ := Kd.at_int (by repeat (first | (with_reducible exact HR938_0.out) | (with_reducible refine Kd.C_alloc ?_ _) | (with_reducible refine Kd.C_drewN ?_ _) | (with_reducible refine Kd.C_drew ?_) | exact HR938_0.out)) t937 p939 q939; cases e939; replace p939 := eq_true p939; replace q939 := eq_true q939; have p55 : 0 ≤ (t937 : Int) := od_; have q55 : (t937 : Int) < (((rd_L1 x5_4 t933).length : Int) : Int) := od_; obtain ⟨go55, co55, eo55, gb55, gl55, cl55, HG55⟩ := Kd.R_form HL938_0.out (by omega); (first | cases eo55 | (injection eo55 with ea_ en_ ec_; (first | subst ea_ | (injection ea_ with ea_; subst ea_)); subst ec_; clear en_)); have GB55 := Aside0.mk gb55; have GG55 := Aside0.mk HG55; clear gb55 gl55 HG55; (first | simp only [add_plain] at hx939_0 | skip); obtain ⟨hx55_0, hf55_0⟩ := Kd.R_celln 0 HL938_0.out (t937 : Int) p55 q55; replace p55 := eq_true p55; replace q55 := eq_true q55; have hq59 : (t933 : Int) < (x5_4.length : Int) := (by have h_ : (t933 : Int) < ((x5_4.length : Int) : Int) := od_; first | exact h_ | (have e_ := (Kd.S_reads' HO_5.out).1; omega) | simpa only [List.length_set, List.length_set] using h_); obtain ⟨oki59, ce59, hcl59, hM59, hcc59, hok59, hbk59⟩ := Kd.S_borrow HO_5.out [] (t933 : Int) (od_) (by first | exact hq59 | (have e_ := (Kd.S_reads' HO_5.out).1; have h_ := hq59; omega)); obtain ⟨ve59_0, rfl, ge59_0⟩ := hM59; have hv59 := hcc59 0 _ rfl; rw [Nat.add_zero, show ((Kd.slice 2 (Kd.int .i64))).sz = 1 from rfl, Nat.mul_one] at hv59; replace hv59 := Option.some.inj (hv59.symm.trans HX938_0.out); subst hv59; clear hcc59 hcl59; replace ge59_0 := (show Kd.R (Kd.int .i64) 2 _ _ _ _ (rd_L1 x5_4 t933) from ge59_0); have HP59 := Kd.R_putg ge59_0 (t937 : Int) (wrap64 ((rd (rd_L1 x5_4 t933) t937) + (rd (rd_L1 x8_2 x64_3) x77_4)))) | ((with_reducible refine gate_store (t := 2) (p := 97) rfl ?_); refine store_event (t := 2) (p := 97) (v := ?vo_w60) (w1 := (w57.setCell ⟨go55, (t937 : Int).toNat, none⟩ (.int .i64 (wrap64 ((rd (rd_L1 x5_4 t933) t937) + (rd (rd_L1 x8_2 x64_3) x77_4)))))) ?hg ?ho ?hn ?hr ?_; (case ho => rfl); (case hg => rfl); (case hn => rfl); (case hr => first | (go_simp; done) | (go_simp; rfl)); intro w60 hw; have hg : w57.grownBy w60 (some go55) := (by rw [hw]; exact HP59.2); have hz_ : Kd.R (Kd.int .i64) 2 w60 w.heap.size oki59 (.slice (some ⟨go55, 0, none⟩) (rd_L1 x5_4 t933).length c938_0) y940 := (by rw [hw, Ny940.out]; exact HP59.1); have hp_ : Kd.S (Kd.slice 2 (Kd.int .i64)) 26 w60 w.heap.size (fun k_ => k_ < bm9) (.slice (some ad938) x5_4.length co58) y942 := (by rw [Ny942.out]; exact hbk59 hg (fun k_ e_ => by injection e_ with e_; subst e_; exact ge59_0.1 _ rfl) (Kd.M_row hz_)); have hm_ := Kd.R_mono hz_ hok59; clear HP59 hbk59; replace HO_5 := Aside0.mk (hp_); replace HO_8 := Aside0.mk (Kd.S_grown (Kd.S_below HO_8.out bgo_) hg (fun k_ hk e_ => by injection e_ with e_; subst e_; have h1_ := (hok59 _ (ge59_0.1 _ rfl)).1; have h2_ := hk; have h3_ := HBM.out; (try dsimp only at h1_ h2_); omega)); replace BK910 := Aside0.mk (blk_grown (g := gb910) (o := .cells #[.int .i64 a0_0, .slice A0_1 l0_1.length c0_1] 29 (0, 0)) (blk_below BK910.out bgo_) hg (Kd.R_ne HL938_0.out BK910.out (by decide))); replace HB := Aside0.mk ((by rw [hw]; exact below_set (HB.out) GB55.out : Below w.heap.size w w60)); have HL945 := Aside0.mk (hm_); have HC941 := Aside0.mk ((Kd.R_reads' hm_).2.1); clear HL938_0; have HL9o := HL9; clear HL9; have HL9 := Aside0.mk (Kd.R_grown HL9o.out hg (fun k_ hk e_ => by injection e_ with e_; subst e_; have h1_ := (hok59 _ (ge59_0.1 _ rfl)).1; have h2_ := hk; (try dsimp only at h1_ h2_); omega)); clear HL9o; clear hg hw hp_ hz_ hm_ hok59))
              first | go_roundg k4 | (refine Handed.intro k4 ?measure ?_; rotate_left; go_step; (try simp only [add_plain]); (repeat apply Exists.intro); refine ⟨?rel, rfl⟩)
              case measure => have := HK1.out; have := HK2.out; have := HK3.out; have := HK4.out; omega
              case rel => exact ⟨(y942), (wrap64 (x77_4 + 1)), es_, H', ⟨by have := HK1.out; have := HK2.out; have := HK3.out; have := HK4.out; omega⟩, ⟨by (try simp only [hl8_1]); (with_reducible repeat (first | apply Kd.S_alloc | apply Kd.S_drewN | apply Kd.S_drew)); exact HO_5.out⟩, ⟨by (try simp only [hl8_1]); (with_reducible repeat (first | apply Kd.S_alloc | apply Kd.S_drewN | apply Kd.S_drew)); exact HO_8.out⟩, ⟨by (try simp only [hl8_1]); (with_reducible repeat (first | refine blk_drewN ?_ _ | refine blk_drew ?_ | refine blk_alloc ?_ _)); exact BK910.out⟩, ⟨hbs_⟩, HL9⟩
             ·rw [if_neg c47] at H
              have c47b0 := decide_eq_false c47
              (try (have c47z0 := c47b0; simp only [hl8_1] at c47z0))
              clear c47
              have H' := Aside0.mk H
              clear H
              go_wp2
              first | go_roundg k4 | (refine Handed.intro k4 ?measure ?_; rotate_left; go_step; (try simp only [add_plain]); (repeat apply Exists.intro); refine ⟨?rel, rfl⟩)
              case measure => have := HK1.out; have := HK2.out; have := HK3.out; have := HK4.out; omega
              case rel => exact ⟨(x5_4), (wrap64 (x64_3 + 1)), es_, H', ⟨by have := HK1.out; have := HK2.out; have := HK3.out; have := HK4.out; omega⟩, ⟨by (try simp only [hl8_1]); (with_reducible repeat (first | apply Kd.S_alloc | apply Kd.S_drewN | apply Kd.S_drew)); exact HO_5.out⟩, ⟨by (try simp only [hl8_1]); (with_reducible repeat (first | apply Kd.S_alloc | apply Kd.S_drewN | apply Kd.S_drew)); exact HO_8.out⟩, ⟨by (try simp only [hl8_1]); (with_reducible repeat (first | refine blk_drewN ?_ _ | refine blk_drew ?_ | refine blk_alloc ?_ _)); exact BK910.out⟩, ⟨hbs_⟩⟩
          ·rw [if_neg c41] at H
           have c41b0 := decide_eq_false c41
           (try (have c41z0 := c41b0; simp only [hl8_1] at c41z0))
           clear c41
           obtain rfl := Option.some.inj H
           go_wp2
           go_ret
           exact ⟨_, er_, by (with_reducible repeat (first | apply Kd.S_alloc | apply Kd.S_drewN | apply Kd.S_drew)); exact Kd.S_mono HO_5.out (fun _ hk => trivial), hbs_⟩


/-! ### slices_Clone_int64_int64: function 106 -/
def slices_Clone_int64_int64.f (l0 : List Int) : Option (List Int) := if l0.length < 17592186044416 then some l0 else none
set_option maxHeartbeats 8000000 in
set_option maxRecDepth 100000 in
theorem slices_Clone_int64_int64.calls (A0 : Option Addr) (c0 : Nat) (l0 : List Int) (r : List Int) (w : World) (hr0 : Kd.C (Kd.int .i64) w A0 l0.length l0) (hc0 : l0.length ≤ c0) (h : slices_Clone_int64_int64.f l0 = some r) :
  Calls Try.prog 106 #[.slice A0 l0.length c0] w fun e w' => ∃ v0_ : Value, e = .returned (v0_) ∧ Kd.R (Kd.int .i64) 2 w' w.heap.size (fun _ => True) v0_ r ∧ Below w.heap.size w w' := by
 have HR0 := Aside0.mk hr0
 have HC0 := Aside0.mk hc0
 have hlen : l0.length < 17592186044416 := by
  by_cases hh : l0.length < 17592186044416
  ·exact hh
  ·rw [slices_Clone_int64_int64.f, if_neg hh] at h; cases h
 have hrr : r = l0 := by rw [slices_Clone_int64_int64.f, if_pos hlen] at h; exact (Option.some.inj h).symm
 clear h
 have HB := Aside0.mk (Below.refl w.heap.size w)
 cases A0 with
 | none =>
  have hnil : l0 = [] := by
   cases l0 with
   | nil => rfl
   | cons x xs =>
    obtain ⟨_, _, hh⟩ := hr0
    obtain ⟨_, e, _⟩ := hh (by simp)
    cases e
  subst hnil
  subst hrr
  have qe : ∀ W : World, (binOp .eql 26 (.slice none 0 c0) (.slice none 0 0)).run Try.prog W = .ok (.bool true) W := fun W => Lib.run_eql_slice_nil W 26 2 none 0 c0 0 0 Try.underlying26
  clear hr0 hc0
  go_enter Try.func106, Try.ntmps106
  go_wp2
  go_ret
  exact ⟨_, rfl, Kd.R_nil _ _ _ _ _, hb_⟩
 | some a =>
  have qe : ∀ W : World, (binOp .eql 26 (.slice (some a) l0.length c0) (.slice none 0 0)).run Try.prog W = .ok (.bool false) W := fun W => Lib.run_eql_slice_nil W 26 2 (some a) l0.length c0 0 0 Try.underlying26
  clear hr0 hc0
  have LM := Aside0.mk hlen
  clear hlen
  obtain ⟨y1, hy1⟩ : ∃ y_ : List Int, y_ = (([] : List Int)) := ⟨_, rfl⟩
  have hr2 : r = y1 ++ l0 := by rw [hy1, hrr]; rfl
  have hz1 : y1.length = 0 := by rw [hy1]; rfl
  have Ny1 := Aside0.mk hy1
  have Nr := Aside0.mk hr2
  have Nz := Aside0.mk hz1
  clear hy1 hr2 hz1 hrr
  go_enter Try.func106, Try.ntmps106
  go_wp2_with (first | ((with_reducible refine gate_dst (N := 5) rfl ?_); refine Kd.R_lit (Kd.int .i64) _ 2 ?hg (N := 5) ?hd (xs := ([] : List Int)) (inner := []) (ok := fun _ => True) (okp := fun _ => True) ?hr ?hp (fun _ hk => hk) trivial (Below.refl _ _) (Nat.le_refl _) (by simp) ?_; (case hd => rfl); (case hg => rfl); (case hr => first | (go_simp; done) | (go_simp; rfl)); (case hp => exact (Reps.none _ _)); intro v248 w3 ho4 hb hg_ hnew_; clear hg_ hnew_; rw [← Ny1.out] at ho4; have HO249 := Aside0.mk (Kd.R_lower ho4 (below_size hb_)); replace HB := Aside0.mk (below_step hb_ hb); clear hb ho4) | ((with_reducible refine gate_builtin (b := .append) (xs := #[.tmp 5, .tmp 6]) rfl ?_); at_builtin; refine Kd.R_append_rows (Kd.int .i64) (w0 := w) w.heap.size rfl (.tmp 5) (.tmp 6) 26 2 (.int .i64 0) 8 rfl Try.underlying26 info2 rfl (by decide) (by omega) v248 y1 l0 _ _ _ (fun _ => True) (fun _ => False) rfl rfl ?aO ?aR (fun _ _ h => h) (fun _ h => h.elim) ?aF ?aB ?aS ?aL ?_; (case aR => repeat (first | exact (Kd.C_below HR0.out HB.out) | (with_reducible refine Kd.C_alloc ?_ _) | (with_reducible refine Kd.C_drewN ?_ _) | (with_reducible refine Kd.C_drew ?_))); (case aB => exact hb_); (case aF => exact (fun _ _ => trivial)); (case aO => exact (Kd.R_below HO249.out bgo_)); (case aS => exact (below_size hb_)); (case aL => have := LM.out; have := Nz.out; omega); intro v251 w5 ho hb hg hat; rw [← Nr.out] at ho; replace HB := Aside0.mk (hb); have HO252 := Aside0.mk (ho); clear HO249; clear ho hb hg hat))
  go_ret
  exact ⟨_, rfl, (Kd.R_below HO252.out bgo_), hb_⟩

/-! ### impl_Graph_follows: function 107 -/
def impl_Graph_follows.f (a0_0 : Int) (l0_1 : List (List Int)) (a1 : Int) (a2 : Int) : Option (Bool) := (impl_Graph_ends.f a0_0 l0_1 a1).bind fun bt279 => ((impl_Graph_ends.f a0_0 l0_1 a2).bind fun bt281 => (if bt281.1 = bt279.2 then (some (a2 != (Go.bits .xor .i64 a1 1))) else (some false)))
set_option maxHeartbeats 8000000 in
set_option maxRecDepth 100000 in
theorem impl_Graph_follows.calls (a0_0 : Int) (A0_1 : Option Addr) (c0_1 : Nat) (l0_1 : List (List Int)) (a1 : Int) (a2 : Int) (r : Bool) (w : World) (hr0_1 : Kd.C (Kd.slice 2 (Kd.int .i64)) w A0_1 l0_1.length l0_1) (hc0_1 : l0_1.length ≤ c0_1) (h : impl_Graph_follows.f a0_0 l0_1 a1 a2 = some r) :
  Calls Try.prog 107 #[.agg #[.int .i64 a0_0, .slice A0_1 l0_1.length c0_1], .int .i64 a1, .int .i64 a2] w fun e w' => e = .returned (.bool r) ∧ Below w.heap.size w w' := by
 have hu29 := Try.underlying29
 have HR0_1 := Aside0.mk hr0_1
 have HC0_1 := Aside0.mk hc0_1
 clear hr0_1 hc0_1
 have HB := Aside0.mk (Below.refl w.heap.size w)
 have H : ((impl_Graph_ends.f a0_0 l0_1 a1).bind fun bt279 => ((impl_Graph_ends.f a0_0 l0_1 a2).bind fun bt281 => (if bt281.1 = bt279.2 then (some (a2 != (Go.bits .xor .i64 a1 1))) else (some false)))) = some r := h
 clear h
 obtain ⟨⟨t279, t280⟩, A4, H⟩ := bnd_ H
 dsimp only at H
 obtain ⟨⟨t281, t282⟩, A5, H⟩ := bnd_ H
 dsimp only at H
 by_cases c6 : t281 = t280
 ·rw [if_pos c6] at H
  have c6b0 : (t281 == t280) = true := beq_iff_eq.mpr c6
  have c6b1 : (t281 != t280) = false := bne_eq_false_iff_eq.mpr c6
  clear c6
  obtain rfl := Option.some.inj H
  go_enter Try.func107, Try.ntmps107
  go_wp2_with (first | ((with_reducible refine gate_dst (N := 3) rfl ?_); refine box_event ?hg (N := 3) ?hd (cs := #[.int .i64 a0_0, .slice A0_1 l0_1.length c0_1]) (t := 29) ?hr ?_; (case hd => rfl); (case hg => rfl); (case hr => first | (go_simp; done) | (go_simp; rfl)); intro gb278 hg w7 hbox hb; have BK278 := Aside0.mk (hbox); have GW278 := Aside0.mk ((by rw [hg]; exact (below_size hb_) : w.heap.size ≤ gb278)); have GE278 := Aside0.mk ((by rw [hg]; exact (below_size hb_) : w.heap.size ≤ gb278)); replace HB := Aside0.mk (below_step hb_ hb); clear hb hbox hg; have hcz8_0 : w7.cell? ⟨gb278, 0, none⟩ = some (.int .i64 a0_0) := (blk_cell BK278.out 0).trans rfl; have hcz8_1 : w7.cell? ⟨gb278, 1, none⟩ = some (.slice A0_1 l0_1.length c0_1) := (blk_cell BK278.out 1).trans rfl; have hfz8_0 := blk_frozen BK278.out 0; have hfz8_1 := blk_frozen BK278.out 1) | ((with_reducible refine gate_callee (f := 71) rfl ?_); refine goesL_ (some 14) rfl rfl Try.func71 (by kernel_rfl) rfl #[.agg #[.int .i64 a0_0, .slice A0_1 l0_1.length c0_1], .int .i64 a1] rfl arg_ ?_; (with_reducible refine (impl_Graph_ends.calls a0_0 _ _ l0_1 a1 t279 t280 _ ?side1 ?side2 A4.out).mono ?_); (case side1 => exact Kd.C_below (Kd.C_below HR0_1.out HB.out) bgo_); (case side2 => exact HC0_1.out); rintro e w9 ⟨rfl, hb⟩; refine ⟨_, rfl, ?_⟩; replace BK278 := Aside0.mk (blk_below (g := gb278) (o := .cells #[.int .i64 a0_0, .slice A0_1 l0_1.length c0_1] 29 (0, 0)) (blk_below BK278.out bgo_) hb); replace HB := Aside0.mk (below_step hbs_ hb); (try clear hb); (try clear hb2); (try clear hk); (try clear hi); have hcz10_0 : w9.cell? ⟨gb278, 0, none⟩ = some (.int .i64 a0_0) := (blk_cell BK278.out 0).trans rfl; have hcz10_1 : w9.cell? ⟨gb278, 1, none⟩ = some (.slice A0_1 l0_1.length c0_1) := (blk_cell BK278.out 1).trans rfl; have hfz10_0 := blk_frozen BK278.out 0; have hfz10_1 := blk_frozen BK278.out 1) | ((with_reducible refine gate_callee (f := 71) rfl ?_); refine goesL_ (some 20) rfl rfl Try.func71 (by kernel_rfl) rfl #[.agg #[.int .i64 a0_0, .slice A0_1 l0_1.length c0_1], .int .i64 a2] rfl arg_ ?_; (with_reducible refine (impl_Graph_ends.calls a0_0 _ _ l0_1 a2 t281 t282 _ ?side1 ?side2 A5.out).mono ?_); (case side1 => exact Kd.C_below (Kd.C_below HR0_1.out HB.out) bgo_); (case side2 => exact HC0_1.out); rintro e w11 ⟨rfl, hb⟩; refine ⟨_, rfl, ?_⟩; replace BK278 := Aside0.mk (blk_below (g := gb278) (o := .cells #[.int .i64 a0_0, .slice A0_1 l0_1.length c0_1] 29 (0, 0)) (blk_below BK278.out bgo_) hb); replace HB := Aside0.mk (below_step hbs_ hb); (try clear hb); (try clear hb2); (try clear hk); (try clear hi)))
  go_ret
  exact ⟨er_, hbs_⟩
 ·rw [if_neg c6] at H
  have c6b0 : (t281 == t280) = false := beq_eq_false_iff_ne.mpr c6
  have c6b1 : (t281 != t280) = true := bne_iff_ne.mpr c6
  obtain rfl := Option.some.inj H
  go_enter Try.func107, Try.ntmps107
  go_wp2_with (first | ((with_reducible refine gate_dst (N := 3) rfl ?_); refine box_event ?hg (N := 3) ?hd (cs := #[.int .i64 a0_0, .slice A0_1 l0_1.length c0_1]) (t := 29) ?hr ?_; (case hd => rfl); (case hg => rfl); (case hr => first | (go_simp; done) | (go_simp; rfl)); intro gb278 hg w12 hbox hb; have BK278 := Aside0.mk (hbox); have GW278 := Aside0.mk ((by rw [hg]; exact (below_size hb_) : w.heap.size ≤ gb278)); have GE278 := Aside0.mk ((by rw [hg]; exact (below_size hb_) : w.heap.size ≤ gb278)); replace HB := Aside0.mk (below_step hb_ hb); clear hb hbox hg; have hcz13_0 : w12.cell? ⟨gb278, 0, none⟩ = some (.int .i64 a0_0) := (blk_cell BK278.out 0).trans rfl; have hcz13_1 : w12.cell? ⟨gb278, 1, none⟩ = some (.slice A0_1 l0_1.length c0_1) := (blk_cell BK278.out 1).trans rfl; have hfz13_0 := blk_frozen BK278.out 0; have hfz13_1 := blk_frozen BK278.out 1) | ((with_reducible refine gate_callee (f := 71) rfl ?_); refine goesL_ (some 14) rfl rfl Try.func71 (by kernel_rfl) rfl #[.agg #[.int .i64 a0_0, .slice A0_1 l0_1.length c0_1], .int .i64 a1] rfl arg_ ?_; (with_reducible refine (impl_Graph_ends.calls a0_0 _ _ l0_1 a1 t279 t280 _ ?side1 ?side2 A4.out).mono ?_); (case side1 => exact Kd.C_below (Kd.C_below HR0_1.out HB.out) bgo_); (case side2 => exact HC0_1.out); rintro e w14 ⟨rfl, hb⟩; refine ⟨_, rfl, ?_⟩; replace BK278 := Aside0.mk (blk_below (g := gb278) (o := .cells #[.int .i64 a0_0, .slice A0_1 l0_1.length c0_1] 29 (0, 0)) (blk_below BK278.out bgo_) hb); replace HB := Aside0.mk (below_step hbs_ hb); (try clear hb); (try clear hb2); (try clear hk); (try clear hi); have hcz15_0 : w14.cell? ⟨gb278, 0, none⟩ = some (.int .i64 a0_0) := (blk_cell BK278.out 0).trans rfl; have hcz15_1 : w14.cell? ⟨gb278, 1, none⟩ = some (.slice A0_1 l0_1.length c0_1) := (blk_cell BK278.out 1).trans rfl; have hfz15_0 := blk_frozen BK278.out 0; have hfz15_1 := blk_frozen BK278.out 1) | ((with_reducible refine gate_callee (f := 71) rfl ?_); refine goesL_ (some 20) rfl rfl Try.func71 (by kernel_rfl) rfl #[.agg #[.int .i64 a0_0, .slice A0_1 l0_1.length c0_1], .int .i64 a2] rfl arg_ ?_; (with_reducible refine (impl_Graph_ends.calls a0_0 _ _ l0_1 a2 t281 t282 _ ?side1 ?side2 A5.out).mono ?_); (case side1 => exact Kd.C_below (Kd.C_below HR0_1.out HB.out) bgo_); (case side2 => exact HC0_1.out); rintro e w16 ⟨rfl, hb⟩; refine ⟨_, rfl, ?_⟩; replace BK278 := Aside0.mk (blk_below (g := gb278) (o := .cells #[.int .i64 a0_0, .slice A0_1 l0_1.length c0_1] 29 (0, 0)) (blk_below BK278.out bgo_) hb); replace HB := Aside0.mk (below_step hbs_ hb); (try clear hb); (try clear hb2); (try clear hk); (try clear hi)))
  go_ret
  exact ⟨er_, hbs_⟩

-- NOT PRINTED: function 105 (impl_Graph_walks_1)

-- NOT PRINTED: function 69 (impl_Graph_walks)

-- NOT PRINTED: function 70 (impl_WalksFrom_2)

/-! ### impl_WalksFrom_3: function 72 -/
def impl_WalksFrom_3.f (l0 : List Int) : Option (Bool) := some true
set_option maxHeartbeats 8000000 in
set_option maxRecDepth 100000 in
theorem impl_WalksFrom_3.calls (A0 : Option Addr) (c0 : Nat) (l0 : List Int) (r : Bool) (w : World) (hr0 : Kd.C (Kd.int .i64) w A0 l0.length l0) (hc0 : l0.length ≤ c0) (h : impl_WalksFrom_3.f l0 = some r) :
  Calls Try.prog 72 #[.slice A0 l0.length c0] w fun e w' => e = .returned (.bool r) ∧ Drawn0 w w' := by
 have HR0 := Aside0.mk hr0
 have HC0 := Aside0.mk hc0
 clear hr0 hc0
 have H : (some true) = some r := h
 clear h
 obtain rfl := Option.some.inj H
 go_enter Try.func72, Try.ntmps72
 go_wp2
 go_ret
 exact ⟨es_, by repeat (first | exact Drawn0.refl _ | apply Drawn0.step)⟩

/-! ### impl_WalksFrom_1: function 100001 -/
def impl_WalksFrom_1.f (a0_0 : Int) (a1_0 : Int) (l1_1 : List (List Int)) (a2_0 : Int) : Option (Bool) := (impl_within.f a0_0 0 (wrap64 (a1_0 - 1))).bind fun t294 => (if t294 = true then ((impl_isLength.f a2_0).bind fun t295 => (some t295)) else (some false))
set_option maxHeartbeats 8000000 in
set_option maxRecDepth 100000 in
theorem impl_WalksFrom_1.calls (gq0_0 : Nat) (a0_0 : Int) (gq1_0 : Nat) (a1_0 : Int) (A1_1 : Option Addr) (c1_1 : Nat) (l1_1 : List (List Int)) (gq2_0 : Nat) (a2_0 : Int) (r : Bool) (w : World) (hbgq0_0 : w.heap[gq0_0]? = some (.cells #[.int .i64 a0_0] 2 (0, 0))) (hbgq1_0 : w.heap[gq1_0]? = some (.cells #[.int .i64 a1_0, .slice A1_1 l1_1.length c1_1] 29 (0, 0))) (hr1_1 : Kd.C (Kd.slice 2 (Kd.int .i64)) w A1_1 l1_1.length l1_1) (hc1_1 : l1_1.length ≤ c1_1) (hbgq2_0 : w.heap[gq2_0]? = some (.cells #[.int .i64 a2_0] 2 (0, 0))) (h : impl_WalksFrom_1.f a0_0 a1_0 l1_1 a2_0 = some r) :
  Calls Try.prog 66 #[.pointer (some ⟨gq0_0, 0, none⟩), .pointer (some ⟨gq1_0, 0, none⟩), .pointer (some ⟨gq2_0, 0, none⟩)] w fun e w' => e = .returned (.bool r) ∧ Below w.heap.size w w' := by
 have HR1_1 := Aside0.mk hr1_1
 have HC1_1 := Aside0.mk hc1_1
 clear hr1_1 hc1_1
 have BK291 := Aside0.mk hbgq0_0
 clear hbgq0_0
 have BK292 := Aside0.mk hbgq1_0
 clear hbgq1_0
 have BK293 := Aside0.mk hbgq2_0
 clear hbgq2_0
 have HB := Aside0.mk (Below.refl w.heap.size w)
 have H : ((impl_within.f a0_0 0 (wrap64 (a1_0 - 1))).bind fun t294 => (if t294 = true then ((impl_isLength.f a2_0).bind fun t295 => (some t295)) else (some false))) = some r := h
 clear h
 obtain ⟨t294, A4, H⟩ := bnd_ H
 by_cases c5 : t294 = true
 ·subst c5
  have H1 : ((impl_isLength.f a2_0).bind fun t295 => (some t295)) = some r := by rw [if_pos rfl] at H; exact H
  clear H
  have H := H1
  clear H1
  obtain ⟨t295, A6, H⟩ := bnd_ H
  obtain rfl := Option.some.inj H
  have hcz7_0 : w.cell? ⟨gq0_0, 0, none⟩ = some (.int .i64 a0_0) := (blk_cell BK291.out 0).trans rfl
  have hfz7_0 := blk_frozen BK291.out 0
  have hcz8_0 : w.cell? ⟨gq1_0, 0, none⟩ = some (.int .i64 a1_0) := (blk_cell BK292.out 0).trans rfl
  have hcz8_1 : w.cell? ⟨gq1_0, 1, none⟩ = some (.slice A1_1 l1_1.length c1_1) := (blk_cell BK292.out 1).trans rfl
  have hfz8_0 := blk_frozen BK292.out 0
  have hfz8_1 := blk_frozen BK292.out 1
  go_enter Try.func66, Try.ntmps66
  go_wp2_with (first | ((with_reducible refine gate_callee (f := 58) rfl ?_); refine goesL_ (some 8) rfl rfl Try.func58 (by kernel_rfl) rfl #[.int .i64 a0_0, .int .i64 0, .int .i64 (wrap64 (a1_0 - 1))] rfl arg_ ?_; (with_reducible refine (impl_within.calls a0_0 0 (wrap64 (a1_0 - 1)) true _ A4.out).mono ?_); rintro e w' ⟨rfl, ⟨nd, rfl⟩⟩; refine ⟨_, rfl, ?_⟩; have hcz9_0 : w.cell? ⟨gq2_0, 0, none⟩ = some (.int .i64 a2_0) := (blk_cell BK293.out 0).trans rfl; have hfz9_0 := blk_frozen BK293.out 0) | (go_at_call 67; (with_reducible refine (impl_isLength.calls a2_0 t295 _ A6.out).mono ?_); rintro e w' ⟨rfl, ⟨nd, rfl⟩⟩))
  go_ret
  exact ⟨er_, hbs_⟩
 ·replace c5 := Bool.eq_false_iff.mpr c5
  subst c5
  have H1 : (some false) = some r := by rw [if_neg (show ¬ (false = true) by decide)] at H; exact H
  clear H
  have H := H1
  clear H1
  obtain rfl := Option.some.inj H
  have hcz10_0 : w.cell? ⟨gq0_0, 0, none⟩ = some (.int .i64 a0_0) := (blk_cell BK291.out 0).trans rfl
  have hfz10_0 := blk_frozen BK291.out 0
  have hcz11_0 : w.cell? ⟨gq1_0, 0, none⟩ = some (.int .i64 a1_0) := (blk_cell BK292.out 0).trans rfl
  have hcz11_1 : w.cell? ⟨gq1_0, 1, none⟩ = some (.slice A1_1 l1_1.length c1_1) := (blk_cell BK292.out 1).trans rfl
  have hfz11_0 := blk_frozen BK292.out 0
  have hfz11_1 := blk_frozen BK292.out 1
  go_enter Try.func66, Try.ntmps66
  go_wp2_with (first | ((with_reducible refine gate_callee (f := 58) rfl ?_); refine goesL_ (some 8) rfl rfl Try.func58 (by kernel_rfl) rfl #[.int .i64 a0_0, .int .i64 0, .int .i64 (wrap64 (a1_0 - 1))] rfl arg_ ?_; (with_reducible refine (impl_within.calls a0_0 0 (wrap64 (a1_0 - 1)) false _ A4.out).mono ?_); rintro e w' ⟨rfl, ⟨nd, rfl⟩⟩; refine ⟨_, rfl, ?_⟩))
  go_ret
  exact ⟨er_, hbs_⟩

end Go.Proofs.Ytipigagbgpoecaa.G
