/- The printed functions that this law reaches, and their contracts: part 2. -/
-- printed by this repo's wip/printer out of the kit's print with its own changes
import Derived.Test.YtedhnaljedonfaaC1
namespace Go.Proofs.Ytedhnaljedonfaa.G
open Go.RowKit Go.Proofs.YtedhnaljedonfaaW.PrintWords Go.Proofs.YtedhnaljedonfaaW.PrintLast Go.Proofs.YtedhnaljedonfaaW.PrintMore
attribute [local go_sem] max2_int min2_int max_two min_two max_three min_three max_four min_four   -- for this text's walks alone
set_option linter.unusedVariables false
set_option linter.unusedSimpArgs false

/-! ### laws_markInt64SS: function 26 -/
def laws_markInt64SS.l0 : Nat → List (List Int) → Int → Int → Option (Int × List (List Int))
  | 0, _, _, _ => none
  | k + 1, x0, x1, x3 => if x3 < (x0.length : Int) then (if 0 ≤ x3 then ((laws_markInt64S.f k (rd_L1 x0 x3) x1).bind fun b => (laws_markInt64SS.l0 k (x0.set (x3 : Int).toNat b.2) b.1 (wrap64 (x3 + 1)))) else (none)) else (some (x1, x0))
def laws_markInt64SS.f (k : Nat) (l0 : List (List Int)) (a1 : Int) : Option (Int × List (List Int)) := laws_markInt64SS.l0 k l0 a1 0
theorem laws_markInt64SS.mono_l : ∀ k, (∀ y0 y1 y2, LeO (laws_markInt64SS.l0 k y0 y1 y2) (laws_markInt64SS.l0 (k + 1) y0 y1 y2))
  | 0 => fun _ _ _ r h => by simp [laws_markInt64SS.l0] at h
  | k + 1 => by
    have ih0 := laws_markInt64SS.mono_l k
    · intro y0 y1 y2
      unfold laws_markInt64SS.l0
      repeat' first
      | (with_reducible exact ih0 _ _ _)
      | (with_reducible exact laws_markInt64S.mono _ _ _)
      | (with_reducible exact LeO.refl _)
      | (with_reducible exact LeO.none _)
      | (with_reducible refine LeO.ite ?_ ?_)
      | (with_reducible refine LeO.bind ?_ (fun _ => ?_))
      | exact ih0 _ _ _
      | exact laws_markInt64S.mono _ _ _
      | exact LeO.none _
      | refine LeO.ite ?_ ?_
      | refine LeO.bind ?_ (fun _ => ?_)
theorem laws_markInt64SS.mono : ∀ a0 a1 k, LeO (laws_markInt64SS.f k a0 a1) (laws_markInt64SS.f (k + 1) a0 a1) := by
  intro a0 a1 k
  have ih0 := laws_markInt64SS.mono_l k
  unfold laws_markInt64SS.f
  repeat' first
      | (with_reducible exact ih0 _ _ _)
      | (with_reducible exact laws_markInt64S.mono _ _ _)
      | (with_reducible exact LeO.refl _)
      | (with_reducible exact LeO.none _)
      | (with_reducible refine LeO.ite ?_ ?_)
      | (with_reducible refine LeO.bind ?_ (fun _ => ?_))
      | exact ih0 _ _ _
      | exact laws_markInt64S.mono _ _ _
      | exact LeO.none _
      | refine LeO.ite ?_ ?_
      | refine LeO.bind ?_ (fun _ => ?_)
set_option maxHeartbeats 8000000 in
set_option maxRecDepth 100000 in
theorem laws_markInt64SS.calls (k : Nat) (P0_ : Nat → Prop) (u9000_ : Value) (l0 : List (List Int)) (a1 : Int) (r1 : Int) (r2 : List (List Int)) (w0 w : World) (hB : Below w0.heap.size w0 w) (ho0 : Kd.S (Kd.slice 2 (Kd.int .i64)) 25 w w0.heap.size P0_ u9000_ l0) (h : laws_markInt64SS.f k l0 a1 = some (r1, r2)) :
    Calls Try.prog 26 #[u9000_, .int .i64 a1] w fun e w' => e = .returned (.int .i64 r1) ∧ Kd.S (Kd.slice 2 (Kd.int .i64)) 25 w' w0.heap.size P0_ u9000_ r2 ∧ Below w0.heap.size w0 w' ∧ Kept w w' (fun k_ => P0_ k_) := by
  obtain ⟨Ao, co, eo⟩ := Kd.S_slice ho0
  subst eo
  have HO := Aside0.mk ho0
  have HB := Aside0.mk hB
  have HK := Aside0.mk (Kept.refl w P0_)
  have H' := Aside0.mk (show laws_markInt64SS.l0 k l0 a1 0 = some (r1, r2) from h)
  clear ho0 hB h
  go_enter Try.func26, Try.ntmps26
  go_wp2
  go_loopg [1, 5] k (fun kq v1 v5 w' => ∃ (x0 : List (List Int)) (x1 : Int) (x3 : Int), v1 = .int .i64 x1 ∧ v5 = .int .i64 x3 ∧ Aside0 (laws_markInt64SS.l0 kq x0 x1 x3 = some (r1, r2)) ∧ Aside0 (kq ≤ k) ∧ Aside0 (Kd.S (Kd.slice 2 (Kd.int .i64)) 25 w' w0.heap.size P0_ (.slice Ao l0.length co) x0) ∧ Aside0 (Kept w w' P0_) ∧ Aside0 (Below w0.heap.size w0 w'))
  case atStart => exact ⟨l0, a1, 0, rfl, rfl, H', ⟨Nat.le_refl _⟩, HO, HK, HB⟩
  case round =>
    clear H' HO HK HB
    obtain ⟨x0, x1, x3, rfl, rfl, HA, HK1, HO, HK, HB⟩ := hrel
    cases gk with
    | zero => exact absurd HA.out (by simp [laws_markInt64SS.l0])
    | succ k1 =>
      have hlen : l0.length = x0.length := (Kd.S_reads' HO.out).1
      have H := HA.out
      clear HA
      simp only [laws_markInt64SS.l0] at H
      by_cases c1 : x3 < (x0.length : Int)
      · rw [if_pos c1] at H
        have c1b0 : decide (x3 < (l0.length : Int)) = true := decide_eq_true (by omega)
        by_cases c2 : 0 ≤ x3
        · rw [if_pos c2] at H
          have c2b0 : decide (0 ≤ x3) = true := decide_eq_true c2
          replace H := Option.bind_eq_some_iff.mp H
          obtain ⟨⟨t1, t2⟩, A0, H⟩ := H
          have H' := Aside0.mk H
          clear H
          obtain ⟨le, hle⟩ : ∃ le_ : List Int, List.getD x0 x3.toNat [] = le_ := ⟨_, rfl⟩
          have A := Aside0.mk (show laws_markInt64S.f k1 le x1 = some (t1, t2) from by rw [← hle]; exact A0)
          clear A0
          obtain ⟨g, cap, eg, _, _, _⟩ := Kd.S_form HO.out (by omega)
          have eg' : Ao = some ⟨g, 0, none⟩ := by injection eg
          subst eg'
          clear eg
          obtain ⟨oki, ce, hcl, hM, hcc, hfr, hoki, hH⟩ := Kd.S_elem HO.out [] x3 c2 (by omega)
          rw [hle] at hM
          obtain ⟨ve, rfl, hR⟩ := hM
          have hx := hcc 0 _ rfl
          simp only [show (Kd.slice 2 (Kd.int .i64)).sz = 1 from rfl, Nat.mul_one, Nat.add_zero] at hx
          obtain ⟨Ae, cE, ee⟩ := Kd.R_slice hR
          subst ee
          have HR := Aside0.mk hR
          have HH := Aside0.mk hH
          have HI := Aside0.mk hoki
          clear hR hH hoki hcc hfr hcl
          have p2 : (0 ≤ x3) = True := eq_true c2
          have q2 : (x3 < (l0.length : Int)) = True := eq_true (by omega)
          clear hlen c1 c2 hle
          go_wp2_with (first | ((with_reducible refine gate_callee (f := 45) rfl ?_); refine goesL_ (some 17) rfl rfl Try.func45 (by kernel_rfl) rfl #[.slice Ae le.length cE, .int .i64 x1] rfl (by (try simp only [List.map_toArray, List.map_cons, List.map_nil]); first | done | rfl | (simp only [List.length_drop, List.length_take]; rfl)) ?_; (with_reducible refine (laws_markInt64S.calls k1 oki (.slice Ae le.length cE) le x1 t1 t2 w0 _ HB.out HR.out A.out).mono ?_); rintro e w5 ⟨rfl, hy, hb, hkp⟩; refine ⟨_, rfl, ?_⟩; have n0_ := Aside0.mk (Kd.H_back (Kd.H_step HH.out (fun k_ hk hn hl => hkp.2 k_ hl hn)) (x' := t2) (okp := oki) ⟨.slice Ae le.length cE, rfl, Kd.R_reok rfl hy (fun k_ e_ => HR.out.1 k_ e_)⟩ (fun _ h_ => h_)); have n1_ := Aside0.mk (Kept.then_ HK.out hkp (fun k_ hk => .inl (HI.out k_ hk).1)); have n2_ := Aside0.mk hb; clear HO HK HB HR HH HI hy hb hkp; have HO := n0_; have HK := n1_; have HB := n2_; clear n0_ n1_ n2_))
          go_roundg k1
          case measure => have := HK1.out; omega
          case rel => exact ⟨x0.set x3.toNat t2, t1, wrap64 (x3 + 1), rfl, (by first | rfl | (simp; done)), H', ⟨by have := HK1.out; omega⟩, HO, HK, HB⟩
        · rw [if_neg c2] at H
          exact absurd H (by simp)
      · rw [if_neg c1] at H
        have c1b0 : decide (x3 < (l0.length : Int)) = false := decide_eq_false (by omega)
        simp only [Option.some.injEq, Prod.mk.injEq] at H
        obtain ⟨rfl, rfl⟩ := H
        clear hlen c1
        go_wp2
        go_ret
        exact ⟨rfl, HO.out, HB.out, HK.out⟩

/-! ### laws_markGraph: function 25 -/
def laws_markGraph.f (k : Nat) (a0_0 : Int) (l0_1 : List (List Int)) (a1 : Int) : Option (Int × List (List Int)) := laws_markInt64SS.f k l0_1 a1
theorem laws_markGraph.mono : ∀ a0 a1 a2 k, LeO (laws_markGraph.f k a0 a1 a2) (laws_markGraph.f (k + 1) a0 a1 a2) := fun _ _ _ _ => laws_markInt64SS.mono _ _ _
set_option maxHeartbeats 8000000 in
set_option maxRecDepth 100000 in
theorem laws_markGraph.calls (k : Nat) (a0_0 : Int) (P0_1_ : Nat → Prop) (u9000_ : Value) (l0_1 : List (List Int)) (a1 : Int) (r1 : Int) (r2 : List (List Int)) (w0 w : World) (hB : Below w0.heap.size w0 w) (ho0_1 : Kd.S (Kd.slice 2 (Kd.int .i64)) 25 w w0.heap.size P0_1_ u9000_ l0_1) (h : laws_markGraph.f k a0_0 l0_1 a1 = some (r1, r2)) :
    Calls Try.prog 25 #[.agg #[.int .i64 a0_0, u9000_], .int .i64 a1] w fun e w' => e = .returned (.int .i64 r1) ∧ Kd.S (Kd.slice 2 (Kd.int .i64)) 25 w' w0.heap.size P0_1_ u9000_ r2 ∧ Below w0.heap.size w0 w' ∧ Kept w w' (fun k_ => P0_1_ k_) := by
  have hu29 := Try.underlying29
  obtain ⟨Ao, co, eo⟩ := Kd.S_slice ho0_1
  subst eo
  have HO := Aside0.mk ho0_1
  have HB := Aside0.mk hB
  have A := Aside0.mk (show laws_markInt64SS.f k l0_1 a1 = some (r1, r2) from h)
  clear ho0_1 hB h
  go_enter Try.func25, Try.ntmps25
  go_upto_region 1 with (first | ((with_reducible refine gate_dst (N := 2) rfl ?_); refine box_event ?hg (N := 2) ?hd (cs := #[.int .i64 a0_0, .slice Ao l0_1.length co]) (t := 29) ?hr ?_; (case hd => rfl); (case hg => rfl); (case hr => first | (go_simp; done) | (go_simp; rfl)); intro gb hg w3 hbox hb; have n0_ := Aside0.mk (below_step HB.out hb); have n1_ := Aside0.mk (Kd.S_below HO.out hb); have n2_ := Aside0.mk hbox; have n3_ := Aside0.mk hb; clear HB HO; have HB := n0_; have HO := n1_; have BK := n2_; have HN := n3_; clear n0_ n1_ n2_ n3_ hb hbox hg))
  (try simp only [Act.put, List.setIfInBounds_toArray, List.set_cons_zero, List.set_cons_succ])
  have hc0 : w3.cell? ⟨gb, 0, none⟩ = some (.int .i64 a0_0) := (blk_cell BK.out 0).trans rfl
  have hc1 : w3.cell? ⟨gb, 1, none⟩ = some (.slice Ao l0_1.length co) := (blk_cell BK.out 1).trans rfl
  have hf0 := blk_frozen BK.out 0
  have hf1 := blk_frozen BK.out 1
  go_wp2_with (first | ((with_reducible refine gate_callee (f := 26) rfl ?_); refine goesL_ (some 8) rfl rfl Try.func26 (by kernel_rfl) rfl #[.slice Ao l0_1.length co, .int .i64 a1] rfl (by (try simp only [List.map_toArray, List.map_cons, List.map_nil]); first | done | rfl) ?_; (with_reducible refine (laws_markInt64SS.calls k P0_1_ (.slice Ao l0_1.length co) l0_1 a1 r1 r2 w0 _ HB.out HO.out A.out).mono ?_); rintro e w5 ⟨rfl, hy, hb, hkp⟩; refine ⟨_, rfl, ?_⟩; have n0_ := Aside0.mk hy; have n1_ := Aside0.mk (Kept.then_ (Kept.of_below HN.out (fun k_ => P0_1_ k_)) hkp (fun k_ hk => .inl hk)); have n2_ := Aside0.mk hb; clear HO HB hy hb hkp; have HO := n0_; have HK := n1_; have HB := n2_; clear n0_ n1_ n2_))
  go_ret
  exact ⟨rfl, HO.out, HB.out, HK.out⟩

/-! ### laws_heldInt64S: function 46 -/
def laws_heldInt64S.l0 : Nat → List Int → Int → Int → Option (Int)
  | 0, _, _, _ => none
  | k + 1, x0, x1, x5 => if x5 < (x0.length : Int) then (if 0 ≤ x5 then (if (rd x0 x5) = x1 then (laws_heldInt64S.l0 k x0 (wrap64 (x1 + 1)) (wrap64 (x5 + 1))) else (some (-1))) else (none)) else (some x1)
def laws_heldInt64S.f (k : Nat) (l0 : List Int) (a1 : Int) : Option (Int) := laws_heldInt64S.l0 k l0 a1 0
theorem laws_heldInt64S.mono_l : ∀ k, (∀ y0 y1 y2, LeO (laws_heldInt64S.l0 k y0 y1 y2) (laws_heldInt64S.l0 (k + 1) y0 y1 y2))
  | 0 => fun _ _ _ r h => by simp [laws_heldInt64S.l0] at h
  | k + 1 => by
    have ih0 := laws_heldInt64S.mono_l k
    · intro y0 y1 y2
      unfold laws_heldInt64S.l0
      repeat' first
      | (with_reducible exact ih0 _ _ _)
      | (with_reducible exact LeO.refl _)
      | (with_reducible exact LeO.none _)
      | (with_reducible refine LeO.ite ?_ ?_)
      | (with_reducible refine LeO.bind ?_ (fun _ => ?_))
      | exact ih0 _ _ _
      | exact LeO.none _
      | refine LeO.ite ?_ ?_
      | refine LeO.bind ?_ (fun _ => ?_)
theorem laws_heldInt64S.mono : ∀ a0 a1 k, LeO (laws_heldInt64S.f k a0 a1) (laws_heldInt64S.f (k + 1) a0 a1) := by
  intro a0 a1 k
  have ih0 := laws_heldInt64S.mono_l k
  unfold laws_heldInt64S.f
  repeat' first
      | (with_reducible exact ih0 _ _ _)
      | (with_reducible exact LeO.refl _)
      | (with_reducible exact LeO.none _)
      | (with_reducible refine LeO.ite ?_ ?_)
      | (with_reducible refine LeO.bind ?_ (fun _ => ?_))
      | exact ih0 _ _ _
      | exact LeO.none _
      | refine LeO.ite ?_ ?_
      | refine LeO.bind ?_ (fun _ => ?_)
set_option maxHeartbeats 8000000 in
set_option maxRecDepth 100000 in
theorem laws_heldInt64S.calls (k : Nat) (A0 : Option Addr) (c0 : Nat) (l0 : List Int) (a1 : Int) (r : Int) (w : World) (hr0 : Kd.C (Kd.int .i64) w A0 l0.length l0) (hc0 : l0.length ≤ c0) (h : laws_heldInt64S.f k l0 a1 = some r) :
    Calls Try.prog 46 #[.slice A0 l0.length c0, .int .i64 a1] w fun e w' => e = .returned (.int .i64 r) ∧ Drawn0 w w' := by
  have HR0 := Aside0.mk hr0
  have HC0 := Aside0.mk hc0
  clear hr0 hc0
  have H : (laws_heldInt64S.l0 k l0 a1 0) = some r := h
  clear h
  have H' := Aside0.mk H
  clear H
  go_enter Try.func46, Try.ntmps46
  go_wp2
  go_loopg [1, 5] k (fun kq v1 v5 w' => ∃ (x1_1 : Int) (x5_1 : Int), v1 = .int .i64 x1_1 ∧ v5 = .int .i64 x5_1 ∧ Aside0 (laws_heldInt64S.l0 kq l0 x1_1 x5_1 = some r) ∧ Aside0 (kq ≤ k) ∧ Drawn0 w w')
  case atStart => exact ⟨(a1), (0), (by first | rfl | (simp; done) | (simp [*]; done)), (by first | rfl | (simp; done) | (simp [*]; done)), H', ⟨Nat.le_refl _⟩, by repeat (first | exact Drawn0.refl _ | apply Drawn0.step)⟩
  case round =>
    clear H'
    try clear p2
    obtain ⟨x1_1, x5_1, rfl, rfl, HA, HK1, ⟨m1, rfl⟩⟩ := hrel
    cases gk with
    | zero => exact absurd HA.out (by simp [laws_heldInt64S.l0])
    | succ k1 =>
      have H := HA.out
      clear HA
      simp only [laws_heldInt64S.l0] at H
      by_cases c3 : x5_1 < (l0.length : Int)
      · rw [if_pos c3] at H
        have c3b0 : decide (x5_1 < (l0.length : Int)) = true := decide_eq_true c3
        clear c3
        by_cases c4 : 0 ≤ x5_1
        · rw [if_pos c4] at H
          have c4b0 : decide (0 ≤ x5_1) = true := decide_eq_true c4
          clear c4
          by_cases c5 : (rd l0 x5_1) = x1_1
          · rw [if_pos c5] at H
            have c5b0 : ((rd l0 x5_1) == x1_1) = true := beq_iff_eq.mpr c5
            have c5b1 : ((rd l0 x5_1) != x1_1) = false := bne_eq_false_iff_eq.mpr c5
            clear c5
            have H' := Aside0.mk H
            clear H
            have p288 : 0 ≤ (x5_1 : Int) := of_decide_eq_true (by first | (with_reducible assumption) | assumption)
            have q288 : x5_1 < (l0.length : Int) := of_decide_eq_true (by first | (with_reducible assumption) | assumption)
            obtain ⟨ad288, e288, hx288_0⟩ := Kd.at_int HR0.out x5_1 p288 q288
            cases e288
            replace p288 := eq_true p288
            replace q288 := eq_true q288
            go_wp2
            go_roundg k1
            case measure => have := HK1.out; omega
            case rel => exact ⟨(wrap64 (x1_1 + 1)), (wrap64 (x5_1 + 1)), (by first | rfl | (simp; done) | (simp [*]; done)), (by first | rfl | (simp; done) | (simp [*]; done)), H', ⟨by have := HK1.out; omega⟩, by repeat (first | exact Drawn0.refl _ | apply Drawn0.step)⟩
          · rw [if_neg c5] at H
            have c5b0 : ((rd l0 x5_1) == x1_1) = false := beq_eq_false_iff_ne.mpr c5
            have c5b1 : ((rd l0 x5_1) != x1_1) = true := bne_iff_ne.mpr c5
            obtain rfl := Option.some.inj H
            have p288 : 0 ≤ (x5_1 : Int) := of_decide_eq_true (by first | (with_reducible assumption) | assumption)
            have q288 : x5_1 < (l0.length : Int) := of_decide_eq_true (by first | (with_reducible assumption) | assumption)
            obtain ⟨ad288, e288, hx288_0⟩ := Kd.at_int HR0.out x5_1 p288 q288
            cases e288
            replace p288 := eq_true p288
            replace q288 := eq_true q288
            go_wp2
            go_ret
            exact ⟨by first | rfl | (simp; done) | (simp [*]; done), by repeat (first | exact Drawn0.refl _ | apply Drawn0.step)⟩
        · rw [if_neg c4] at H
          exact absurd H (by simp)
      · rw [if_neg c3] at H
        have c3b0 : decide (x5_1 < (l0.length : Int)) = false := decide_eq_false c3
        clear c3
        obtain rfl := Option.some.inj H
        go_wp2
        go_ret
        exact ⟨by first | rfl | (simp; done) | (simp [*]; done), by repeat (first | exact Drawn0.refl _ | apply Drawn0.step)⟩

/-! ### laws_heldInt64SS: function 27 -/
def laws_heldInt64SS.l0 : Nat → List (List Int) → Int → Int → Option (Int)
  | 0, _, _, _ => none
  | k + 1, x0, x1, x5 => if x5 < (x0.length : Int) then (if 0 ≤ x5 then ((laws_heldInt64S.f k (rd_L1 x0 x5) x1).bind fun t290 => (if t290 < 0 then (some (-1)) else (laws_heldInt64SS.l0 k x0 t290 (wrap64 (x5 + 1))))) else (none)) else (some x1)
def laws_heldInt64SS.f (k : Nat) (l0 : List (List Int)) (a1 : Int) : Option (Int) := laws_heldInt64SS.l0 k l0 a1 0
theorem laws_heldInt64SS.mono_l : ∀ k, (∀ y0 y1 y2, LeO (laws_heldInt64SS.l0 k y0 y1 y2) (laws_heldInt64SS.l0 (k + 1) y0 y1 y2))
  | 0 => fun _ _ _ r h => by simp [laws_heldInt64SS.l0] at h
  | k + 1 => by
    have ih0 := laws_heldInt64SS.mono_l k
    · intro y0 y1 y2
      unfold laws_heldInt64SS.l0
      repeat' first
      | (with_reducible exact ih0 _ _ _)
      | (with_reducible exact laws_heldInt64S.mono _ _ _)
      | (with_reducible exact LeO.refl _)
      | (with_reducible exact LeO.none _)
      | (with_reducible refine LeO.ite ?_ ?_)
      | (with_reducible refine LeO.bind ?_ (fun _ => ?_))
      | exact ih0 _ _ _
      | exact laws_heldInt64S.mono _ _ _
      | exact LeO.none _
      | refine LeO.ite ?_ ?_
      | refine LeO.bind ?_ (fun _ => ?_)
theorem laws_heldInt64SS.mono : ∀ a0 a1 k, LeO (laws_heldInt64SS.f k a0 a1) (laws_heldInt64SS.f (k + 1) a0 a1) := by
  intro a0 a1 k
  have ih0 := laws_heldInt64SS.mono_l k
  unfold laws_heldInt64SS.f
  repeat' first
      | (with_reducible exact ih0 _ _ _)
      | (with_reducible exact laws_heldInt64S.mono _ _ _)
      | (with_reducible exact LeO.refl _)
      | (with_reducible exact LeO.none _)
      | (with_reducible refine LeO.ite ?_ ?_)
      | (with_reducible refine LeO.bind ?_ (fun _ => ?_))
      | exact ih0 _ _ _
      | exact laws_heldInt64S.mono _ _ _
      | exact LeO.none _
      | refine LeO.ite ?_ ?_
      | refine LeO.bind ?_ (fun _ => ?_)
set_option maxHeartbeats 8000000 in
set_option maxRecDepth 100000 in
theorem laws_heldInt64SS.calls (k : Nat) (A0 : Option Addr) (c0 : Nat) (l0 : List (List Int)) (a1 : Int) (r : Int) (w : World) (hr0 : Kd.C (Kd.slice 2 (Kd.int .i64)) w A0 l0.length l0) (hc0 : l0.length ≤ c0) (h : laws_heldInt64SS.f k l0 a1 = some r) :
    Calls Try.prog 27 #[.slice A0 l0.length c0, .int .i64 a1] w fun e w' => e = .returned (.int .i64 r) ∧ Drawn0 w w' := by
  have HR0 := Aside0.mk hr0
  have HC0 := Aside0.mk hc0
  clear hr0 hc0
  have H : (laws_heldInt64SS.l0 k l0 a1 0) = some r := h
  clear h
  have H' := Aside0.mk H
  clear H
  go_enter Try.func27, Try.ntmps27
  go_wp2
  go_loopg [1, 5] k (fun kq v1 v5 w' => ∃ (x1_1 : Int) (x5_1 : Int), v1 = .int .i64 x1_1 ∧ v5 = .int .i64 x5_1 ∧ Aside0 (laws_heldInt64SS.l0 kq l0 x1_1 x5_1 = some r) ∧ Aside0 (kq ≤ k) ∧ Drawn0 w w')
  case atStart => exact ⟨(a1), (0), (by first | rfl | (simp; done) | (simp [*]; done)), (by first | rfl | (simp; done) | (simp [*]; done)), H', ⟨Nat.le_refl _⟩, by repeat (first | exact Drawn0.refl _ | apply Drawn0.step)⟩
  case round =>
    clear H'
    try clear c2
    try clear p2
    obtain ⟨x1_1, x5_1, rfl, rfl, HA, HK1, ⟨m1, rfl⟩⟩ := hrel
    cases gk with
    | zero => exact absurd HA.out (by simp [laws_heldInt64SS.l0])
    | succ k1 =>
      have H := HA.out
      clear HA
      simp only [laws_heldInt64SS.l0] at H
      by_cases c3 : x5_1 < (l0.length : Int)
      · rw [if_pos c3] at H
        have c3b0 : decide (x5_1 < (l0.length : Int)) = true := decide_eq_true c3
        clear c3
        by_cases c4 : 0 ≤ x5_1
        · rw [if_pos c4] at H
          have c4b0 : decide (0 ≤ x5_1) = true := decide_eq_true c4
          clear c4
          replace H := Option.bind_eq_some_iff.mp H
          obtain ⟨t290, A50, H⟩ := H
          replace H : (if t290 < 0 then (some (-1)) else (laws_heldInt64SS.l0 k1 l0 t290 (wrap64 (x5_1 + 1)))) = some r := H
          have A5 := Aside0.mk A50
          clear A50
          by_cases c6 : t290 < 0
          · rw [if_pos c6] at H
            have c6b0 : decide (t290 < 0) = true := decide_eq_true c6
            clear c6
            obtain rfl := Option.some.inj H
            have p289 : 0 ≤ (x5_1 : Int) := of_decide_eq_true (by first | (with_reducible assumption) | assumption)
            have q289 : x5_1 < (l0.length : Int) := of_decide_eq_true (by first | (with_reducible assumption) | assumption)
            obtain ⟨ad289, A289_0, c289_0, e289, hx289_0, hl289_0, hi289_0⟩ := at_L1 HR0.out x5_1 p289 q289
            cases e289
            have HR289_0 := Aside0.mk hi289_0
            have HC289_0 := Aside0.mk hl289_0
            clear hi289_0 hl289_0
            replace p289 := eq_true p289
            replace q289 := eq_true q289
            go_wp2_with (first | ((with_reducible refine gate_callee (f := 46) rfl ?_); refine goesL_ (some 17) rfl rfl Try.func46 (by kernel_rfl) rfl #[.slice A289_0 (rd_L1 l0 x5_1).length c289_0, .int .i64 x1_1] rfl (by (try simp only [List.map_toArray, List.map_cons, List.map_nil]); first | done | rfl | (simp only [List.length_drop, List.length_take]; rfl)) ?_; (with_reducible refine (laws_heldInt64S.calls k1 _ _ (rd_L1 l0 x5_1) x1_1 t290 _ ?side1 ?side2 A5.out).mono ?_); (case side1 => repeat (first | exact HR289_0.out | (with_reducible refine Kd.C_alloc ?_ _) | (with_reducible refine Kd.C_drewN ?_ _) | (with_reducible refine Kd.C_drew ?_))); (case side2 => exact HC289_0.out); rintro e w' ⟨rfl, ⟨nd, rfl⟩⟩; refine ⟨_, rfl, ?_⟩))
            go_ret
            exact ⟨by first | rfl | (simp; done) | (simp [*]; done), by repeat (first | exact Drawn0.refl _ | apply Drawn0.step)⟩
          · rw [if_neg c6] at H
            have c6b0 : decide (t290 < 0) = false := decide_eq_false c6
            clear c6
            have H' := Aside0.mk H
            clear H
            have p289 : 0 ≤ (x5_1 : Int) := of_decide_eq_true (by first | (with_reducible assumption) | assumption)
            have q289 : x5_1 < (l0.length : Int) := of_decide_eq_true (by first | (with_reducible assumption) | assumption)
            obtain ⟨ad289, A289_0, c289_0, e289, hx289_0, hl289_0, hi289_0⟩ := at_L1 HR0.out x5_1 p289 q289
            cases e289
            have HR289_0 := Aside0.mk hi289_0
            have HC289_0 := Aside0.mk hl289_0
            clear hi289_0 hl289_0
            replace p289 := eq_true p289
            replace q289 := eq_true q289
            go_wp2_with (first | ((with_reducible refine gate_callee (f := 46) rfl ?_); refine goesL_ (some 17) rfl rfl Try.func46 (by kernel_rfl) rfl #[.slice A289_0 (rd_L1 l0 x5_1).length c289_0, .int .i64 x1_1] rfl (by (try simp only [List.map_toArray, List.map_cons, List.map_nil]); first | done | rfl | (simp only [List.length_drop, List.length_take]; rfl)) ?_; (with_reducible refine (laws_heldInt64S.calls k1 _ _ (rd_L1 l0 x5_1) x1_1 t290 _ ?side1 ?side2 A5.out).mono ?_); (case side1 => repeat (first | exact HR289_0.out | (with_reducible refine Kd.C_alloc ?_ _) | (with_reducible refine Kd.C_drewN ?_ _) | (with_reducible refine Kd.C_drew ?_))); (case side2 => exact HC289_0.out); rintro e w' ⟨rfl, ⟨nd, rfl⟩⟩; refine ⟨_, rfl, ?_⟩))
            go_roundg k1
            case measure => have := HK1.out; omega
            case rel => exact ⟨(t290), (wrap64 (x5_1 + 1)), (by first | rfl | (simp; done) | (simp [*]; done)), (by first | rfl | (simp; done) | (simp [*]; done)), H', ⟨by have := HK1.out; omega⟩, by repeat (first | exact Drawn0.refl _ | apply Drawn0.step)⟩
        · rw [if_neg c4] at H
          exact absurd H (by simp)
      · rw [if_neg c3] at H
        have c3b0 : decide (x5_1 < (l0.length : Int)) = false := decide_eq_false c3
        clear c3
        obtain rfl := Option.some.inj H
        go_wp2
        go_ret
        exact ⟨by first | rfl | (simp; done) | (simp [*]; done), by repeat (first | exact Drawn0.refl _ | apply Drawn0.step)⟩

/-! ### laws_FnExactAdjacencyOf: function 4 -/
def laws_FnExactAdjacencyOf.f (k : Nat) (a0_0 : Int) (l0_1 : List (List Int)) : Option (Bool) := (laws_szGraph.f k a0_0 l0_1 1048576).bind fun t292 => (if t292 < 0 then (some true) else ((laws_toGraph.f k a0_0 l0_1).bind fun bt293 => ((spec_AdjacencyOf.f k bt293.1 bt293.2).bind fun bt297 => ((laws_toGraph.f k a0_0 l0_1).bind fun bt301 => ((impl_AdjacencyOf.f k bt301.1 bt301.2).bind fun bt306 => ((laws_eqInt64SS.f k bt306.1 bt297.1).bind fun t310 => (if t310 = true then (if bt306.2 = bt297.2 then ((laws_toGraph.f k a0_0 l0_1).bind fun bt311 => ((laws_eqGraph.f k bt301.1 bt301.2 bt311.1 bt311.2).bind fun t315 => (if t315 = true then ((laws_markGraph.f k bt301.1 bt301.2 1).bind fun bt316 => (if bt316.1 < 0 then (some false) else ((laws_eqInt64SS.f k bt306.1 bt297.1).bind fun t318 => (if t318 = true then ((laws_markInt64SS.f k bt306.1 1).bind fun bt319 => ((laws_heldInt64SS.f k bt319.2 1).bind fun t321 => (if t321 < 0 then (some false) else (if t321 = bt319.1 then ((laws_toGraph.f k a0_0 l0_1).bind fun bt322 => ((impl_AdjacencyOf.f k bt322.1 bt322.2).bind fun bt326 => ((laws_eqInt64SS.f k bt326.1 bt297.1).bind fun t330 => (if t330 = true then (if bt326.2 = bt297.2 then ((laws_heldInt64SS.f k bt319.2 1).bind fun t331 => (if t331 < 0 then (some false) else (if t331 = bt319.1 then (some true) else (some false)))) else (some false)) else (some false))))) else (some false))))) else (some false))))) else (some false)))) else (some false)) else (some false))))))))
theorem laws_FnExactAdjacencyOf.mono : ∀ a0 a1 k, LeO (laws_FnExactAdjacencyOf.f k a0 a1) (laws_FnExactAdjacencyOf.f (k + 1) a0 a1) := by
  intro a0 a1 k
  unfold laws_FnExactAdjacencyOf.f
  repeat' first
      | (with_reducible exact impl_AdjacencyOf.mono _ _ _)
      | (with_reducible exact laws_eqGraph.mono _ _ _ _ _)
      | (with_reducible exact laws_eqInt64SS.mono _ _ _)
      | (with_reducible exact laws_heldInt64SS.mono _ _ _)
      | (with_reducible exact laws_markGraph.mono _ _ _ _)
      | (with_reducible exact laws_markInt64SS.mono _ _ _)
      | (with_reducible exact laws_szGraph.mono _ _ _ _)
      | (with_reducible exact laws_toGraph.mono _ _ _)
      | (with_reducible exact spec_AdjacencyOf.mono _ _ _)
      | (with_reducible exact LeO.refl _)
      | (with_reducible exact LeO.none _)
      | (with_reducible refine LeO.ite ?_ ?_)
      | (with_reducible refine LeO.bind ?_ (fun _ => ?_))
      | exact impl_AdjacencyOf.mono _ _ _
      | exact laws_eqGraph.mono _ _ _ _ _
      | exact laws_eqInt64SS.mono _ _ _
      | exact laws_heldInt64SS.mono _ _ _
      | exact laws_markGraph.mono _ _ _ _
      | exact laws_markInt64SS.mono _ _ _
      | exact laws_szGraph.mono _ _ _ _
      | exact laws_toGraph.mono _ _ _
      | exact spec_AdjacencyOf.mono _ _ _
      | exact LeO.none _
      | refine LeO.ite ?_ ?_
      | refine LeO.bind ?_ (fun _ => ?_)
set_option maxHeartbeats 8000000 in
set_option maxRecDepth 100000 in
theorem laws_FnExactAdjacencyOf.calls (k : Nat) (a0_0 : Int) (A0_1 : Option Addr) (c0_1 : Nat) (l0_1 : List (List Int)) (w : World) (hr0_1 : Kd.C (Kd.slice 2 (Kd.int .i64)) w A0_1 l0_1.length l0_1) (hc0_1 : l0_1.length ≤ c0_1) (h : laws_FnExactAdjacencyOf.f k a0_0 l0_1 = some true) :
    Calls Try.prog 4 #[.agg #[.int .i64 a0_0, .slice A0_1 l0_1.length c0_1]] w fun e w' => e = .returned (.bool true) ∧ Below w.heap.size w w' := by
  have hu24 := Try.underlying24
  have hu29 := Try.underlying29
  have HR0_1 := Aside0.mk hr0_1
  have HC0_1 := Aside0.mk hc0_1
  clear hr0_1 hc0_1
  have HB := Aside0.mk (Below.refl w.heap.size w)
  have H : ((laws_szGraph.f k a0_0 l0_1 1048576).bind fun t292 => (if t292 < 0 then (some true) else ((laws_toGraph.f k a0_0 l0_1).bind fun bt293 => ((spec_AdjacencyOf.f k bt293.1 bt293.2).bind fun bt297 => ((laws_toGraph.f k a0_0 l0_1).bind fun bt301 => ((impl_AdjacencyOf.f k bt301.1 bt301.2).bind fun bt306 => ((laws_eqInt64SS.f k bt306.1 bt297.1).bind fun t310 => (if t310 = true then (if bt306.2 = bt297.2 then ((laws_toGraph.f k a0_0 l0_1).bind fun bt311 => ((laws_eqGraph.f k bt301.1 bt301.2 bt311.1 bt311.2).bind fun t315 => (if t315 = true then ((laws_markGraph.f k bt301.1 bt301.2 1).bind fun bt316 => (if bt316.1 < 0 then (some false) else ((laws_eqInt64SS.f k bt306.1 bt297.1).bind fun t318 => (if t318 = true then ((laws_markInt64SS.f k bt306.1 1).bind fun bt319 => ((laws_heldInt64SS.f k bt319.2 1).bind fun t321 => (if t321 < 0 then (some false) else (if t321 = bt319.1 then ((laws_toGraph.f k a0_0 l0_1).bind fun bt322 => ((impl_AdjacencyOf.f k bt322.1 bt322.2).bind fun bt326 => ((laws_eqInt64SS.f k bt326.1 bt297.1).bind fun t330 => (if t330 = true then (if bt326.2 = bt297.2 then ((laws_heldInt64SS.f k bt319.2 1).bind fun t331 => (if t331 < 0 then (some false) else (if t331 = bt319.1 then (some true) else (some false)))) else (some false)) else (some false))))) else (some false))))) else (some false))))) else (some false)))) else (some false)) else (some false))))))))) = some true := h
  clear h
  replace H := Option.bind_eq_some_iff.mp H
  obtain ⟨t292, A20, H⟩ := H
  replace H : (if t292 < 0 then (some true) else ((laws_toGraph.f k a0_0 l0_1).bind fun bt293 => ((spec_AdjacencyOf.f k bt293.1 bt293.2).bind fun bt297 => ((laws_toGraph.f k a0_0 l0_1).bind fun bt301 => ((impl_AdjacencyOf.f k bt301.1 bt301.2).bind fun bt306 => ((laws_eqInt64SS.f k bt306.1 bt297.1).bind fun t310 => (if t310 = true then (if bt306.2 = bt297.2 then ((laws_toGraph.f k a0_0 l0_1).bind fun bt311 => ((laws_eqGraph.f k bt301.1 bt301.2 bt311.1 bt311.2).bind fun t315 => (if t315 = true then ((laws_markGraph.f k bt301.1 bt301.2 1).bind fun bt316 => (if bt316.1 < 0 then (some false) else ((laws_eqInt64SS.f k bt306.1 bt297.1).bind fun t318 => (if t318 = true then ((laws_markInt64SS.f k bt306.1 1).bind fun bt319 => ((laws_heldInt64SS.f k bt319.2 1).bind fun t321 => (if t321 < 0 then (some false) else (if t321 = bt319.1 then ((laws_toGraph.f k a0_0 l0_1).bind fun bt322 => ((impl_AdjacencyOf.f k bt322.1 bt322.2).bind fun bt326 => ((laws_eqInt64SS.f k bt326.1 bt297.1).bind fun t330 => (if t330 = true then (if bt326.2 = bt297.2 then ((laws_heldInt64SS.f k bt319.2 1).bind fun t331 => (if t331 < 0 then (some false) else (if t331 = bt319.1 then (some true) else (some false)))) else (some false)) else (some false))))) else (some false))))) else (some false))))) else (some false)))) else (some false)) else (some false)))))))) = some true := H
  have A2 := Aside0.mk A20
  clear A20
  by_cases c3 : t292 < 0
  · rw [if_pos c3] at H
    have c3b0 : decide (t292 < 0) = true := decide_eq_true c3
    clear c3
    try clear H
    go_enter Try.func4, Try.ntmps4
    go_wp2_with (first | ((with_reducible refine gate_dst (N := 1) rfl ?_); refine box_event ?hg (N := 1) ?hd (cs := #[.int .i64 a0_0, .slice A0_1 l0_1.length c0_1]) (t := 24) ?hr ?_; (case hd => rfl); (case hg => rfl); (case hr => first | (go_simp; done) | (go_simp; rfl)); intro gb291 hg w4 hbox hb; have n0_ := Aside0.mk (hb.size); have n1_ := Aside0.mk ((⟨Nat.le_of_eq hg.symm, blk_lt hbox⟩ : w.heap.size ≤ gb291 ∧ gb291 < w4.heap.size)); have n2_ := Aside0.mk (below_step (by repeat (first | (with_reducible first | exact HB.out | apply below_alloc | apply pw_below_drewN | apply below_drew1) | exact HB.out)) hb); have n3_ := Aside0.mk (hbox); have n4_ := Aside0.mk ((by rw [hg]; exact (below_size (by repeat (first | (with_reducible first | exact HB.out | apply below_alloc | apply pw_below_drewN | apply below_drew1) | exact HB.out))) : w.heap.size ≤ gb291)); have n5_ := Aside0.mk ((by rw [hg]; exact (below_size (by repeat (first | (with_reducible first | exact HB.out | apply below_alloc | apply pw_below_drewN | apply below_drew1) | exact HB.out))) : w.heap.size ≤ gb291)); clear HB; have Zw4 := n0_; have ZB291 := n1_; have HB := n2_; have BK291 := n3_; have GW291 := n4_; have GE291 := n5_; clear n0_ n1_ n2_ n3_ n4_ n5_; clear hb hbox hg; have hcz5_0 : w4.cell? ⟨gb291, 0, none⟩ = some (.int .i64 a0_0) := (blk_cell BK291.out 0).trans rfl; have hcz5_1 : w4.cell? ⟨gb291, 1, none⟩ = some (.slice A0_1 l0_1.length c0_1) := (blk_cell BK291.out 1).trans rfl; have hfz5_0 := blk_frozen BK291.out 0; have hfz5_1 := blk_frozen BK291.out 1) | ((with_reducible refine gate_callee (f := 15) rfl ?_); refine goesL_ (some 16) rfl rfl Try.func15 (by kernel_rfl) rfl #[.agg #[.int .i64 a0_0, .slice A0_1 l0_1.length c0_1], .int .i64 1048576] rfl (by (try simp only [List.map_toArray, List.map_cons, List.map_nil]); first | done | rfl) ?_; (with_reducible refine (laws_szGraph.calls k a0_0 _ _ l0_1 1048576 t292 _ ?side1 ?side2 A2.out).mono ?_); (case side1 => exact (Kd.C_below HR0_1.out HB.out)); (case side2 => exact HC0_1.out); rintro e w6 ⟨rfl, hb⟩; refine ⟨_, rfl, ?_⟩; have n0_ := Aside0.mk (blk_below (g := gb291) (o := .cells #[.int .i64 a0_0, .slice A0_1 l0_1.length c0_1] 24 (0, 0)) (by (with_reducible repeat (first | refine blk_drewN ?_ _ | refine blk_drew ?_ | refine blk_alloc ?_ _)); exact BK291.out) hb); have n1_ := Aside0.mk (below_step HB.out hb); have n2_ := Aside0.mk (hb.size); clear BK291; clear HB; have BK291 := n0_; have HB := n1_; have Zw6 := n2_; clear n0_ n1_ n2_; (try clear hb); (try clear hkp); (try clear hd_)))
    go_ret
    exact ⟨by first | rfl | (simp [errW_none, errW_some] <;> rfl) | (simp [*, errW_none, errW_some] <;> rfl), by repeat (first | (with_reducible first | exact HB.out | apply below_alloc | apply pw_below_drewN | apply below_drew1 | refine below_set ?_ GE291.out) | exact HB.out)⟩
  · rw [if_neg c3] at H
    have c3b0 : decide (t292 < 0) = false := decide_eq_false c3
    clear c3
    replace H := Option.bind_eq_some_iff.mp H
    obtain ⟨⟨t293, t294⟩, A70, H⟩ := H
    replace H : ((spec_AdjacencyOf.f k t293 t294).bind fun bt297 => ((laws_toGraph.f k a0_0 l0_1).bind fun bt301 => ((impl_AdjacencyOf.f k bt301.1 bt301.2).bind fun bt306 => ((laws_eqInt64SS.f k bt306.1 bt297.1).bind fun t310 => (if t310 = true then (if bt306.2 = bt297.2 then ((laws_toGraph.f k a0_0 l0_1).bind fun bt311 => ((laws_eqGraph.f k bt301.1 bt301.2 bt311.1 bt311.2).bind fun t315 => (if t315 = true then ((laws_markGraph.f k bt301.1 bt301.2 1).bind fun bt316 => (if bt316.1 < 0 then (some false) else ((laws_eqInt64SS.f k bt306.1 bt297.1).bind fun t318 => (if t318 = true then ((laws_markInt64SS.f k bt306.1 1).bind fun bt319 => ((laws_heldInt64SS.f k bt319.2 1).bind fun t321 => (if t321 < 0 then (some false) else (if t321 = bt319.1 then ((laws_toGraph.f k a0_0 l0_1).bind fun bt322 => ((impl_AdjacencyOf.f k bt322.1 bt322.2).bind fun bt326 => ((laws_eqInt64SS.f k bt326.1 bt297.1).bind fun t330 => (if t330 = true then (if bt326.2 = bt297.2 then ((laws_heldInt64SS.f k bt319.2 1).bind fun t331 => (if t331 < 0 then (some false) else (if t331 = bt319.1 then (some true) else (some false)))) else (some false)) else (some false))))) else (some false))))) else (some false))))) else (some false)))) else (some false)) else (some false)))))) = some true := H
    have A7 := Aside0.mk A70
    clear A70
    replace H := Option.bind_eq_some_iff.mp H
    obtain ⟨⟨t297, t300⟩, A80, H⟩ := H
    replace H : ((laws_toGraph.f k a0_0 l0_1).bind fun bt301 => ((impl_AdjacencyOf.f k bt301.1 bt301.2).bind fun bt306 => ((laws_eqInt64SS.f k bt306.1 t297).bind fun t310 => (if t310 = true then (if bt306.2 = t300 then ((laws_toGraph.f k a0_0 l0_1).bind fun bt311 => ((laws_eqGraph.f k bt301.1 bt301.2 bt311.1 bt311.2).bind fun t315 => (if t315 = true then ((laws_markGraph.f k bt301.1 bt301.2 1).bind fun bt316 => (if bt316.1 < 0 then (some false) else ((laws_eqInt64SS.f k bt306.1 t297).bind fun t318 => (if t318 = true then ((laws_markInt64SS.f k bt306.1 1).bind fun bt319 => ((laws_heldInt64SS.f k bt319.2 1).bind fun t321 => (if t321 < 0 then (some false) else (if t321 = bt319.1 then ((laws_toGraph.f k a0_0 l0_1).bind fun bt322 => ((impl_AdjacencyOf.f k bt322.1 bt322.2).bind fun bt326 => ((laws_eqInt64SS.f k bt326.1 t297).bind fun t330 => (if t330 = true then (if bt326.2 = t300 then ((laws_heldInt64SS.f k bt319.2 1).bind fun t331 => (if t331 < 0 then (some false) else (if t331 = bt319.1 then (some true) else (some false)))) else (some false)) else (some false))))) else (some false))))) else (some false))))) else (some false)))) else (some false)) else (some false))))) = some true := H
    have A8 := Aside0.mk A80
    clear A80
    replace H := Option.bind_eq_some_iff.mp H
    obtain ⟨⟨t301, t302⟩, A90, H⟩ := H
    replace H : ((impl_AdjacencyOf.f k t301 t302).bind fun bt306 => ((laws_eqInt64SS.f k bt306.1 t297).bind fun t310 => (if t310 = true then (if bt306.2 = t300 then ((laws_toGraph.f k a0_0 l0_1).bind fun bt311 => ((laws_eqGraph.f k t301 t302 bt311.1 bt311.2).bind fun t315 => (if t315 = true then ((laws_markGraph.f k t301 t302 1).bind fun bt316 => (if bt316.1 < 0 then (some false) else ((laws_eqInt64SS.f k bt306.1 t297).bind fun t318 => (if t318 = true then ((laws_markInt64SS.f k bt306.1 1).bind fun bt319 => ((laws_heldInt64SS.f k bt319.2 1).bind fun t321 => (if t321 < 0 then (some false) else (if t321 = bt319.1 then ((laws_toGraph.f k a0_0 l0_1).bind fun bt322 => ((impl_AdjacencyOf.f k bt322.1 bt322.2).bind fun bt326 => ((laws_eqInt64SS.f k bt326.1 t297).bind fun t330 => (if t330 = true then (if bt326.2 = t300 then ((laws_heldInt64SS.f k bt319.2 1).bind fun t331 => (if t331 < 0 then (some false) else (if t331 = bt319.1 then (some true) else (some false)))) else (some false)) else (some false))))) else (some false))))) else (some false))))) else (some false)))) else (some false)) else (some false)))) = some true := H
    have A9 := Aside0.mk A90
    clear A90
    replace H := Option.bind_eq_some_iff.mp H
    obtain ⟨⟨t306, t309⟩, A100, H⟩ := H
    replace H : ((laws_eqInt64SS.f k t306 t297).bind fun t310 => (if t310 = true then (if t309 = t300 then ((laws_toGraph.f k a0_0 l0_1).bind fun bt311 => ((laws_eqGraph.f k t301 t302 bt311.1 bt311.2).bind fun t315 => (if t315 = true then ((laws_markGraph.f k t301 t302 1).bind fun bt316 => (if bt316.1 < 0 then (some false) else ((laws_eqInt64SS.f k t306 t297).bind fun t318 => (if t318 = true then ((laws_markInt64SS.f k t306 1).bind fun bt319 => ((laws_heldInt64SS.f k bt319.2 1).bind fun t321 => (if t321 < 0 then (some false) else (if t321 = bt319.1 then ((laws_toGraph.f k a0_0 l0_1).bind fun bt322 => ((impl_AdjacencyOf.f k bt322.1 bt322.2).bind fun bt326 => ((laws_eqInt64SS.f k bt326.1 t297).bind fun t330 => (if t330 = true then (if bt326.2 = t300 then ((laws_heldInt64SS.f k bt319.2 1).bind fun t331 => (if t331 < 0 then (some false) else (if t331 = bt319.1 then (some true) else (some false)))) else (some false)) else (some false))))) else (some false))))) else (some false))))) else (some false)))) else (some false)) else (some false))) = some true := H
    have A10 := Aside0.mk A100
    clear A100
    replace H := Option.bind_eq_some_iff.mp H
    obtain ⟨t310, A110, H⟩ := H
    replace H : (if t310 = true then (if t309 = t300 then ((laws_toGraph.f k a0_0 l0_1).bind fun bt311 => ((laws_eqGraph.f k t301 t302 bt311.1 bt311.2).bind fun t315 => (if t315 = true then ((laws_markGraph.f k t301 t302 1).bind fun bt316 => (if bt316.1 < 0 then (some false) else ((laws_eqInt64SS.f k t306 t297).bind fun t318 => (if t318 = true then ((laws_markInt64SS.f k t306 1).bind fun bt319 => ((laws_heldInt64SS.f k bt319.2 1).bind fun t321 => (if t321 < 0 then (some false) else (if t321 = bt319.1 then ((laws_toGraph.f k a0_0 l0_1).bind fun bt322 => ((impl_AdjacencyOf.f k bt322.1 bt322.2).bind fun bt326 => ((laws_eqInt64SS.f k bt326.1 t297).bind fun t330 => (if t330 = true then (if bt326.2 = t300 then ((laws_heldInt64SS.f k bt319.2 1).bind fun t331 => (if t331 < 0 then (some false) else (if t331 = bt319.1 then (some true) else (some false)))) else (some false)) else (some false))))) else (some false))))) else (some false))))) else (some false)))) else (some false)) else (some false)) = some true := H
    have A11 := Aside0.mk A110
    clear A110
    by_cases c12 : t310 = true
    · subst c12
      have H1 : (if t309 = t300 then ((laws_toGraph.f k a0_0 l0_1).bind fun bt311 => ((laws_eqGraph.f k t301 t302 bt311.1 bt311.2).bind fun t315 => (if t315 = true then ((laws_markGraph.f k t301 t302 1).bind fun bt316 => (if bt316.1 < 0 then (some false) else ((laws_eqInt64SS.f k t306 t297).bind fun t318 => (if t318 = true then ((laws_markInt64SS.f k t306 1).bind fun bt319 => ((laws_heldInt64SS.f k bt319.2 1).bind fun t321 => (if t321 < 0 then (some false) else (if t321 = bt319.1 then ((laws_toGraph.f k a0_0 l0_1).bind fun bt322 => ((impl_AdjacencyOf.f k bt322.1 bt322.2).bind fun bt326 => ((laws_eqInt64SS.f k bt326.1 t297).bind fun t330 => (if t330 = true then (if bt326.2 = t300 then ((laws_heldInt64SS.f k bt319.2 1).bind fun t331 => (if t331 < 0 then (some false) else (if t331 = bt319.1 then (some true) else (some false)))) else (some false)) else (some false))))) else (some false))))) else (some false))))) else (some false)))) else (some false)) = some true := by rw [if_pos rfl] at H; exact H
      clear H
      have H := H1
      clear H1
      by_cases c13 : t309 = t300
      · rw [if_pos c13] at H
        have c13b0 : (t309 == t300) = true := beq_iff_eq.mpr c13
        have c13b1 : (t309 != t300) = false := bne_eq_false_iff_eq.mpr c13
        clear c13
        replace H := Option.bind_eq_some_iff.mp H
        obtain ⟨⟨t311, t312⟩, A140, H⟩ := H
        replace H : ((laws_eqGraph.f k t301 t302 t311 t312).bind fun t315 => (if t315 = true then ((laws_markGraph.f k t301 t302 1).bind fun bt316 => (if bt316.1 < 0 then (some false) else ((laws_eqInt64SS.f k t306 t297).bind fun t318 => (if t318 = true then ((laws_markInt64SS.f k t306 1).bind fun bt319 => ((laws_heldInt64SS.f k bt319.2 1).bind fun t321 => (if t321 < 0 then (some false) else (if t321 = bt319.1 then ((laws_toGraph.f k a0_0 l0_1).bind fun bt322 => ((impl_AdjacencyOf.f k bt322.1 bt322.2).bind fun bt326 => ((laws_eqInt64SS.f k bt326.1 t297).bind fun t330 => (if t330 = true then (if bt326.2 = t300 then ((laws_heldInt64SS.f k bt319.2 1).bind fun t331 => (if t331 < 0 then (some false) else (if t331 = bt319.1 then (some true) else (some false)))) else (some false)) else (some false))))) else (some false))))) else (some false))))) else (some false))) = some true := H
        have A14 := Aside0.mk A140
        clear A140
        replace H := Option.bind_eq_some_iff.mp H
        obtain ⟨t315, A150, H⟩ := H
        replace H : (if t315 = true then ((laws_markGraph.f k t301 t302 1).bind fun bt316 => (if bt316.1 < 0 then (some false) else ((laws_eqInt64SS.f k t306 t297).bind fun t318 => (if t318 = true then ((laws_markInt64SS.f k t306 1).bind fun bt319 => ((laws_heldInt64SS.f k bt319.2 1).bind fun t321 => (if t321 < 0 then (some false) else (if t321 = bt319.1 then ((laws_toGraph.f k a0_0 l0_1).bind fun bt322 => ((impl_AdjacencyOf.f k bt322.1 bt322.2).bind fun bt326 => ((laws_eqInt64SS.f k bt326.1 t297).bind fun t330 => (if t330 = true then (if bt326.2 = t300 then ((laws_heldInt64SS.f k bt319.2 1).bind fun t331 => (if t331 < 0 then (some false) else (if t331 = bt319.1 then (some true) else (some false)))) else (some false)) else (some false))))) else (some false))))) else (some false))))) else (some false)) = some true := H
        have A15 := Aside0.mk A150
        clear A150
        by_cases c16 : t315 = true
        · subst c16
          have H1 : ((laws_markGraph.f k t301 t302 1).bind fun bt316 => (if bt316.1 < 0 then (some false) else ((laws_eqInt64SS.f k t306 t297).bind fun t318 => (if t318 = true then ((laws_markInt64SS.f k t306 1).bind fun bt319 => ((laws_heldInt64SS.f k bt319.2 1).bind fun t321 => (if t321 < 0 then (some false) else (if t321 = bt319.1 then ((laws_toGraph.f k a0_0 l0_1).bind fun bt322 => ((impl_AdjacencyOf.f k bt322.1 bt322.2).bind fun bt326 => ((laws_eqInt64SS.f k bt326.1 t297).bind fun t330 => (if t330 = true then (if bt326.2 = t300 then ((laws_heldInt64SS.f k bt319.2 1).bind fun t331 => (if t331 < 0 then (some false) else (if t331 = bt319.1 then (some true) else (some false)))) else (some false)) else (some false))))) else (some false))))) else (some false))))) = some true := by rw [if_pos rfl] at H; exact H
          clear H
          have H := H1
          clear H1
          replace H := Option.bind_eq_some_iff.mp H
          obtain ⟨⟨t316, t317⟩, A170, H⟩ := H
          replace H : (if t316 < 0 then (some false) else ((laws_eqInt64SS.f k t306 t297).bind fun t318 => (if t318 = true then ((laws_markInt64SS.f k t306 1).bind fun bt319 => ((laws_heldInt64SS.f k bt319.2 1).bind fun t321 => (if t321 < 0 then (some false) else (if t321 = bt319.1 then ((laws_toGraph.f k a0_0 l0_1).bind fun bt322 => ((impl_AdjacencyOf.f k bt322.1 bt322.2).bind fun bt326 => ((laws_eqInt64SS.f k bt326.1 t297).bind fun t330 => (if t330 = true then (if bt326.2 = t300 then ((laws_heldInt64SS.f k bt319.2 1).bind fun t331 => (if t331 < 0 then (some false) else (if t331 = bt319.1 then (some true) else (some false)))) else (some false)) else (some false))))) else (some false))))) else (some false)))) = some true := H
          have A17 := Aside0.mk A170
          clear A170
          by_cases c18 : t316 < 0
          · rw [if_pos c18] at H
            have c18b0 : decide (t316 < 0) = true := decide_eq_true c18
            clear c18
            exact absurd H (by simp)
          · rw [if_neg c18] at H
            have c18b0 : decide (t316 < 0) = false := decide_eq_false c18
            clear c18
            replace H := Option.bind_eq_some_iff.mp H
            obtain ⟨t318, A190, H⟩ := H
            replace H : (if t318 = true then ((laws_markInt64SS.f k t306 1).bind fun bt319 => ((laws_heldInt64SS.f k bt319.2 1).bind fun t321 => (if t321 < 0 then (some false) else (if t321 = bt319.1 then ((laws_toGraph.f k a0_0 l0_1).bind fun bt322 => ((impl_AdjacencyOf.f k bt322.1 bt322.2).bind fun bt326 => ((laws_eqInt64SS.f k bt326.1 t297).bind fun t330 => (if t330 = true then (if bt326.2 = t300 then ((laws_heldInt64SS.f k bt319.2 1).bind fun t331 => (if t331 < 0 then (some false) else (if t331 = bt319.1 then (some true) else (some false)))) else (some false)) else (some false))))) else (some false))))) else (some false)) = some true := H
            have A19 := Aside0.mk A190
            clear A190
            by_cases c20 : t318 = true
            · subst c20
              have H1 : ((laws_markInt64SS.f k t306 1).bind fun bt319 => ((laws_heldInt64SS.f k bt319.2 1).bind fun t321 => (if t321 < 0 then (some false) else (if t321 = bt319.1 then ((laws_toGraph.f k a0_0 l0_1).bind fun bt322 => ((impl_AdjacencyOf.f k bt322.1 bt322.2).bind fun bt326 => ((laws_eqInt64SS.f k bt326.1 t297).bind fun t330 => (if t330 = true then (if bt326.2 = t300 then ((laws_heldInt64SS.f k bt319.2 1).bind fun t331 => (if t331 < 0 then (some false) else (if t331 = bt319.1 then (some true) else (some false)))) else (some false)) else (some false))))) else (some false))))) = some true := by rw [if_pos rfl] at H; exact H
              clear H
              have H := H1
              clear H1
              replace H := Option.bind_eq_some_iff.mp H
              obtain ⟨⟨t319, t320⟩, A210, H⟩ := H
              replace H : ((laws_heldInt64SS.f k t320 1).bind fun t321 => (if t321 < 0 then (some false) else (if t321 = t319 then ((laws_toGraph.f k a0_0 l0_1).bind fun bt322 => ((impl_AdjacencyOf.f k bt322.1 bt322.2).bind fun bt326 => ((laws_eqInt64SS.f k bt326.1 t297).bind fun t330 => (if t330 = true then (if bt326.2 = t300 then ((laws_heldInt64SS.f k t320 1).bind fun t331 => (if t331 < 0 then (some false) else (if t331 = t319 then (some true) else (some false)))) else (some false)) else (some false))))) else (some false)))) = some true := H
              have A21 := Aside0.mk A210
              clear A210
              replace H := Option.bind_eq_some_iff.mp H
              obtain ⟨t321, A220, H⟩ := H
              replace H : (if t321 < 0 then (some false) else (if t321 = t319 then ((laws_toGraph.f k a0_0 l0_1).bind fun bt322 => ((impl_AdjacencyOf.f k bt322.1 bt322.2).bind fun bt326 => ((laws_eqInt64SS.f k bt326.1 t297).bind fun t330 => (if t330 = true then (if bt326.2 = t300 then ((laws_heldInt64SS.f k t320 1).bind fun t331 => (if t331 < 0 then (some false) else (if t331 = t319 then (some true) else (some false)))) else (some false)) else (some false))))) else (some false))) = some true := H
              have A22 := Aside0.mk A220
              clear A220
              by_cases c23 : t321 < 0
              · rw [if_pos c23] at H
                have c23b0 : decide (t321 < 0) = true := decide_eq_true c23
                clear c23
                exact absurd H (by simp)
              · rw [if_neg c23] at H
                have c23b0 : decide (t321 < 0) = false := decide_eq_false c23
                clear c23
                by_cases c24 : t321 = t319
                · rw [if_pos c24] at H
                  have c24b0 : (t321 == t319) = true := beq_iff_eq.mpr c24
                  have c24b1 : (t321 != t319) = false := bne_eq_false_iff_eq.mpr c24
                  clear c24
                  replace H := Option.bind_eq_some_iff.mp H
                  obtain ⟨⟨t322, t323⟩, A250, H⟩ := H
                  replace H : ((impl_AdjacencyOf.f k t322 t323).bind fun bt326 => ((laws_eqInt64SS.f k bt326.1 t297).bind fun t330 => (if t330 = true then (if bt326.2 = t300 then ((laws_heldInt64SS.f k t320 1).bind fun t331 => (if t331 < 0 then (some false) else (if t331 = t319 then (some true) else (some false)))) else (some false)) else (some false)))) = some true := H
                  have A25 := Aside0.mk A250
                  clear A250
                  replace H := Option.bind_eq_some_iff.mp H
                  obtain ⟨⟨t326, t329⟩, A260, H⟩ := H
                  replace H : ((laws_eqInt64SS.f k t326 t297).bind fun t330 => (if t330 = true then (if t329 = t300 then ((laws_heldInt64SS.f k t320 1).bind fun t331 => (if t331 < 0 then (some false) else (if t331 = t319 then (some true) else (some false)))) else (some false)) else (some false))) = some true := H
                  have A26 := Aside0.mk A260
                  clear A260
                  replace H := Option.bind_eq_some_iff.mp H
                  obtain ⟨t330, A270, H⟩ := H
                  replace H : (if t330 = true then (if t329 = t300 then ((laws_heldInt64SS.f k t320 1).bind fun t331 => (if t331 < 0 then (some false) else (if t331 = t319 then (some true) else (some false)))) else (some false)) else (some false)) = some true := H
                  have A27 := Aside0.mk A270
                  clear A270
                  by_cases c28 : t330 = true
                  · subst c28
                    have H1 : (if t329 = t300 then ((laws_heldInt64SS.f k t320 1).bind fun t331 => (if t331 < 0 then (some false) else (if t331 = t319 then (some true) else (some false)))) else (some false)) = some true := by rw [if_pos rfl] at H; exact H
                    clear H
                    have H := H1
                    clear H1
                    by_cases c29 : t329 = t300
                    · rw [if_pos c29] at H
                      have c29b0 : (t329 == t300) = true := beq_iff_eq.mpr c29
                      have c29b1 : (t329 != t300) = false := bne_eq_false_iff_eq.mpr c29
                      clear c29
                      replace H := Option.bind_eq_some_iff.mp H
                      obtain ⟨t331, A300, H⟩ := H
                      replace H : (if t331 < 0 then (some false) else (if t331 = t319 then (some true) else (some false))) = some true := H
                      have A30 := Aside0.mk A300
                      clear A300
                      by_cases c31 : t331 < 0
                      · rw [if_pos c31] at H
                        have c31b0 : decide (t331 < 0) = true := decide_eq_true c31
                        clear c31
                        exact absurd H (by simp)
                      · rw [if_neg c31] at H
                        have c31b0 : decide (t331 < 0) = false := decide_eq_false c31
                        clear c31
                        by_cases c32 : t331 = t319
                        · rw [if_pos c32] at H
                          have c32b0 : (t331 == t319) = true := beq_iff_eq.mpr c32
                          have c32b1 : (t331 != t319) = false := bne_eq_false_iff_eq.mpr c32
                          clear c32
                          try clear H
                          go_enter Try.func4, Try.ntmps4
                          try go_wp2_with (first | ((with_reducible refine gate_dst (N := 1) rfl ?_); refine box_event ?hg (N := 1) ?hd (cs := #[.int .i64 a0_0, .slice A0_1 l0_1.length c0_1]) (t := 24) ?hr ?_; (case hd => rfl); (case hg => rfl); (case hr => first | (go_simp; done) | (go_simp; rfl)); intro gb291 hg w33 hbox hb; have n0_ := Aside0.mk (hb.size); have n1_ := Aside0.mk ((⟨Nat.le_of_eq hg.symm, blk_lt hbox⟩ : w.heap.size ≤ gb291 ∧ gb291 < w33.heap.size)); have n2_ := Aside0.mk (below_step (by repeat (first | (with_reducible first | exact HB.out | apply below_alloc | apply pw_below_drewN | apply below_drew1) | exact HB.out)) hb); have n3_ := Aside0.mk (hbox); have n4_ := Aside0.mk ((by rw [hg]; exact (below_size (by repeat (first | (with_reducible first | exact HB.out | apply below_alloc | apply pw_below_drewN | apply below_drew1) | exact HB.out))) : w.heap.size ≤ gb291)); have n5_ := Aside0.mk ((by rw [hg]; exact (below_size (by repeat (first | (with_reducible first | exact HB.out | apply below_alloc | apply pw_below_drewN | apply below_drew1) | exact HB.out))) : w.heap.size ≤ gb291)); clear HB; have Zw33 := n0_; have ZB291 := n1_; have HB := n2_; have BK291 := n3_; have GW291 := n4_; have GE291 := n5_; clear n0_ n1_ n2_ n3_ n4_ n5_; clear hb hbox hg; have hcz34_0 : w33.cell? ⟨gb291, 0, none⟩ = some (.int .i64 a0_0) := (blk_cell BK291.out 0).trans rfl; have hcz34_1 : w33.cell? ⟨gb291, 1, none⟩ = some (.slice A0_1 l0_1.length c0_1) := (blk_cell BK291.out 1).trans rfl; have hfz34_0 := blk_frozen BK291.out 0; have hfz34_1 := blk_frozen BK291.out 1) | ((with_reducible refine gate_callee (f := 15) rfl ?_); refine goesL_ (some 16) rfl rfl Try.func15 (by kernel_rfl) rfl #[.agg #[.int .i64 a0_0, .slice A0_1 l0_1.length c0_1], .int .i64 1048576] rfl (by (try simp only [List.map_toArray, List.map_cons, List.map_nil]); first | done | rfl) ?_; (with_reducible refine (laws_szGraph.calls k a0_0 _ _ l0_1 1048576 t292 _ ?side1 ?side2 A2.out).mono ?_); (case side1 => exact (Kd.C_below HR0_1.out HB.out)); (case side2 => exact HC0_1.out); rintro e w35 ⟨rfl, hb⟩; refine ⟨_, rfl, ?_⟩; have n0_ := Aside0.mk (blk_below (g := gb291) (o := .cells #[.int .i64 a0_0, .slice A0_1 l0_1.length c0_1] 24 (0, 0)) (by (with_reducible repeat (first | refine blk_drewN ?_ _ | refine blk_drew ?_ | refine blk_alloc ?_ _)); exact BK291.out) hb); have n1_ := Aside0.mk (below_step HB.out hb); have n2_ := Aside0.mk (hb.size); clear BK291; clear HB; have BK291 := n0_; have HB := n1_; have Zw35 := n2_; clear n0_ n1_ n2_; (try clear hb); (try clear hkp); (try clear hd_); have hcz36_0 : w35.cell? ⟨gb291, 0, none⟩ = some (.int .i64 a0_0) := (blk_cell BK291.out 0).trans rfl; have hcz36_1 : w35.cell? ⟨gb291, 1, none⟩ = some (.slice A0_1 l0_1.length c0_1) := (blk_cell BK291.out 1).trans rfl; have hfz36_0 := blk_frozen BK291.out 0; have hfz36_1 := blk_frozen BK291.out 1) | ((with_reducible refine gate_callee (f := 17) rfl ?_); refine goesL_ (some 21) rfl rfl Try.func17 (by kernel_rfl) rfl #[.agg #[.int .i64 a0_0, .slice A0_1 l0_1.length c0_1]] rfl (by (try simp only [List.map_toArray, List.map_cons, List.map_nil]); first | done | rfl) ?_; (with_reducible refine (laws_toGraph.calls k a0_0 _ _ l0_1 t293 t294 _ ?side1 ?side2 A7.out).mono ?_); (case side1 => exact (Kd.C_below HR0_1.out HB.out)); (case side2 => exact HC0_1.out); rintro e w37 ⟨v295, rfl, ho0, hb⟩; refine ⟨_, rfl, ?_⟩; have n0_ := Aside0.mk (blk_below (g := gb291) (o := .cells #[.int .i64 a0_0, .slice A0_1 l0_1.length c0_1] 24 (0, 0)) (by (with_reducible repeat (first | refine blk_drewN ?_ _ | refine blk_drew ?_ | refine blk_alloc ?_ _)); exact BK291.out) hb); have n1_ := Aside0.mk (Kd.S_lower (Kd.S_mono (Kd.S_bound ho0) (fun k_ hk_ => (⟨hk_.2.1, hk_.2.2.1⟩ : w35.heap.size ≤ k_ ∧ k_ < w37.heap.size))) HB.out.size); have n2_ := Aside0.mk (below_step HB.out hb); have n3_ := Aside0.mk (hb.size); clear BK291; clear HB; have BK291 := n0_; have HO296 := n1_; have HB := n2_; have Zw37 := n3_; clear n0_ n1_ n2_ n3_; (try clear hb); (try clear hkp); (try clear hd_); (try clear ho0); obtain ⟨Ao38, co38, eo38⟩ := Kd.S_slice HO296.out; subst eo38) | ((with_reducible refine gate_callee (f := 22) rfl ?_); refine goesL_ (some 22) rfl rfl Try.func22 (by kernel_rfl) rfl #[.agg #[.int .i64 t293, .slice Ao38 t294.length co38]] rfl (by (try simp only [List.map_toArray, List.map_cons, List.map_nil]); first | done | rfl) ?_; (with_reducible refine (spec_AdjacencyOf.calls k t293 _ _ t294 t297 t300 _ ?side1 ?side2 A8.out).mono ?_); (case side1 => exact (Kd.S_reads' HO296.out).2.2); (case side2 => (have e_ := Kd.S_reads' HO296.out; have e1_ := e_.1; have e2_ := e_.2.1; omega)); rintro e w39 ⟨v298, rfl, ho0, hb⟩; refine ⟨_, rfl, ?_⟩; have n0_ := Aside0.mk (blk_below (g := gb291) (o := .cells #[.int .i64 a0_0, .slice A0_1 l0_1.length c0_1] 24 (0, 0)) (by (with_reducible repeat (first | refine blk_drewN ?_ _ | refine blk_drew ?_ | refine blk_alloc ?_ _)); exact BK291.out) hb); have n1_ := Aside0.mk (Kd.S_below HO296.out hb); have n2_ := Aside0.mk (Kd.S_lower (Kd.S_mono (Kd.S_bound ho0) (fun k_ hk_ => (⟨hk_.2.1, hk_.2.2.1⟩ : w37.heap.size ≤ k_ ∧ k_ < w39.heap.size))) HB.out.size); have n3_ := Aside0.mk (below_step HB.out hb); have n4_ := Aside0.mk (hb.size); clear BK291; clear HO296; clear HB; have BK291 := n0_; have HO296 := n1_; have HO299 := n2_; have HB := n3_; have Zw39 := n4_; clear n0_ n1_ n2_ n3_ n4_; (try clear hb); (try clear hkp); (try clear hd_); (try clear ho0); obtain ⟨Ao40, co40, eo40⟩ := Kd.S_slice HO299.out; subst eo40; have hcz41_0 : w39.cell? ⟨gb291, 0, none⟩ = some (.int .i64 a0_0) := (blk_cell BK291.out 0).trans rfl; have hcz41_1 : w39.cell? ⟨gb291, 1, none⟩ = some (.slice A0_1 l0_1.length c0_1) := (blk_cell BK291.out 1).trans rfl; have hfz41_0 := blk_frozen BK291.out 0; have hfz41_1 := blk_frozen BK291.out 1) | ((with_reducible refine gate_callee (f := 17) rfl ?_); refine goesL_ (some 26) rfl rfl Try.func17 (by kernel_rfl) rfl #[.agg #[.int .i64 a0_0, .slice A0_1 l0_1.length c0_1]] rfl (by (try simp only [List.map_toArray, List.map_cons, List.map_nil]); first | done | rfl) ?_; (with_reducible refine (laws_toGraph.calls k a0_0 _ _ l0_1 t301 t302 _ ?side1 ?side2 A9.out).mono ?_); (case side1 => exact (Kd.C_below HR0_1.out HB.out)); (case side2 => exact HC0_1.out); rintro e w42 ⟨v303, rfl, ho0, hb⟩; refine ⟨_, rfl, ?_⟩; have n0_ := Aside0.mk (blk_below (g := gb291) (o := .cells #[.int .i64 a0_0, .slice A0_1 l0_1.length c0_1] 24 (0, 0)) (by (with_reducible repeat (first | refine blk_drewN ?_ _ | refine blk_drew ?_ | refine blk_alloc ?_ _)); exact BK291.out) hb); have n1_ := Aside0.mk (Kd.S_below HO296.out hb); have n2_ := Aside0.mk (Kd.S_below HO299.out hb); have n3_ := Aside0.mk (Kd.S_lower (Kd.S_mono (Kd.S_bound ho0) (fun k_ hk_ => (⟨hk_.2.1, hk_.2.2.1⟩ : w39.heap.size ≤ k_ ∧ k_ < w42.heap.size))) HB.out.size); have n4_ := Aside0.mk (below_step HB.out hb); have n5_ := Aside0.mk (hb.size); clear BK291; clear HO296; clear HO299; clear HB; have BK291 := n0_; have HO296 := n1_; have HO299 := n2_; have HO304 := n3_; have HB := n4_; have Zw42 := n5_; clear n0_ n1_ n2_ n3_ n4_ n5_; (try clear hb); (try clear hkp); (try clear hd_); (try clear ho0); obtain ⟨Ao43, co43, eo43⟩ := Kd.S_slice HO304.out; subst eo43) | ((with_reducible refine gate_dst (N := 6) rfl ?_); refine box_event ?hg (N := 6) ?hd (cs := #[.int .i64 0, .slice none 0 0]) (t := 29) ?hr ?_; (case hd => rfl); (case hg => rfl); (case hr => first | (go_simp; done) | (go_simp; rfl)); intro gb305 hg w44 hbox hb; have n0_ := Aside0.mk (Kd.S_below HO296.out hb); have n1_ := Aside0.mk (Kd.S_below HO299.out hb); have n2_ := Aside0.mk (Kd.S_below HO304.out hb); have n3_ := Aside0.mk (blk_below (g := gb291) (o := .cells #[.int .i64 a0_0, .slice A0_1 l0_1.length c0_1] 24 (0, 0)) (by (with_reducible repeat (first | refine blk_drewN ?_ _ | refine blk_drew ?_ | refine blk_alloc ?_ _)); exact BK291.out) hb); have n4_ := Aside0.mk (hb.size); have n5_ := Aside0.mk ((⟨Nat.le_of_eq hg.symm, blk_lt hbox⟩ : w42.heap.size ≤ gb305 ∧ gb305 < w44.heap.size)); have n6_ := Aside0.mk (below_step (by repeat (first | (with_reducible first | exact HB.out | apply below_alloc | apply pw_below_drewN | apply below_drew1 | refine below_set ?_ GE291.out) | exact HB.out)) hb); have n7_ := Aside0.mk (hbox); have n8_ := Aside0.mk ((by rw [hg]; exact (below_size (by repeat (first | (with_reducible first | exact HB.out | apply below_alloc | apply pw_below_drewN | apply below_drew1 | refine below_set ?_ GE291.out) | exact HB.out))) : w.heap.size ≤ gb305)); have n9_ := Aside0.mk ((by rw [hg]; exact (below_size (by repeat (first | (with_reducible first | exact HB.out | apply below_alloc | apply pw_below_drewN | apply below_drew1 | refine below_set ?_ GE291.out) | exact HB.out))) : w.heap.size ≤ gb305)); have n10_ := Aside0.mk ((by rw [hg]; exact Nat.ne_of_lt (blk_lt (g := gb291) (o := .cells #[.int .i64 a0_0, .slice A0_1 l0_1.length c0_1] 24 (0, 0)) (by (with_reducible repeat (first | refine blk_drewN ?_ _ | refine blk_drew ?_ | refine blk_alloc ?_ _)); exact BK291.out)) : gb291 ≠ gb305)); have n11_ := Aside0.mk ((by rw [hg]; exact Nat.ne_of_gt (blk_lt (g := gb291) (o := .cells #[.int .i64 a0_0, .slice A0_1 l0_1.length c0_1] 24 (0, 0)) (by (with_reducible repeat (first | refine blk_drewN ?_ _ | refine blk_drew ?_ | refine blk_alloc ?_ _)); exact BK291.out)) : gb305 ≠ gb291)); clear HO296; clear HO299; clear HO304; clear BK291; clear HB; have HO296 := n0_; have HO299 := n1_; have HO304 := n2_; have BK291 := n3_; have Zw44 := n4_; have ZB305 := n5_; have HB := n6_; have BK305 := n7_; have GW305 := n8_; have GE305 := n9_; have NB291_305 := n10_; have NB305_291 := n11_; clear n0_ n1_ n2_ n3_ n4_ n5_ n6_ n7_ n8_ n9_ n10_ n11_; clear hb hbox hg; have hnb45 := NB305_291.out; have hnc45 := NB291_305.out; have hcz46_0 : w44.cell? ⟨gb305, 0, none⟩ = some (.int .i64 0) := (blk_cell BK305.out 0).trans rfl; have hcz46_1 : w44.cell? ⟨gb305, 1, none⟩ = some (.slice none 0 0) := (blk_cell BK305.out 1).trans rfl; have hfz46_0 := blk_frozen BK305.out 0; have hfz46_1 := blk_frozen BK305.out 1) | ((with_reducible refine gate_callee (f := 23) rfl ?_); have n0_ := Aside0.mk (show ((w44.setCell ⟨gb305, 0, none⟩ (.int .i64 t301)).setCell ⟨gb305, 1, none⟩ (.slice Ao43 t302.length co43)).heap[gb291]? = some (.cells #[.int .i64 a0_0, .slice A0_1 l0_1.length c0_1] 24 (0, 0)) from (by (with_reducible repeat (first | refine blk_drewN ?_ _ | refine blk_drew ?_ | refine blk_alloc ?_ _)); refine blk_far ?_ NB291_305.out _; (with_reducible repeat (first | refine blk_drewN ?_ _ | refine blk_drew ?_ | refine blk_alloc ?_ _)); refine blk_far ?_ NB291_305.out _; (with_reducible repeat (first | refine blk_drewN ?_ _ | refine blk_drew ?_ | refine blk_alloc ?_ _)); exact BK291.out)); have n1_ := Aside0.mk (show Kd.S (Kd.slice 2 (Kd.int .i64)) 25 ((w44.setCell ⟨gb305, 0, none⟩ (.int .i64 t301)).setCell ⟨gb305, 1, none⟩ (.slice Ao43 t302.length co43)) w.heap.size (fun k_ => w35.heap.size ≤ k_ ∧ k_ < w37.heap.size) (.slice Ao38 t294.length co38) t294 from (Kd.S_far (Kd.S_far HO296.out (fun k_ ho_ => (show k_ ≠ gb305 from by have h1_ := ho_.1; have h2_ := ho_.2; have h3_ := ZB305.out.1; have h4_ := ZB305.out.2; have z0_ := Zw33.out; have z1_ := Zw35.out; have z2_ := Zw37.out; have z3_ := Zw39.out; have z4_ := Zw42.out; have z5_ := Zw44.out; omega)) _) (fun k_ ho_ => (show k_ ≠ gb305 from by have h1_ := ho_.1; have h2_ := ho_.2; have h3_ := ZB305.out.1; have h4_ := ZB305.out.2; have z0_ := Zw33.out; have z1_ := Zw35.out; have z2_ := Zw37.out; have z3_ := Zw39.out; have z4_ := Zw42.out; have z5_ := Zw44.out; omega)) _)); have n2_ := Aside0.mk (show Kd.S (Kd.slice 2 (Kd.int .i64)) 25 ((w44.setCell ⟨gb305, 0, none⟩ (.int .i64 t301)).setCell ⟨gb305, 1, none⟩ (.slice Ao43 t302.length co43)) w.heap.size (fun k_ => w37.heap.size ≤ k_ ∧ k_ < w39.heap.size) (.slice Ao40 t297.length co40) t297 from (Kd.S_far (Kd.S_far HO299.out (fun k_ ho_ => (show k_ ≠ gb305 from by have h1_ := ho_.1; have h2_ := ho_.2; have h3_ := ZB305.out.1; have h4_ := ZB305.out.2; have z0_ := Zw33.out; have z1_ := Zw35.out; have z2_ := Zw37.out; have z3_ := Zw39.out; have z4_ := Zw42.out; have z5_ := Zw44.out; omega)) _) (fun k_ ho_ => (show k_ ≠ gb305 from by have h1_ := ho_.1; have h2_ := ho_.2; have h3_ := ZB305.out.1; have h4_ := ZB305.out.2; have z0_ := Zw33.out; have z1_ := Zw35.out; have z2_ := Zw37.out; have z3_ := Zw39.out; have z4_ := Zw42.out; have z5_ := Zw44.out; omega)) _)); have n3_ := Aside0.mk (show Kd.S (Kd.slice 2 (Kd.int .i64)) 25 ((w44.setCell ⟨gb305, 0, none⟩ (.int .i64 t301)).setCell ⟨gb305, 1, none⟩ (.slice Ao43 t302.length co43)) w.heap.size (fun k_ => w39.heap.size ≤ k_ ∧ k_ < w42.heap.size) (.slice Ao43 t302.length co43) t302 from (Kd.S_far (Kd.S_far HO304.out (fun k_ ho_ => (show k_ ≠ gb305 from by have h1_ := ho_.1; have h2_ := ho_.2; have h3_ := ZB305.out.1; have h4_ := ZB305.out.2; have z0_ := Zw33.out; have z1_ := Zw35.out; have z2_ := Zw37.out; have z3_ := Zw39.out; have z4_ := Zw42.out; have z5_ := Zw44.out; omega)) _) (fun k_ ho_ => (show k_ ≠ gb305 from by have h1_ := ho_.1; have h2_ := ho_.2; have h3_ := ZB305.out.1; have h4_ := ZB305.out.2; have z0_ := Zw33.out; have z1_ := Zw35.out; have z2_ := Zw37.out; have z3_ := Zw39.out; have z4_ := Zw42.out; have z5_ := Zw44.out; omega)) _)); have n4_ := Aside0.mk (show ((w44.setCell ⟨gb305, 0, none⟩ (.int .i64 t301)).setCell ⟨gb305, 1, none⟩ (.slice Ao43 t302.length co43)).heap[gb305]? = some (.cells #[.int .i64 t301, .slice Ao43 t302.length co43] 29 (0, 0)) from (by (with_reducible repeat (first | refine blk_drewN ?_ _ | refine blk_drew ?_ | refine blk_alloc ?_ _)); refine blk_put (cs := #[.int .i64 t301, .slice none 0 0]) ?_ 1 _ rfl; (with_reducible repeat (first | refine blk_drewN ?_ _ | refine blk_drew ?_ | refine blk_alloc ?_ _)); refine blk_put (cs := #[.int .i64 0, .slice none 0 0]) ?_ 0 _ rfl; (with_reducible repeat (first | refine blk_drewN ?_ _ | refine blk_drew ?_ | refine blk_alloc ?_ _)); exact BK305.out)); have n5_ := Aside0.mk (show Below w.heap.size w ((w44.setCell ⟨gb305, 0, none⟩ (.int .i64 t301)).setCell ⟨gb305, 1, none⟩ (.slice Ao43 t302.length co43)) from (below_set (below_set HB.out GE305.out) GE305.out)); have n6_ := Aside0.mk (show w44.heap.size ≤ ((w44.setCell ⟨gb305, 0, none⟩ (.int .i64 t301)).setCell ⟨gb305, 1, none⟩ (.slice Ao43 t302.length co43)).heap.size from (Kept.setCell (Kept.setCell (Kept.refl w44 (fun _ => True)) (.inl trivial) _) (.inl trivial) _).1); clear BK291; clear HO296; clear HO299; clear HO304; clear BK305; clear HB; generalize hW_ : ((w44.setCell ⟨gb305, 0, none⟩ (.int .i64 t301)).setCell ⟨gb305, 1, none⟩ (.slice Ao43 t302.length co43)) = w47 at n0_ n1_ n2_ n3_ n4_ n5_ n6_ ⊢; clear hW_; have BK291 := n0_; have HO296 := n1_; have HO299 := n2_; have HO304 := n3_; have BK305 := n4_; have HB := n5_; have Zw47 := n6_; clear n0_ n1_ n2_ n3_ n4_ n5_ n6_; refine goesL_ (some 29) rfl rfl Try.func23 (by kernel_rfl) rfl #[.agg #[.int .i64 t301, .slice Ao43 t302.length co43]] rfl (by (try simp only [List.map_toArray, List.map_cons, List.map_nil]); first | done | rfl) ?_; (with_reducible refine (impl_AdjacencyOf.calls k t301 _ _ t302 t306 t309 _ ?side1 ?side2 A10.out).mono ?_); (case side1 => exact (Kd.S_reads' HO304.out).2.2); (case side2 => (have e_ := Kd.S_reads' HO304.out; have e1_ := e_.1; have e2_ := e_.2.1; omega)); rintro e w48 ⟨v307, rfl, ho0, hb⟩; refine ⟨_, rfl, ?_⟩; have n0_ := Aside0.mk (blk_below (g := gb291) (o := .cells #[.int .i64 a0_0, .slice A0_1 l0_1.length c0_1] 24 (0, 0)) (by (with_reducible repeat (first | refine blk_drewN ?_ _ | refine blk_drew ?_ | refine blk_alloc ?_ _)); exact BK291.out) hb); have n1_ := Aside0.mk (Kd.S_below HO296.out hb); have n2_ := Aside0.mk (Kd.S_below HO299.out hb); have n3_ := Aside0.mk (Kd.S_below HO304.out hb); have n4_ := Aside0.mk (blk_below (g := gb305) (o := .cells #[.int .i64 t301, .slice Ao43 t302.length co43] 29 (0, 0)) (by (with_reducible repeat (first | refine blk_drewN ?_ _ | refine blk_drew ?_ | refine blk_alloc ?_ _)); exact BK305.out) hb); have n5_ := Aside0.mk (Kd.S_lower (Kd.S_mono (Kd.S_bound ho0) (fun k_ hk_ => (⟨hk_.2.1, hk_.2.2.1⟩ : w47.heap.size ≤ k_ ∧ k_ < w48.heap.size))) HB.out.size); have n6_ := Aside0.mk (below_step HB.out hb); have n7_ := Aside0.mk (hb.size); clear BK291; clear HO296; clear HO299; clear HO304; clear BK305; clear HB; have BK291 := n0_; have HO296 := n1_; have HO299 := n2_; have HO304 := n3_; have BK305 := n4_; have HO308 := n5_; have HB := n6_; have Zw48 := n7_; clear n0_ n1_ n2_ n3_ n4_ n5_ n6_ n7_; (try clear hb); (try clear hkp); (try clear hd_); (try clear ho0); obtain ⟨Ao49, co49, eo49⟩ := Kd.S_slice HO308.out; subst eo49) | ((with_reducible refine gate_callee (f := 24) rfl ?_); refine goesL_ (some 34) rfl rfl Try.func24 (by kernel_rfl) rfl #[.slice Ao49 t306.length co49, .slice Ao40 t297.length co40] rfl (by (try simp only [List.map_toArray, List.map_cons, List.map_nil]); first | done | rfl) ?_; (with_reducible refine (laws_eqInt64SS.calls k _ _ t306 _ _ t297 true _ ?side1 ?side2 ?side3 ?side4 A11.out).mono ?_); (case side1 => exact (Kd.S_reads' HO308.out).2.2); (case side2 => (have e_ := Kd.S_reads' HO308.out; have e1_ := e_.1; have e2_ := e_.2.1; omega)); (case side3 => exact (Kd.S_reads' HO299.out).2.2); (case side4 => (have e_ := Kd.S_reads' HO299.out; have e1_ := e_.1; have e2_ := e_.2.1; omega)); rintro e w50 ⟨rfl, hd_⟩; refine ⟨_, rfl, ?_⟩; have hb := hd_.below; have n0_ := Aside0.mk (blk_below (g := gb291) (o := .cells #[.int .i64 a0_0, .slice A0_1 l0_1.length c0_1] 24 (0, 0)) (by (with_reducible repeat (first | refine blk_drewN ?_ _ | refine blk_drew ?_ | refine blk_alloc ?_ _)); exact BK291.out) hb); have n1_ := Aside0.mk (Kd.S_below HO296.out hb); have n2_ := Aside0.mk (Kd.S_below HO299.out hb); have n3_ := Aside0.mk (Kd.S_below HO304.out hb); have n4_ := Aside0.mk (blk_below (g := gb305) (o := .cells #[.int .i64 t301, .slice Ao43 t302.length co43] 29 (0, 0)) (by (with_reducible repeat (first | refine blk_drewN ?_ _ | refine blk_drew ?_ | refine blk_alloc ?_ _)); exact BK305.out) hb); have n5_ := Aside0.mk (Kd.S_below HO308.out hb); have n6_ := Aside0.mk (below_step HB.out hb); have n7_ := Aside0.mk (hb.size); clear BK291; clear HO296; clear HO299; clear HO304; clear BK305; clear HO308; clear HB; have BK291 := n0_; have HO296 := n1_; have HO299 := n2_; have HO304 := n3_; have BK305 := n4_; have HO308 := n5_; have HB := n6_; have Zw50 := n7_; clear n0_ n1_ n2_ n3_ n4_ n5_ n6_ n7_; (try clear hb); (try clear hkp); (try clear hd_)))
                          have n0_ := Aside0.mk ((show w50.heap.size ≤ w50.drew.heap.size from Nat.le_refl _))
                          have n1_ := Aside0.mk (Kd.S_drew HO296.out)
                          have n2_ := Aside0.mk (Kd.S_drew HO299.out)
                          have n3_ := Aside0.mk (Kd.S_drew HO304.out)
                          have n4_ := Aside0.mk (Kd.S_drew HO308.out)
                          have n5_ := Aside0.mk (blk_drew BK291.out)
                          have n6_ := Aside0.mk (blk_drew BK305.out)
                          have n7_ := Aside0.mk (below_drew1 HB.out)
                          clear HO296
                          clear HO299
                          clear HO304
                          clear HO308
                          clear BK291
                          clear BK305
                          clear HB
                          have Zw51 := n0_
                          have HO296 := n1_
                          have HO299 := n2_
                          have HO304 := n3_
                          have HO308 := n4_
                          have BK291 := n5_
                          have BK305 := n6_
                          have HB := n7_
                          clear n0_ n1_ n2_ n3_ n4_ n5_ n6_ n7_
                          refine start_ (n := 5) (S := fun w' => w'.cell? ⟨gb305, 0, none⟩ = some (.int .i64 t301) ∧ w'.cell? ⟨gb305, 1, none⟩ = some (.slice Ao43 t302.length co43) ∧ w'.cell? ⟨gb291, 0, none⟩ = some (.int .i64 a0_0) ∧ w'.cell? ⟨gb291, 1, none⟩ = some (.slice A0_1 l0_1.length c0_1)) (ds := []) #[false, false, false, false, false] (by kernel_rfl) rfl rfl ⟨(blk_cell BK305.out 0).trans rfl, (blk_cell BK305.out 1).trans rfl, (blk_cell BK291.out 0).trans rfl, (blk_cell BK291.out 1).trans rfl⟩ (fun hHeld => ?_)
                          generalize w50.drew = w51 at HO296 HO299 HO304 HO308 BK291 BK305 HB Zw51 hHeld ⊢
                          refine take_ (i := 0) (N := some 41) (v := ?_) (a' := ?_) #[true, false, false, false, false] rfl rfl (by kernel_rfl) (fun _ _ _ h => h) (Or.inl ⟨by rfl, ?_⟩) hHeld ?_ ?_
                          rotate_left
                          · rintro w' ⟨s0, s1, s2, s3⟩
                            go_simp
                            with_reducible rfl
                          rotate_left
                          · simp only [Act.put, List.setIfInBounds_toArray, List.set_cons_zero, List.set_cons_succ, i64_w, i32_w]
                            rfl
                          refine take_ (i := 1) (N := some 42) (v := ?_) (a' := ?_) #[true, true, false, false, false] rfl rfl (by kernel_rfl) (fun _ _ _ h => h) (Or.inl ⟨by rfl, ?_⟩) hHeld ?_ ?_
                          rotate_left
                          · rintro w' ⟨s0, s1, s2, s3⟩
                            go_simp
                            with_reducible rfl
                          rotate_left
                          · simp only [Act.put, List.setIfInBounds_toArray, List.set_cons_zero, List.set_cons_succ, i64_w, i32_w]
                            rfl
                          refine one_ (i := 2) (N := some 43) #[true, true, true, false, false] rfl rfl (by kernel_rfl) (by decide) (fun K hK => ?_)
                          refine goes_ Try.func17 (by kernel_rfl) rfl #[.agg #[.int .i64 a0_0, .slice A0_1 l0_1.length c0_1]] (by rfl) rfl rfl (by (try simp only [List.map_toArray, List.map_cons, List.map_nil]); first | done | rfl | (simp only [List.length_drop, List.length_take]; rfl)) ?_
                          with_reducible refine (laws_toGraph.calls k a0_0 _ _ l0_1 t311 t312 _ ?side1 ?side2 A14.out).mono ?_
                          (case side1 => exact (Kd.C_below HR0_1.out HB.out))
                          (case side2 => exact HC0_1.out)
                          rintro e w52 ⟨v313, rfl, ho0, hb⟩
                          refine ⟨_, rfl, ?_⟩
                          have n0_ := Aside0.mk (blk_below (g := gb291) (o := .cells #[.int .i64 a0_0, .slice A0_1 l0_1.length c0_1] 24 (0, 0)) (by (with_reducible repeat (first | refine blk_drewN ?_ _ | refine blk_drew ?_ | refine blk_alloc ?_ _)); exact BK291.out) hb)
                          have n1_ := Aside0.mk (Kd.S_below HO296.out hb)
                          have n2_ := Aside0.mk (Kd.S_below HO299.out hb)
                          have n3_ := Aside0.mk (Kd.S_below HO304.out hb)
                          have n4_ := Aside0.mk (blk_below (g := gb305) (o := .cells #[.int .i64 t301, .slice Ao43 t302.length co43] 29 (0, 0)) (by (with_reducible repeat (first | refine blk_drewN ?_ _ | refine blk_drew ?_ | refine blk_alloc ?_ _)); exact BK305.out) hb)
                          have n5_ := Aside0.mk (Kd.S_below HO308.out hb)
                          have n6_ := Aside0.mk (Kd.S_lower (Kd.S_mono (Kd.S_bound ho0) (fun k_ hk_ => (⟨hk_.2.1, hk_.2.2.1⟩ : w51.heap.size ≤ k_ ∧ k_ < w52.heap.size))) HB.out.size)
                          have n7_ := Aside0.mk (below_step HB.out hb)
                          have n8_ := Aside0.mk (hb.size)
                          clear BK291
                          clear HO296
                          clear HO299
                          clear HO304
                          clear BK305
                          clear HO308
                          clear HB
                          have BK291 := n0_
                          have HO296 := n1_
                          have HO299 := n2_
                          have HO304 := n3_
                          have BK305 := n4_
                          have HO308 := n5_
                          have HO314 := n6_
                          have HB := n7_
                          have Zw52 := n8_
                          clear n0_ n1_ n2_ n3_ n4_ n5_ n6_ n7_ n8_
                          (try clear hb)
                          (try clear hkp)
                          (try clear hd_)
                          (try clear ho0)
                          obtain ⟨Ao53, co53, eo53⟩ := Kd.S_slice HO314.out
                          subst eo53
                          refine hK.out _ _ ⟨(blk_cell BK305.out 0).trans rfl, (blk_cell BK305.out 1).trans rfl, (blk_cell BK291.out 0).trans rfl, (blk_cell BK291.out 1).trans rfl⟩ (fun hHeld => ?_)
                          clear hK K
                          refine norm_ (a' := ?_) ?_ ?_
                          rotate_left
                          · show Act.put _ (some 43) _ = _
                            simp only [Act.put, List.setIfInBounds_toArray, List.set_cons_zero, List.set_cons_succ, i64_w, i32_w]
                            rfl
                          refine one_ (i := 3) (N := some 44) #[true, true, true, true, false] rfl rfl (by kernel_rfl) (by decide) (fun K hK => ?_)
                          refine goes_ Try.func20 (by kernel_rfl) rfl #[.agg #[.int .i64 t301, .slice Ao43 t302.length co43], .agg #[.int .i64 t311, .slice Ao53 t312.length co53]] (by rfl) rfl rfl (by (try simp only [List.map_toArray, List.map_cons, List.map_nil]); first | done | rfl | (simp only [List.length_drop, List.length_take]; rfl)) ?_
                          with_reducible refine (laws_eqGraph.calls k t301 _ _ t302 t311 _ _ t312 true _ ?side1 ?side2 ?side3 ?side4 A15.out).mono ?_
                          (case side1 => exact (Kd.S_reads' HO304.out).2.2)
                          (case side2 => (have e_ := Kd.S_reads' HO304.out; have e1_ := e_.1; have e2_ := e_.2.1; omega))
                          (case side3 => exact (Kd.S_reads' HO314.out).2.2)
                          (case side4 => (have e_ := Kd.S_reads' HO314.out; have e1_ := e_.1; have e2_ := e_.2.1; omega))
                          rintro e w54 ⟨rfl, hb⟩
                          refine ⟨_, rfl, ?_⟩
                          have n0_ := Aside0.mk (blk_below (g := gb291) (o := .cells #[.int .i64 a0_0, .slice A0_1 l0_1.length c0_1] 24 (0, 0)) (by (with_reducible repeat (first | refine blk_drewN ?_ _ | refine blk_drew ?_ | refine blk_alloc ?_ _)); exact BK291.out) hb)
                          have n1_ := Aside0.mk (Kd.S_below HO296.out hb)
                          have n2_ := Aside0.mk (Kd.S_below HO299.out hb)
                          have n3_ := Aside0.mk (Kd.S_below HO304.out hb)
                          have n4_ := Aside0.mk (blk_below (g := gb305) (o := .cells #[.int .i64 t301, .slice Ao43 t302.length co43] 29 (0, 0)) (by (with_reducible repeat (first | refine blk_drewN ?_ _ | refine blk_drew ?_ | refine blk_alloc ?_ _)); exact BK305.out) hb)
                          have n5_ := Aside0.mk (Kd.S_below HO308.out hb)
                          have n6_ := Aside0.mk (Kd.S_below HO314.out hb)
                          have n7_ := Aside0.mk (below_step HB.out hb)
                          have n8_ := Aside0.mk (hb.size)
                          clear BK291
                          clear HO296
                          clear HO299
                          clear HO304
                          clear BK305
                          clear HO308
                          clear HO314
                          clear HB
                          have BK291 := n0_
                          have HO296 := n1_
                          have HO299 := n2_
                          have HO304 := n3_
                          have BK305 := n4_
                          have HO308 := n5_
                          have HO314 := n6_
                          have HB := n7_
                          have Zw54 := n8_
                          clear n0_ n1_ n2_ n3_ n4_ n5_ n6_ n7_ n8_
                          (try clear hb)
                          (try clear hkp)
                          (try clear hd_)
                          refine hK.out _ _ ⟨(blk_cell BK305.out 0).trans rfl, (blk_cell BK305.out 1).trans rfl, (blk_cell BK291.out 0).trans rfl, (blk_cell BK291.out 1).trans rfl⟩ (fun hHeld => ?_)
                          clear hK K
                          refine norm_ (a' := ?_) ?_ ?_
                          rotate_left
                          · show Act.put _ (some 44) _ = _
                            simp only [Act.put, List.setIfInBounds_toArray, List.set_cons_zero, List.set_cons_succ, i64_w, i32_w]
                            rfl
                          refine pure_ (i := 4) (N := some 45) (v := ?_) (a' := ?_) #[true, true, true, true, true] rfl rfl (by kernel_rfl) (fun _ _ _ h => h) (Or.inl ⟨by rfl, ?_⟩) ?_ ?_
                          rotate_left
                          · intro w'
                            go_simp
                            with_reducible rfl
                          rotate_left
                          · simp only [Act.put, List.setIfInBounds_toArray, List.set_cons_zero, List.set_cons_succ, i64_w, i32_w]
                            rfl
                          refine done_ (by kernel_rfl) ?_
                          have hcz55_0 : w54.cell? ⟨gb305, 0, none⟩ = some (.int .i64 t301) := (blk_cell BK305.out 0).trans rfl
                          have hcz55_1 : w54.cell? ⟨gb305, 1, none⟩ = some (.slice Ao43 t302.length co43) := (blk_cell BK305.out 1).trans rfl
                          have hfz55_0 := blk_frozen BK305.out 0
                          have hfz55_1 := blk_frozen BK305.out 1
                          try go_wp2_with (first | ((with_reducible refine gate_callee (f := 25) rfl ?_); refine goesL_ (some 48) rfl rfl Try.func25 (by kernel_rfl) rfl #[.agg #[.int .i64 t301, .slice Ao43 t302.length co43], .int .i64 1] rfl (by (try simp only [List.map_toArray, List.map_cons, List.map_nil]); first | done | rfl) ?_; (with_reducible refine (laws_markGraph.calls k t301 (fun k_ => w39.heap.size ≤ k_ ∧ k_ < w42.heap.size) (.slice Ao43 t302.length co43) t302 1 t316 t317 w _ ?side1 ?side2 A17.out).mono ?_); (case side1 => exact HB.out); (case side2 => exact HO304.out); rintro e w56 ⟨rfl, hy0, hb, hkp⟩; refine ⟨_, rfl, ?_⟩; have n0_ := Aside0.mk (blk_kept (by (with_reducible repeat (first | refine blk_drewN ?_ _ | refine blk_drew ?_ | refine blk_alloc ?_ _)); exact BK291.out) hkp (fun hs_ => by have h1_ := ZB291.out.1; have h2_ := ZB291.out.2; have z0_ := Zw33.out; have z1_ := Zw35.out; have z2_ := Zw37.out; have z3_ := Zw39.out; have z4_ := Zw42.out; have z5_ := Zw44.out; have z6_ := Zw47.out; have z7_ := Zw48.out; have z8_ := Zw50.out; have z9_ := Zw51.out; have z10_ := Zw52.out; have z11_ := Zw54.out; have h3_ := hs_.1; have h4_ := hs_.2; omega)); have n1_ := Aside0.mk (Kd.S_step HO296.out (fun k_ ho_ hl_ => hkp.2 k_ hl_ (fun hs_ => by have h1_ := ho_.1; have h2_ := ho_.2; have z0_ := Zw33.out; have z1_ := Zw35.out; have z2_ := Zw37.out; have z3_ := Zw39.out; have z4_ := Zw42.out; have z5_ := Zw44.out; have z6_ := Zw47.out; have z7_ := Zw48.out; have z8_ := Zw50.out; have z9_ := Zw51.out; have z10_ := Zw52.out; have z11_ := Zw54.out; have h3_ := hs_.1; have h4_ := hs_.2; omega))); have n2_ := Aside0.mk (Kd.S_step HO299.out (fun k_ ho_ hl_ => hkp.2 k_ hl_ (fun hs_ => by have h1_ := ho_.1; have h2_ := ho_.2; have z0_ := Zw33.out; have z1_ := Zw35.out; have z2_ := Zw37.out; have z3_ := Zw39.out; have z4_ := Zw42.out; have z5_ := Zw44.out; have z6_ := Zw47.out; have z7_ := Zw48.out; have z8_ := Zw50.out; have z9_ := Zw51.out; have z10_ := Zw52.out; have z11_ := Zw54.out; have h3_ := hs_.1; have h4_ := hs_.2; omega))); have n3_ := Aside0.mk (hy0); have n4_ := Aside0.mk (blk_kept (by (with_reducible repeat (first | refine blk_drewN ?_ _ | refine blk_drew ?_ | refine blk_alloc ?_ _)); exact BK305.out) hkp (fun hs_ => by have h1_ := ZB305.out.1; have h2_ := ZB305.out.2; have z0_ := Zw33.out; have z1_ := Zw35.out; have z2_ := Zw37.out; have z3_ := Zw39.out; have z4_ := Zw42.out; have z5_ := Zw44.out; have z6_ := Zw47.out; have z7_ := Zw48.out; have z8_ := Zw50.out; have z9_ := Zw51.out; have z10_ := Zw52.out; have z11_ := Zw54.out; have h3_ := hs_.1; have h4_ := hs_.2; omega)); have n5_ := Aside0.mk (Kd.S_step HO308.out (fun k_ ho_ hl_ => hkp.2 k_ hl_ (fun hs_ => by have h1_ := ho_.1; have h2_ := ho_.2; have z0_ := Zw33.out; have z1_ := Zw35.out; have z2_ := Zw37.out; have z3_ := Zw39.out; have z4_ := Zw42.out; have z5_ := Zw44.out; have z6_ := Zw47.out; have z7_ := Zw48.out; have z8_ := Zw50.out; have z9_ := Zw51.out; have z10_ := Zw52.out; have z11_ := Zw54.out; have h3_ := hs_.1; have h4_ := hs_.2; omega))); have n6_ := Aside0.mk (Kd.S_step HO314.out (fun k_ ho_ hl_ => hkp.2 k_ hl_ (fun hs_ => by have h1_ := ho_.1; have h2_ := ho_.2; have z0_ := Zw33.out; have z1_ := Zw35.out; have z2_ := Zw37.out; have z3_ := Zw39.out; have z4_ := Zw42.out; have z5_ := Zw44.out; have z6_ := Zw47.out; have z7_ := Zw48.out; have z8_ := Zw50.out; have z9_ := Zw51.out; have z10_ := Zw52.out; have z11_ := Zw54.out; have h3_ := hs_.1; have h4_ := hs_.2; omega))); have n7_ := Aside0.mk (hb); have n8_ := Aside0.mk (hkp.1); clear BK291; clear HO296; clear HO299; clear HO304; clear BK305; clear HO308; clear HO314; clear HB; have BK291 := n0_; have HO296 := n1_; have HO299 := n2_; have HO304 := n3_; have BK305 := n4_; have HO308 := n5_; have HO314 := n6_; have HB := n7_; have Zw56 := n8_; clear n0_ n1_ n2_ n3_ n4_ n5_ n6_ n7_ n8_; (try clear hb); (try clear hkp); (try clear hd_); (try clear hy0)) | (go_at_call 24; (with_reducible refine (laws_eqInt64SS.calls k _ _ t306 _ _ t297 true _ ?side1 ?side2 ?side3 ?side4 A19.out).mono ?_); (case side1 => exact (Kd.S_reads' HO308.out).2.2); (case side2 => (have e_ := Kd.S_reads' HO308.out; have e1_ := e_.1; have e2_ := e_.2.1; omega)); (case side3 => exact (Kd.S_reads' HO299.out).2.2); (case side4 => (have e_ := Kd.S_reads' HO299.out; have e1_ := e_.1; have e2_ := e_.2.1; omega)); rintro e w57 ⟨rfl, hd_⟩; have hb := hd_.below; have n0_ := Aside0.mk (blk_below (g := gb291) (o := .cells #[.int .i64 a0_0, .slice A0_1 l0_1.length c0_1] 24 (0, 0)) (by (with_reducible repeat (first | refine blk_drewN ?_ _ | refine blk_drew ?_ | refine blk_alloc ?_ _)); exact BK291.out) hb); have n1_ := Aside0.mk (Kd.S_below HO296.out hb); have n2_ := Aside0.mk (Kd.S_below HO299.out hb); have n3_ := Aside0.mk (Kd.S_below HO304.out hb); have n4_ := Aside0.mk (blk_below (g := gb305) (o := .cells #[.int .i64 t301, .slice Ao43 t302.length co43] 29 (0, 0)) (by (with_reducible repeat (first | refine blk_drewN ?_ _ | refine blk_drew ?_ | refine blk_alloc ?_ _)); exact BK305.out) hb); have n5_ := Aside0.mk (Kd.S_below HO308.out hb); have n6_ := Aside0.mk (Kd.S_below HO314.out hb); have n7_ := Aside0.mk (below_step HB.out hb); have n8_ := Aside0.mk (hb.size); clear BK291; clear HO296; clear HO299; clear HO304; clear BK305; clear HO308; clear HO314; clear HB; have BK291 := n0_; have HO296 := n1_; have HO299 := n2_; have HO304 := n3_; have BK305 := n4_; have HO308 := n5_; have HO314 := n6_; have HB := n7_; have Zw57 := n8_; clear n0_ n1_ n2_ n3_ n4_ n5_ n6_ n7_ n8_; (try clear hb); (try clear hkp); (try clear hd_)) | ((with_reducible refine gate_callee (f := 26) rfl ?_); refine goesL_ (some 64) rfl rfl Try.func26 (by kernel_rfl) rfl #[.slice Ao49 t306.length co49, .int .i64 1] rfl (by (try simp only [List.map_toArray, List.map_cons, List.map_nil]); first | done | rfl) ?_; (with_reducible refine (laws_markInt64SS.calls k (fun k_ => w47.heap.size ≤ k_ ∧ k_ < w48.heap.size) (.slice Ao49 t306.length co49) t306 1 t319 t320 w _ ?side1 ?side2 A21.out).mono ?_); (case side1 => exact HB.out); (case side2 => exact HO308.out); rintro e w58 ⟨rfl, hy0, hb, hkp⟩; refine ⟨_, rfl, ?_⟩; have n0_ := Aside0.mk (blk_kept (by (with_reducible repeat (first | refine blk_drewN ?_ _ | refine blk_drew ?_ | refine blk_alloc ?_ _)); exact BK291.out) hkp (fun hs_ => by have h1_ := ZB291.out.1; have h2_ := ZB291.out.2; have z0_ := Zw33.out; have z1_ := Zw35.out; have z2_ := Zw37.out; have z3_ := Zw39.out; have z4_ := Zw42.out; have z5_ := Zw44.out; have z6_ := Zw47.out; have z7_ := Zw48.out; have z8_ := Zw50.out; have z9_ := Zw51.out; have z10_ := Zw52.out; have z11_ := Zw54.out; have z12_ := Zw56.out; have z13_ := Zw57.out; have h3_ := hs_.1; have h4_ := hs_.2; omega)); have n1_ := Aside0.mk (Kd.S_step HO296.out (fun k_ ho_ hl_ => hkp.2 k_ hl_ (fun hs_ => by have h1_ := ho_.1; have h2_ := ho_.2; have z0_ := Zw33.out; have z1_ := Zw35.out; have z2_ := Zw37.out; have z3_ := Zw39.out; have z4_ := Zw42.out; have z5_ := Zw44.out; have z6_ := Zw47.out; have z7_ := Zw48.out; have z8_ := Zw50.out; have z9_ := Zw51.out; have z10_ := Zw52.out; have z11_ := Zw54.out; have z12_ := Zw56.out; have z13_ := Zw57.out; have h3_ := hs_.1; have h4_ := hs_.2; omega))); have n2_ := Aside0.mk (Kd.S_step HO299.out (fun k_ ho_ hl_ => hkp.2 k_ hl_ (fun hs_ => by have h1_ := ho_.1; have h2_ := ho_.2; have z0_ := Zw33.out; have z1_ := Zw35.out; have z2_ := Zw37.out; have z3_ := Zw39.out; have z4_ := Zw42.out; have z5_ := Zw44.out; have z6_ := Zw47.out; have z7_ := Zw48.out; have z8_ := Zw50.out; have z9_ := Zw51.out; have z10_ := Zw52.out; have z11_ := Zw54.out; have z12_ := Zw56.out; have z13_ := Zw57.out; have h3_ := hs_.1; have h4_ := hs_.2; omega))); have n3_ := Aside0.mk (Kd.S_step HO304.out (fun k_ ho_ hl_ => hkp.2 k_ hl_ (fun hs_ => by have h1_ := ho_.1; have h2_ := ho_.2; have z0_ := Zw33.out; have z1_ := Zw35.out; have z2_ := Zw37.out; have z3_ := Zw39.out; have z4_ := Zw42.out; have z5_ := Zw44.out; have z6_ := Zw47.out; have z7_ := Zw48.out; have z8_ := Zw50.out; have z9_ := Zw51.out; have z10_ := Zw52.out; have z11_ := Zw54.out; have z12_ := Zw56.out; have z13_ := Zw57.out; have h3_ := hs_.1; have h4_ := hs_.2; omega))); have n4_ := Aside0.mk (blk_kept (by (with_reducible repeat (first | refine blk_drewN ?_ _ | refine blk_drew ?_ | refine blk_alloc ?_ _)); exact BK305.out) hkp (fun hs_ => by have h1_ := ZB305.out.1; have h2_ := ZB305.out.2; have z0_ := Zw33.out; have z1_ := Zw35.out; have z2_ := Zw37.out; have z3_ := Zw39.out; have z4_ := Zw42.out; have z5_ := Zw44.out; have z6_ := Zw47.out; have z7_ := Zw48.out; have z8_ := Zw50.out; have z9_ := Zw51.out; have z10_ := Zw52.out; have z11_ := Zw54.out; have z12_ := Zw56.out; have z13_ := Zw57.out; have h3_ := hs_.1; have h4_ := hs_.2; omega)); have n5_ := Aside0.mk (hy0); have n6_ := Aside0.mk (Kd.S_step HO314.out (fun k_ ho_ hl_ => hkp.2 k_ hl_ (fun hs_ => by have h1_ := ho_.1; have h2_ := ho_.2; have z0_ := Zw33.out; have z1_ := Zw35.out; have z2_ := Zw37.out; have z3_ := Zw39.out; have z4_ := Zw42.out; have z5_ := Zw44.out; have z6_ := Zw47.out; have z7_ := Zw48.out; have z8_ := Zw50.out; have z9_ := Zw51.out; have z10_ := Zw52.out; have z11_ := Zw54.out; have z12_ := Zw56.out; have z13_ := Zw57.out; have h3_ := hs_.1; have h4_ := hs_.2; omega))); have n7_ := Aside0.mk (hb); have n8_ := Aside0.mk (hkp.1); clear BK291; clear HO296; clear HO299; clear HO304; clear BK305; clear HO308; clear HO314; clear HB; have BK291 := n0_; have HO296 := n1_; have HO299 := n2_; have HO304 := n3_; have BK305 := n4_; have HO308 := n5_; have HO314 := n6_; have HB := n7_; have Zw58 := n8_; clear n0_ n1_ n2_ n3_ n4_ n5_ n6_ n7_ n8_; (try clear hb); (try clear hkp); (try clear hd_); (try clear hy0)) | ((with_reducible refine gate_callee (f := 27) rfl ?_); refine goesL_ (some 67) rfl rfl Try.func27 (by kernel_rfl) rfl #[.slice Ao49 t306.length co49, .int .i64 1] rfl (by (try simp only [List.map_toArray, List.map_cons, List.map_nil]); first | done | rfl) ?_; refine calls_of_args (args' := #[.slice Ao49 t320.length co49, .int .i64 1]) (by first | rfl | (rw [show t306.length = t320.length from (Kd.S_reads' HO308.out).1] <;> rfl) | (simp only [show t306.length = t320.length from (Kd.S_reads' HO308.out).1])) ?_; (with_reducible refine (laws_heldInt64SS.calls k _ _ t320 1 t321 _ ?side1 ?side2 A22.out).mono ?_); (case side1 => exact (Kd.S_reads' HO308.out).2.2); (case side2 => (have e_ := Kd.S_reads' HO308.out; have e1_ := e_.1; have e2_ := e_.2.1; omega)); rintro e w59 ⟨rfl, hd_⟩; refine ⟨_, rfl, ?_⟩; have hb := hd_.below; have n0_ := Aside0.mk (blk_below (g := gb291) (o := .cells #[.int .i64 a0_0, .slice A0_1 l0_1.length c0_1] 24 (0, 0)) (by (with_reducible repeat (first | refine blk_drewN ?_ _ | refine blk_drew ?_ | refine blk_alloc ?_ _)); exact BK291.out) hb); have n1_ := Aside0.mk (Kd.S_below HO296.out hb); have n2_ := Aside0.mk (Kd.S_below HO299.out hb); have n3_ := Aside0.mk (Kd.S_below HO304.out hb); have n4_ := Aside0.mk (blk_below (g := gb305) (o := .cells #[.int .i64 t301, .slice Ao43 t302.length co43] 29 (0, 0)) (by (with_reducible repeat (first | refine blk_drewN ?_ _ | refine blk_drew ?_ | refine blk_alloc ?_ _)); exact BK305.out) hb); have n5_ := Aside0.mk (Kd.S_below HO308.out hb); have n6_ := Aside0.mk (Kd.S_below HO314.out hb); have n7_ := Aside0.mk (below_step HB.out hb); have n8_ := Aside0.mk (hb.size); clear BK291; clear HO296; clear HO299; clear HO304; clear BK305; clear HO308; clear HO314; clear HB; have BK291 := n0_; have HO296 := n1_; have HO299 := n2_; have HO304 := n3_; have BK305 := n4_; have HO308 := n5_; have HO314 := n6_; have HB := n7_; have Zw59 := n8_; clear n0_ n1_ n2_ n3_ n4_ n5_ n6_ n7_ n8_; (try clear hb); (try clear hkp); (try clear hd_); have hcz60_0 : w59.cell? ⟨gb291, 0, none⟩ = some (.int .i64 a0_0) := (blk_cell BK291.out 0).trans rfl; have hcz60_1 : w59.cell? ⟨gb291, 1, none⟩ = some (.slice A0_1 l0_1.length c0_1) := (blk_cell BK291.out 1).trans rfl; have hfz60_0 := blk_frozen BK291.out 0; have hfz60_1 := blk_frozen BK291.out 1) | ((with_reducible refine gate_callee (f := 17) rfl ?_); refine goesL_ (some 75) rfl rfl Try.func17 (by kernel_rfl) rfl #[.agg #[.int .i64 a0_0, .slice A0_1 l0_1.length c0_1]] rfl (by (try simp only [List.map_toArray, List.map_cons, List.map_nil]); first | done | rfl) ?_; (with_reducible refine (laws_toGraph.calls k a0_0 _ _ l0_1 t322 t323 _ ?side1 ?side2 A25.out).mono ?_); (case side1 => exact (Kd.C_below HR0_1.out HB.out)); (case side2 => exact HC0_1.out); rintro e w61 ⟨v324, rfl, ho0, hb⟩; refine ⟨_, rfl, ?_⟩; have n0_ := Aside0.mk (blk_below (g := gb291) (o := .cells #[.int .i64 a0_0, .slice A0_1 l0_1.length c0_1] 24 (0, 0)) (by (with_reducible repeat (first | refine blk_drewN ?_ _ | refine blk_drew ?_ | refine blk_alloc ?_ _)); exact BK291.out) hb); have n1_ := Aside0.mk (Kd.S_below HO296.out hb); have n2_ := Aside0.mk (Kd.S_below HO299.out hb); have n3_ := Aside0.mk (Kd.S_below HO304.out hb); have n4_ := Aside0.mk (blk_below (g := gb305) (o := .cells #[.int .i64 t301, .slice Ao43 t302.length co43] 29 (0, 0)) (by (with_reducible repeat (first | refine blk_drewN ?_ _ | refine blk_drew ?_ | refine blk_alloc ?_ _)); exact BK305.out) hb); have n5_ := Aside0.mk (Kd.S_below HO308.out hb); have n6_ := Aside0.mk (Kd.S_below HO314.out hb); have n7_ := Aside0.mk (Kd.S_lower (Kd.S_mono (Kd.S_bound ho0) (fun k_ hk_ => (⟨hk_.2.1, hk_.2.2.1⟩ : w59.heap.size ≤ k_ ∧ k_ < w61.heap.size))) HB.out.size); have n8_ := Aside0.mk (below_step HB.out hb); have n9_ := Aside0.mk (hb.size); clear BK291; clear HO296; clear HO299; clear HO304; clear BK305; clear HO308; clear HO314; clear HB; have BK291 := n0_; have HO296 := n1_; have HO299 := n2_; have HO304 := n3_; have BK305 := n4_; have HO308 := n5_; have HO314 := n6_; have HO325 := n7_; have HB := n8_; have Zw61 := n9_; clear n0_ n1_ n2_ n3_ n4_ n5_ n6_ n7_ n8_ n9_; (try clear hb); (try clear hkp); (try clear hd_); (try clear ho0); obtain ⟨Ao62, co62, eo62⟩ := Kd.S_slice HO325.out; subst eo62) | ((with_reducible refine gate_callee (f := 23) rfl ?_); refine goesL_ (some 76) rfl rfl Try.func23 (by kernel_rfl) rfl #[.agg #[.int .i64 t322, .slice Ao62 t323.length co62]] rfl (by (try simp only [List.map_toArray, List.map_cons, List.map_nil]); first | done | rfl) ?_; (with_reducible refine (impl_AdjacencyOf.calls k t322 _ _ t323 t326 t329 _ ?side1 ?side2 A26.out).mono ?_); (case side1 => exact (Kd.S_reads' HO325.out).2.2); (case side2 => (have e_ := Kd.S_reads' HO325.out; have e1_ := e_.1; have e2_ := e_.2.1; omega)); rintro e w63 ⟨v327, rfl, ho0, hb⟩; refine ⟨_, rfl, ?_⟩; have n0_ := Aside0.mk (blk_below (g := gb291) (o := .cells #[.int .i64 a0_0, .slice A0_1 l0_1.length c0_1] 24 (0, 0)) (by (with_reducible repeat (first | refine blk_drewN ?_ _ | refine blk_drew ?_ | refine blk_alloc ?_ _)); exact BK291.out) hb); have n1_ := Aside0.mk (Kd.S_below HO296.out hb); have n2_ := Aside0.mk (Kd.S_below HO299.out hb); have n3_ := Aside0.mk (Kd.S_below HO304.out hb); have n4_ := Aside0.mk (blk_below (g := gb305) (o := .cells #[.int .i64 t301, .slice Ao43 t302.length co43] 29 (0, 0)) (by (with_reducible repeat (first | refine blk_drewN ?_ _ | refine blk_drew ?_ | refine blk_alloc ?_ _)); exact BK305.out) hb); have n5_ := Aside0.mk (Kd.S_below HO308.out hb); have n6_ := Aside0.mk (Kd.S_below HO314.out hb); have n7_ := Aside0.mk (Kd.S_below HO325.out hb); have n8_ := Aside0.mk (Kd.S_lower (Kd.S_mono (Kd.S_bound ho0) (fun k_ hk_ => (⟨hk_.2.1, hk_.2.2.1⟩ : w61.heap.size ≤ k_ ∧ k_ < w63.heap.size))) HB.out.size); have n9_ := Aside0.mk (below_step HB.out hb); have n10_ := Aside0.mk (hb.size); clear BK291; clear HO296; clear HO299; clear HO304; clear BK305; clear HO308; clear HO314; clear HO325; clear HB; have BK291 := n0_; have HO296 := n1_; have HO299 := n2_; have HO304 := n3_; have BK305 := n4_; have HO308 := n5_; have HO314 := n6_; have HO325 := n7_; have HO328 := n8_; have HB := n9_; have Zw63 := n10_; clear n0_ n1_ n2_ n3_ n4_ n5_ n6_ n7_ n8_ n9_ n10_; (try clear hb); (try clear hkp); (try clear hd_); (try clear ho0); obtain ⟨Ao64, co64, eo64⟩ := Kd.S_slice HO328.out; subst eo64) | ((with_reducible refine gate_callee (f := 24) rfl ?_); refine goesL_ (some 81) rfl rfl Try.func24 (by kernel_rfl) rfl #[.slice Ao64 t326.length co64, .slice Ao40 t297.length co40] rfl (by (try simp only [List.map_toArray, List.map_cons, List.map_nil]); first | done | rfl) ?_; (with_reducible refine (laws_eqInt64SS.calls k _ _ t326 _ _ t297 true _ ?side1 ?side2 ?side3 ?side4 A27.out).mono ?_); (case side1 => exact (Kd.S_reads' HO328.out).2.2); (case side2 => (have e_ := Kd.S_reads' HO328.out; have e1_ := e_.1; have e2_ := e_.2.1; omega)); (case side3 => exact (Kd.S_reads' HO299.out).2.2); (case side4 => (have e_ := Kd.S_reads' HO299.out; have e1_ := e_.1; have e2_ := e_.2.1; omega)); rintro e w65 ⟨rfl, hd_⟩; refine ⟨_, rfl, ?_⟩; have hb := hd_.below; have n0_ := Aside0.mk (blk_below (g := gb291) (o := .cells #[.int .i64 a0_0, .slice A0_1 l0_1.length c0_1] 24 (0, 0)) (by (with_reducible repeat (first | refine blk_drewN ?_ _ | refine blk_drew ?_ | refine blk_alloc ?_ _)); exact BK291.out) hb); have n1_ := Aside0.mk (Kd.S_below HO296.out hb); have n2_ := Aside0.mk (Kd.S_below HO299.out hb); have n3_ := Aside0.mk (Kd.S_below HO304.out hb); have n4_ := Aside0.mk (blk_below (g := gb305) (o := .cells #[.int .i64 t301, .slice Ao43 t302.length co43] 29 (0, 0)) (by (with_reducible repeat (first | refine blk_drewN ?_ _ | refine blk_drew ?_ | refine blk_alloc ?_ _)); exact BK305.out) hb); have n5_ := Aside0.mk (Kd.S_below HO308.out hb); have n6_ := Aside0.mk (Kd.S_below HO314.out hb); have n7_ := Aside0.mk (Kd.S_below HO325.out hb); have n8_ := Aside0.mk (Kd.S_below HO328.out hb); have n9_ := Aside0.mk (below_step HB.out hb); have n10_ := Aside0.mk (hb.size); clear BK291; clear HO296; clear HO299; clear HO304; clear BK305; clear HO308; clear HO314; clear HO325; clear HO328; clear HB; have BK291 := n0_; have HO296 := n1_; have HO299 := n2_; have HO304 := n3_; have BK305 := n4_; have HO308 := n5_; have HO314 := n6_; have HO325 := n7_; have HO328 := n8_; have HB := n9_; have Zw65 := n10_; clear n0_ n1_ n2_ n3_ n4_ n5_ n6_ n7_ n8_ n9_ n10_; (try clear hb); (try clear hkp); (try clear hd_)) | ((with_reducible refine gate_callee (f := 27) rfl ?_); refine goesL_ (some 90) rfl rfl Try.func27 (by kernel_rfl) rfl #[.slice Ao49 t306.length co49, .int .i64 1] rfl (by (try simp only [List.map_toArray, List.map_cons, List.map_nil]); first | done | rfl) ?_; refine calls_of_args (args' := #[.slice Ao49 t320.length co49, .int .i64 1]) (by first | rfl | (rw [show t306.length = t320.length from (Kd.S_reads' HO308.out).1] <;> rfl) | (simp only [show t306.length = t320.length from (Kd.S_reads' HO308.out).1])) ?_; (with_reducible refine (laws_heldInt64SS.calls k _ _ t320 1 t331 _ ?side1 ?side2 A30.out).mono ?_); (case side1 => exact (Kd.S_reads' HO308.out).2.2); (case side2 => (have e_ := Kd.S_reads' HO308.out; have e1_ := e_.1; have e2_ := e_.2.1; omega)); rintro e w66 ⟨rfl, hd_⟩; refine ⟨_, rfl, ?_⟩; have hb := hd_.below; have n0_ := Aside0.mk (blk_below (g := gb291) (o := .cells #[.int .i64 a0_0, .slice A0_1 l0_1.length c0_1] 24 (0, 0)) (by (with_reducible repeat (first | refine blk_drewN ?_ _ | refine blk_drew ?_ | refine blk_alloc ?_ _)); exact BK291.out) hb); have n1_ := Aside0.mk (Kd.S_below HO296.out hb); have n2_ := Aside0.mk (Kd.S_below HO299.out hb); have n3_ := Aside0.mk (Kd.S_below HO304.out hb); have n4_ := Aside0.mk (blk_below (g := gb305) (o := .cells #[.int .i64 t301, .slice Ao43 t302.length co43] 29 (0, 0)) (by (with_reducible repeat (first | refine blk_drewN ?_ _ | refine blk_drew ?_ | refine blk_alloc ?_ _)); exact BK305.out) hb); have n5_ := Aside0.mk (Kd.S_below HO308.out hb); have n6_ := Aside0.mk (Kd.S_below HO314.out hb); have n7_ := Aside0.mk (Kd.S_below HO325.out hb); have n8_ := Aside0.mk (Kd.S_below HO328.out hb); have n9_ := Aside0.mk (below_step HB.out hb); have n10_ := Aside0.mk (hb.size); clear BK291; clear HO296; clear HO299; clear HO304; clear BK305; clear HO308; clear HO314; clear HO325; clear HO328; clear HB; have BK291 := n0_; have HO296 := n1_; have HO299 := n2_; have HO304 := n3_; have BK305 := n4_; have HO308 := n5_; have HO314 := n6_; have HO325 := n7_; have HO328 := n8_; have HB := n9_; have Zw66 := n10_; clear n0_ n1_ n2_ n3_ n4_ n5_ n6_ n7_ n8_ n9_ n10_; (try clear hb); (try clear hkp); (try clear hd_)))
                          go_ret
                          exact ⟨by first | rfl | (simp [errW_none, errW_some] <;> rfl) | (simp [*, errW_none, errW_some] <;> rfl), by repeat (first | (with_reducible first | exact HB.out | apply below_alloc | apply pw_below_drewN | apply below_drew1 | refine below_set ?_ GE291.out | refine below_set ?_ GE305.out) | exact HB.out)⟩
                        · rw [if_neg c32] at H
                          have c32b0 : (t331 == t319) = false := beq_eq_false_iff_ne.mpr c32
                          have c32b1 : (t331 != t319) = true := bne_iff_ne.mpr c32
                          exact absurd H (by simp)
                    · rw [if_neg c29] at H
                      have c29b0 : (t329 == t300) = false := beq_eq_false_iff_ne.mpr c29
                      have c29b1 : (t329 != t300) = true := bne_iff_ne.mpr c29
                      exact absurd H (by simp)
                  · replace c28 := Bool.eq_false_iff.mpr c28
                    subst c28
                    have H1 : (some false) = some true := by rw [if_neg (show ¬ (false = true) by decide)] at H; exact H
                    clear H
                    have H := H1
                    clear H1
                    exact absurd H (by simp)
                · rw [if_neg c24] at H
                  have c24b0 : (t321 == t319) = false := beq_eq_false_iff_ne.mpr c24
                  have c24b1 : (t321 != t319) = true := bne_iff_ne.mpr c24
                  exact absurd H (by simp)
            · replace c20 := Bool.eq_false_iff.mpr c20
              subst c20
              have H1 : (some false) = some true := by rw [if_neg (show ¬ (false = true) by decide)] at H; exact H
              clear H
              have H := H1
              clear H1
              exact absurd H (by simp)
        · replace c16 := Bool.eq_false_iff.mpr c16
          subst c16
          have H1 : (some false) = some true := by rw [if_neg (show ¬ (false = true) by decide)] at H; exact H
          clear H
          have H := H1
          clear H1
          exact absurd H (by simp)
      · rw [if_neg c13] at H
        have c13b0 : (t309 == t300) = false := beq_eq_false_iff_ne.mpr c13
        have c13b1 : (t309 != t300) = true := bne_iff_ne.mpr c13
        exact absurd H (by simp)
    · replace c12 := Bool.eq_false_iff.mpr c12
      subst c12
      have H1 : (some false) = some true := by rw [if_neg (show ¬ (false = true) by decide)] at H; exact H
      clear H
      have H := H1
      clear H1
      exact absurd H (by simp)

/-- THE ONE PURE STATEMENT of laws_FnExactAdjacencyOf: yours. -/
def laws_FnExactAdjacencyOf.Pure : Prop := ∀ (a0_0 : Int) (l0_1 : List (List Int)), (Lit.int .i64 a0_0).wf = true → l0_1.length ≤ maxLen → (∀ r ∈ l0_1, r.length ≤ maxLen ∧ ∀ y ∈ r, (Lit.int .i64 y).wf = true) → ∃ k, laws_FnExactAdjacencyOf.f k a0_0 l0_1 = some true
theorem laws_FnExactAdjacencyOf.walk (P : laws_FnExactAdjacencyOf.Pure) (a0_0 : Int) (A0_1 : Option Addr) (c0_1 : Nat) (l0_1 : List (List Int)) (w : World) (hw0_0 : (Lit.int .i64 a0_0).wf = true) (hm0_1 : l0_1.length ≤ maxLen) (hw0_1 : (∀ r ∈ l0_1, r.length ≤ maxLen ∧ ∀ y ∈ r, (Lit.int .i64 y).wf = true)) (hr0_1 : Kd.C (Kd.slice 2 (Kd.int .i64)) w A0_1 l0_1.length l0_1) (hc0_1 : l0_1.length ≤ c0_1) :
    Calls Try.prog 4 #[.agg #[.int .i64 a0_0, .slice A0_1 l0_1.length c0_1]] w fun e w' => e = .returned (.bool true) ∧ Below w.heap.size w w' := by
  obtain ⟨k, h⟩ := P a0_0 l0_1 hw0_0 hm0_1 hw0_1
  refine (laws_FnExactAdjacencyOf.calls k a0_0 _ _ l0_1 w hr0_1 hc0_1 h).mono ?_
  rintro e w' ⟨rfl, hd⟩
  exact ⟨rfl, hd⟩

end Go.Proofs.Ytedhnaljedonfaa.G
